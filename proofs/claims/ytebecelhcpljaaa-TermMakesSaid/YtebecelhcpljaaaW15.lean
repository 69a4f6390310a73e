/- The document's pool: Make. -/
import Derived.Test.YtebecelhcpljaaaW14
import Derived.Test.YtebecelhcpljaaaGxRegionU
import Derived.Deep.Cut
import Derived.WalkKit
import Derived.Lib.Hide
import Derived.Deep.LoopGhost
import Derived.WalkSpells
set_option linter.unusedVariables false
set_option linter.unusedSimpArgs false
namespace Go.Proofs.Ytebecelhcpljaaa
open Go.RowKit Go.Gx Go.Gx.Trm
set_option maxRecDepth 100000
theorem oBinG {P : Program} {a : Act} {w : World} {K : Act → World → Prop} {Q : Exit → Act → World → Prop} {op : BinOp} {dst : Option Tmp} {t u ty : TypeId} {x y : Operand} {pos : String} {af : Array Edge} {g : Option (Nat × Bool)} (k : Oper.wp P ⟨dst, .binOp op t x y u, ty, pos, af, g⟩ a w K Q) : Oper.wp P ⟨dst, .binOp op t x y u, ty, pos, af, g⟩ a w K Q := k
theorem oStG {P : Program} {a : Act} {w : World} {K : Act → World → Prop} {Q : Exit → Act → World → Prop} {dst : Option Tmp} {t ty : TypeId} {x y : Operand} {pos : String} {af : Array Edge} {g : Option (Nat × Bool)} (k : Oper.wp P ⟨dst, .store t x y, ty, pos, af, g⟩ a w K Q) : Oper.wp P ⟨dst, .store t x y, ty, pos, af, g⟩ a w K Q := k
theorem oCallG {P : Program} {a : Act} {w : World} {K : Act → World → Prop} {Q : Exit → Act → World → Prop} {f : Operand} {dst : Option Tmp} {xs : Array Operand} {ts : Array TypeId} {ty : TypeId} {pos : String} {af : Array Edge} {g : Option (Nat × Bool)} (k : Oper.wp P ⟨dst, .call { callee := .value f, args := xs, argTypes := ts }, ty, pos, af, g⟩ a w K Q) : Oper.wp P ⟨dst, .call { callee := .value f, args := xs, argTypes := ts }, ty, pos, af, g⟩ a w K Q := k
end Go.Proofs.Ytebecelhcpljaaa
section
open Go.Proofs.Ytebecelhcpljaaa
open Go.RowKit Go.Gx Go.Gx.Trm
set_option maxRecDepth 100000
theorem Go.Gx.wp_region_UH {P : Program} {Q : Exit → Act → World → Prop} {w0 w : World} {D : Nat → Prop} {L : List Ent} (H : Hp w0 D L w) {id : Nat} {l : List Oper} {a : Act} (hm : P.follows .mixedOrders = true) (hchk : chkWithS P l.toArray (ancsU l) = true)
    (h : twL P l.toArray (EndQ P l.toArray Q) (fun u => Hp w0 D L u) l a w.drew) : (Code.region id l.toArray true).wp P Q a w := wp_region_U (fun u => Hp w0 D L u) hm hchk H.drew h
end
namespace Go.Proofs.Ytebecelhcpljaaa
open Go.RowKit Go.Gx Go.Gx.Trm
set_option maxRecDepth 100000
theorem onL {w0 w : World} {D : Nat → Prop} {L : List Ent} {f : FuncId} {args : Array Value} {r : Value} (H : Hp w0 D L w) (h : ∀ u, Hp w0 D L u → Calls Try.prog f args u fun e w' => e = .returned r ∧ Hp w0 D L w') : ∀ u, Hp w0 D L u → Calls Try.prog f args u fun e w' => e = .returned r ∧ Hp w0 D L w' := h
theorem run_maxX {P : Program} {w : World} {a : Act} {m n r : Int} {dst : Option Tmp} {ts : Array TypeId} {ty : TypeId} {x y : Operand} {pos : String} {af : Array Edge} {g : Option (Nat × Bool)} (hx : a.eval x = .int .i64 m) (hy : a.eval y = .int .i64 n) (hr : max m n = r) :
    (execOp a.eval ⟨dst, .call { callee := .builtin .max, args := #[x, y], argTypes := ts }, ty, pos, af, g⟩).run P w = .ok (.value (.int .i64 r)) w := by
  subst hr
  simp [execOp, resolve, invoke, builtin, hx, hy, Builtin.max_, Builtin.max2]
  split <;> omega
def RMkP (w0 : World) (D : Nat → Prop) (R : List Ent) (p : Nat) (l2 : List En) (t er : Int) (e : Ending) (w' : World) : Prop :=
  ∃ (b s d : Option Nat) (cb cs cd : Nat), e = .returned (.tuple #[.int .i64 t, .int .i64 er]) ∧ Hp w0 D (eQ p b s d cb cs cd l2 :: eQn b cb l2 :: eQs s cs l2 :: eQd d cd l2 :: R) w'
theorem rq_new {w0 w : World} {D : Nat → Prop} {L : List Ent} {p : Nat} {b s d : Option Nat} {cb cs cd : Nat} {l : List En} {n : Nd} {sz dp : Int}
    (H : Hp w0 D (⟨some p, [.slice (adr b 0) (l.length + 1) cb, .slice (adr s 0) (l.length + 1) cs, .slice (adr d 0) (l.length + 1) cd], 43, 3⟩ ::
      ⟨b, rowsN (l.map En.n) ++ [.int .i64 n.kind, .int .i64 n.frm, .int .i64 n.dst, .int .u64 n.num, .string n.text, .int .i64 n.a, .int .i64 n.b], 33, cb * 7⟩ :: ⟨s, sizesV l ++ [.int .i64 sz], 3, cs * 1⟩ :: ⟨d, deepsV l ++ [.int .i64 dp], 3, cd * 1⟩ :: L) w) :
    Hp w0 D (eQ p b s d cb cs cd (l ++ [⟨n, sz, dp⟩]) :: eQn b cb (l ++ [⟨n, sz, dp⟩]) :: eQs s cs (l ++ [⟨n, sz, dp⟩]) :: eQd d cd (l ++ [⟨n, sz, dp⟩]) :: L) w := by
  simp only [eQ, eQn, eQs, eQd, List.length_append, List.length_cons, List.length_nil, Nat.zero_add, sizesV, deepsV, List.map_append, List.map_cons, List.map_nil]
  rw [← rowsN_snoc]
  simp only [Nat.mul_one, sizesV, deepsV] at H
  exact H
theorem rIn_c {w0 w : World} {D : Nat → Prop} {R : List Ent} {p : Nat} {b s d : Option Nat} {cb cs cd : Nat} {l : List En} {t : Int} {r : Bool} (H : Hp w0 D R w) {i : Nat} (hp : R[i]? = some (eQ p b s d cb cs cd l)) (hr : inP l t = r) :
    Calls Try.prog 36 #[.pointer (some ⟨p, 0, none⟩), .int .i64 t] w fun e w' => e = .returned (.bool r) ∧ Hp w0 D R w' := by
  subst hr; exact rIn_at H hp t
theorem rSize_c {w0 w : World} {D : Nat → Prop} {R : List Ent} {p : Nat} {b s d : Option Nat} {cb cs cd : Nat} {l : List En} {t r : Int} (H : Hp w0 D R w) {i : Nat} (hp : R[i]? = some (eQ p b s d cb cs cd l)) {j : Nat} (hq : R[j]? = some (eQs s cs l)) (hl : l.length ≤ 65536) (hr : sizeP l t = r) :
    Calls Try.prog 50 #[.pointer (some ⟨p, 0, none⟩), .int .i64 t] w fun e w' => e = .returned (.int .i64 r) ∧ Hp w0 D R w' := by
  subst hr; exact rSize_at H hp hq hl t
theorem rDepth_c {w0 w : World} {D : Nat → Prop} {R : List Ent} {p : Nat} {b s d : Option Nat} {cb cs cd : Nat} {l : List En} {t r : Int} (H : Hp w0 D R w) {i : Nat} (hp : R[i]? = some (eQ p b s d cb cs cd l)) {j : Nat} (hq : R[j]? = some (eQd d cd l)) (hl : l.length ≤ 65536) (hr : deepP l t = r) :
    Calls Try.prog 51 #[.pointer (some ⟨p, 0, none⟩), .int .i64 t] w fun e w' => e = .returned (.int .i64 r) ∧ Hp w0 D R w' := by
  subst hr; exact rDepth_at H hp hq hl t
set_option maxHeartbeats 16000000 in
theorem rMk_shape {w0 w : World} {D : Nat → Prop} {R : List Ent} {p : Nat} {b s d : Option Nat} {cb cs cd : Nat} {l : List En} {n : Nd} {er : Int} (H : Hp w0 D (eQ p b s d cb cs cd l :: eQn b cb l :: eQs s cs l :: eQd d cd l :: R) w) (hsh : shapeE n = er) (h5 : ¬ er = 0) :
    Calls Try.prog 17 #[.pointer (some ⟨p, 0, none⟩), .agg n.cells.toArray] w fun e w' => RMkP w0 D R p (l) (0) (er) e w' := by
  obtain ⟨x1, x2, x3, x4, x5, x6, x7⟩ := n
  (try dsimp only at *)
  have HSH := Lib.hid hsh
  clear hsh
  simp only [Nd.cells]
  go_enter Try.func17, Try.ntmps17
  go_wp2_with (first
    | (go_at_call 48; ((refine (rshape_at (n := ⟨x1, x2, x3, x4, x5, x6, x7⟩) H HSH.out).mono ?_); rintro e w1 ⟨rfl, H1⟩; clear H; have H := H1; clear H1))
    | ((with_reducible refine gLd ?_); refine eLd H rfl rfl ?_; first | ((repeat ((with_reducible refine gEx ?_); first | (refine kLd 0 rfl rfl (by exact TT _ rfl) rfl ?_) | (refine kLdA 0 rfl rfl (by exact TT _ rfl) (Nat.le_of_ble_eq_true rfl) (by simp only [Nd.cells, Nd.zero, eP, eE, LS2]; rfl) ?_) | (refine nxL ?_))); fail_if_success (with_reducible refine gEx ?_)))
    | ((with_reducible refine gBx ?_); refine bxA H rfl rfl rfl ?_; clear H; intro b1 w1 H)
    | ((with_reducible refine gEq ?_); (first | (refine wl_cmp rfl rfl rfl rfl ?_) | (refine wl_scmp rfl rfl rfl rfl ?_)); intro rb hrb; cases rb <;> (first | (exfalso; simp at hrb; done) | ((try simp only [CS1, gt_iff_lt, ge_iff_le, ne_eq, Decidable.not_not] at hrb); (try subst hrb); (try (exfalso; omega))))))
  all_goals go_ret2
  all_goals exact ⟨b, s, d, cb, cs, cd, rfl, H.drop⟩
set_option maxHeartbeats 16000000 in
theorem rMk_missA {w0 w : World} {D : Nat → Prop} {R : List Ent} {p : Nat} {b s d : Option Nat} {cb cs cd : Nat} {l : List En} {n : Nd} {kd : Int} (H : Hp w0 D (eQ p b s d cb cs cd l :: eQn b cb l :: eQs s cs l :: eQd d cd l :: R) w) (hsh : shapeE n = 0) (hkd : kidsN n.kind = kd) (hk : 1 ≤ kd) (hia : inP l n.a = false) :
    Calls Try.prog 17 #[.pointer (some ⟨p, 0, none⟩), .agg n.cells.toArray] w fun e w' => RMkP w0 D R p (l) (0) (51) e w' := by
  obtain ⟨x1, x2, x3, x4, x5, x6, x7⟩ := n
  (try dsimp only at *)
  have HSH := Lib.hid hsh
  have HKD := Lib.hid hkd
  have HIA := Lib.hid hia
  clear hsh hkd hia
  simp only [Nd.cells]
  go_enter Try.func17, Try.ntmps17
  go_wp2_with (first
    | (go_at_call 48; ((refine (rshape_at (n := ⟨x1, x2, x3, x4, x5, x6, x7⟩) H HSH.out).mono ?_); rintro e w1 ⟨rfl, H1⟩; clear H; have H := H1; clear H1))
    | (go_at_call 49; ((refine (kidsN_at H HKD.out).mono ?_); rintro e w1 ⟨rfl, H1⟩; clear H; have H := H1; clear H1))
    | (go_at_call 36; first | ((with_reducible refine (rIn_c (i := 1) H rfl HIA.out).mono ?_); rintro e w1 ⟨rfl, H1⟩; clear H; have H := H1; clear H1) | ((with_reducible refine (rIn_c (i := 1) H rfl HIA.out).mono ?_); rintro e w1 ⟨rfl, H1⟩; clear H; have H := H1; clear H1))
    | ((with_reducible refine gLd ?_); refine eLd H rfl rfl ?_; first | ((repeat ((with_reducible refine gEx ?_); first | (refine kLd 0 rfl rfl (by exact TT _ rfl) rfl ?_) | (refine kLdA 0 rfl rfl (by exact TT _ rfl) (Nat.le_of_ble_eq_true rfl) (by simp only [Nd.cells, Nd.zero, eP, eE, LS2]; rfl) ?_) | (refine nxL ?_))); fail_if_success (with_reducible refine gEx ?_)))
    | ((with_reducible refine gBx ?_); refine bxA H rfl rfl rfl ?_; clear H; intro b1 w1 H)
    | ((with_reducible refine gEq ?_); (first | (refine wl_cmp rfl rfl rfl rfl ?_) | (refine wl_scmp rfl rfl rfl rfl ?_)); intro rb hrb; cases rb <;> (first | (exfalso; simp at hrb; done) | ((try simp only [CS1, gt_iff_lt, ge_iff_le, ne_eq, Decidable.not_not] at hrb); (try subst hrb); (try (exfalso; omega))))))
  all_goals go_ret2
  all_goals exact ⟨b, s, d, cb, cs, cd, rfl, H.drop⟩
set_option maxHeartbeats 16000000 in
theorem rMk_missB {w0 w : World} {D : Nat → Prop} {R : List Ent} {p : Nat} {b s d : Option Nat} {cb cs cd : Nat} {l : List En} {n : Nd}  (H : Hp w0 D (eQ p b s d cb cs cd l :: eQn b cb l :: eQs s cs l :: eQd d cd l :: R) w) (hsh : shapeE n = 0) (hkd : kidsN n.kind = 2) (hia : inP l n.a = true) (hib : inP l n.b = false) :
    Calls Try.prog 17 #[.pointer (some ⟨p, 0, none⟩), .agg n.cells.toArray] w fun e w' => RMkP w0 D R p (l) (0) (51) e w' := by
  obtain ⟨x1, x2, x3, x4, x5, x6, x7⟩ := n
  (try dsimp only at *)
  have HSH := Lib.hid hsh
  have HKD := Lib.hid hkd
  have HIA := Lib.hid hia
  have HIB := Lib.hid hib
  clear hsh hkd hia hib
  simp only [Nd.cells]
  go_enter Try.func17, Try.ntmps17
  go_wp2_with (first
    | (go_at_call 48; ((refine (rshape_at (n := ⟨x1, x2, x3, x4, x5, x6, x7⟩) H HSH.out).mono ?_); rintro e w1 ⟨rfl, H1⟩; clear H; have H := H1; clear H1))
    | (go_at_call 49; ((refine (kidsN_at H HKD.out).mono ?_); rintro e w1 ⟨rfl, H1⟩; clear H; have H := H1; clear H1))
    | (go_at_call 36; first | ((with_reducible refine (rIn_c (i := 1) H rfl HIA.out).mono ?_); rintro e w1 ⟨rfl, H1⟩; clear H; have H := H1; clear H1) | ((with_reducible refine (rIn_c (i := 1) H rfl HIB.out).mono ?_); rintro e w1 ⟨rfl, H1⟩; clear H; have H := H1; clear H1))
    | ((with_reducible refine gLd ?_); refine eLd H rfl rfl ?_; first | ((repeat ((with_reducible refine gEx ?_); first | (refine kLd 0 rfl rfl (by exact TT _ rfl) rfl ?_) | (refine kLdA 0 rfl rfl (by exact TT _ rfl) (Nat.le_of_ble_eq_true rfl) (by simp only [Nd.cells, Nd.zero, eP, eE, LS2]; rfl) ?_) | (refine nxL ?_))); fail_if_success (with_reducible refine gEx ?_)))
    | ((with_reducible refine gBx ?_); refine bxA H rfl rfl rfl ?_; clear H; intro b1 w1 H)
    | ((with_reducible refine gEq ?_); (first | (refine wl_cmp rfl rfl rfl rfl ?_) | (refine wl_scmp rfl rfl rfl rfl ?_)); intro rb hrb; cases rb <;> (first | (exfalso; simp at hrb; done) | ((try simp only [CS1, gt_iff_lt, ge_iff_le, ne_eq, Decidable.not_not] at hrb); (try subst hrb); (try (exfalso; omega))))))
  all_goals go_ret2
  all_goals exact ⟨b, s, d, cb, cs, cd, rfl, H.drop⟩
set_option maxHeartbeats 16000000 in
theorem rMk_bigA0 {w0 w : World} {D : Nat → Prop} {R : List Ent} {p : Nat} {b s d : Option Nat} {cb cs cd : Nat} {l : List En} {n : Nd} {sa sb da db mx : Int}  (H : Hp w0 D (eQ p b s d cb cs cd l :: eQn b cb l :: eQs s cs l :: eQd d cd l :: R) w) (hsh : shapeE n = 0) (hkd : kidsN n.kind = 0) (hl : l.length ≤ 65536) (hsa : sizeP l n.a = sa) (hsb : sizeP l n.b = sb) (hda : deepP l n.a = da) (hdb : deepP l n.b = db) (hmx : max da db = mx) (s0 : 0 ≤ sa) (s1 : sa ≤ 4096) (t0 : 0 ≤ sb) (t1 : sb ≤ 4096) (m0 : 0 ≤ mx) (m1 : mx ≤ 64) (hb : 4096 < 1 + sa + sb) :
    Calls Try.prog 17 #[.pointer (some ⟨p, 0, none⟩), .agg n.cells.toArray] w fun e w' => RMkP w0 D R p (l) (0) (52) e w' := by
  obtain ⟨x1, x2, x3, x4, x5, x6, x7⟩ := n
  (try dsimp only at *)
  have HSH := Lib.hid hsh
  have HL := Lib.hid hl
  have HSA := Lib.hid hsa
  have HSB := Lib.hid hsb
  have HDA := Lib.hid hda
  have HDB := Lib.hid hdb
  have HMX := Lib.hid hmx
  clear hsh hl hsa hsb hda hdb hmx
  have HKD := Lib.hid hkd
  clear hkd
  simp only [Nd.cells]
  go_enter Try.func17, Try.ntmps17
  go_upto_region 7 with ((first
    | (go_at_call 48; ((refine (rshape_at (n := ⟨x1, x2, x3, x4, x5, x6, x7⟩) H HSH.out).mono ?_); rintro e w1 ⟨rfl, H1⟩; clear H; have H := H1; clear H1))
    | (go_at_call 49; ((refine (kidsN_at H HKD.out).mono ?_); rintro e w1 ⟨rfl, H1⟩; clear H; have H := H1; clear H1))
    | (go_at_call 36; fail)
    | ((with_reducible refine gLd ?_); refine eLd H rfl rfl ?_; first | ((repeat ((with_reducible refine gEx ?_); first | (refine kLd 0 rfl rfl (by exact TT _ rfl) rfl ?_) | (refine kLdA 0 rfl rfl (by exact TT _ rfl) (Nat.le_of_ble_eq_true rfl) (by simp only [Nd.cells, Nd.zero, eP, eE, LS2]; rfl) ?_) | (refine nxL ?_))); fail_if_success (with_reducible refine gEx ?_)))
    | ((with_reducible refine gSt ?_); (first | (refine eSt H rfl rfl ⟨.int _ _, rfl, ?_⟩) | (refine eSt H rfl rfl ⟨.bool _, rfl, ?_⟩) | (refine eSt H rfl rfl ⟨.slice _ _ _, rfl, ?_⟩) | (refine eSt H rfl rfl ⟨.pointer _, rfl, ?_⟩) | (refine eSt H rfl rfl ⟨.string _, rfl, ?_⟩) | (refine eSt H rfl rfl ⟨.agg (List.toArray _), rfl, ?_⟩)); (first | ((repeat ((with_reducible refine gES ?_); first | (refine kSt 0 rfl rfl (by exact TT _ rfl) rfl (Nat.le_of_ble_eq_true rfl) ?_) | (refine kStA 0 rfl rfl (by exact TT _ rfl) rfl rfl (Nat.le_of_ble_eq_true rfl) ?_) | (refine nxS ?_))); fail_if_success (with_reducible refine gES ?_))); clear H; intro w1 H; simp only [List.set_cons_zero, List.set_cons_succ] at H; (try simp only [lay, LS1, Nat.reduceAdd] at H))
    | ((with_reducible refine gBx ?_); refine bxA H rfl rfl rfl ?_; clear H; intro b1 w1 H)
    | ((with_reducible refine gBs ?_); (first | (refine bs1 H rfl (by exact SS _ rfl) rfl (Nat.le_of_ble_eq_true rfl) (Nat.le_of_ble_eq_true rfl) rfl ?_) | (refine wl_buildSlice0 rfl (by exact SS _ rfl) H ?_)); clear H; intro b1 w1 H)
    | ((with_reducible refine gEq ?_); (first | (refine wl_cmp rfl rfl rfl rfl ?_) | (refine wl_scmp rfl rfl rfl rfl ?_)); intro rb hrb; cases rb <;> (first | (exfalso; simp at hrb; done) | ((try simp only [CS1, gt_iff_lt, ge_iff_le, ne_eq, Decidable.not_not] at hrb); (try subst hrb); (try (exfalso; omega)))))
    | ((with_reducible refine gAl ?_); (first | (refine al H Z33 rfl rfl ?_) | (refine al H Z110 rfl rfl ?_) | (refine al H Z122 rfl rfl ?_)); clear H; intro b1 w1 H)
    | ((with_reducible refine gRg ?_); refine wp_region_text rfl (by decide +kernel) ?_; replace H := H.drew)
    | ((with_reducible refine EndQ.intro ?_ ?_); (· kernel_rfl))))
  have K1 := onL H (fun u hu => rSize_c (i := 1) (j := 3) hu rfl rfl HL.out HSA.out)
  have K2 := onL H (fun u hu => rSize_c (i := 1) (j := 3) hu rfl rfl HL.out HSB.out)
  have K3 := onL H (fun u hu => rDepth_c (i := 1) (j := 4) hu rfl rfl HL.out HDA.out)
  have K4 := onL H (fun u hu => rDepth_c (i := 1) (j := 4) hu rfl rfl HL.out HDB.out)
  go_upto_region 9 with ((first
    | ((with_reducible refine gLd ?_); refine eLd H rfl rfl ?_; first | ((repeat ((with_reducible refine gEx ?_); first | (refine kLd 0 rfl rfl (by exact TT _ rfl) rfl ?_) | (refine kLdA 0 rfl rfl (by exact TT _ rfl) (Nat.le_of_ble_eq_true rfl) (by simp only [Nd.cells, Nd.zero, eP, eE, LS2]; rfl) ?_) | (refine nxL ?_))); fail_if_success (with_reducible refine gEx ?_)))
    | ((with_reducible refine gSt ?_); (first | (refine eSt H rfl rfl ⟨.int _ _, rfl, ?_⟩) | (refine eSt H rfl rfl ⟨.bool _, rfl, ?_⟩) | (refine eSt H rfl rfl ⟨.slice _ _ _, rfl, ?_⟩) | (refine eSt H rfl rfl ⟨.pointer _, rfl, ?_⟩) | (refine eSt H rfl rfl ⟨.string _, rfl, ?_⟩) | (refine eSt H rfl rfl ⟨.agg (List.toArray _), rfl, ?_⟩)); (first | ((repeat ((with_reducible refine gES ?_); first | (refine kSt 0 rfl rfl (by exact TT _ rfl) rfl (Nat.le_of_ble_eq_true rfl) ?_) | (refine kStA 0 rfl rfl (by exact TT _ rfl) rfl rfl (Nat.le_of_ble_eq_true rfl) ?_) | (refine nxS ?_))); fail_if_success (with_reducible refine gES ?_))); clear H; intro w1 H; simp only [List.set_cons_zero, List.set_cons_succ] at H; (try simp only [lay, LS1, Nat.reduceAdd] at H))
    | ((with_reducible refine gBx ?_); refine bxA H rfl rfl rfl ?_; clear H; intro b1 w1 H)
    | ((with_reducible refine gBs ?_); (first | (refine bs1 H rfl (by exact SS _ rfl) rfl (Nat.le_of_ble_eq_true rfl) (Nat.le_of_ble_eq_true rfl) rfl ?_) | (refine wl_buildSlice0 rfl (by exact SS _ rfl) H ?_)); clear H; intro b1 w1 H)
    | ((with_reducible refine gEq ?_); (first | (refine wl_cmp rfl rfl rfl rfl ?_) | (refine wl_scmp rfl rfl rfl rfl ?_)); intro rb hrb; cases rb <;> (first | (exfalso; simp at hrb; done) | ((try simp only [CS1, gt_iff_lt, ge_iff_le, ne_eq, Decidable.not_not] at hrb); (try subst hrb); (try (exfalso; omega)))))
    | ((with_reducible refine gAl ?_); (first | (refine al H Z33 rfl rfl ?_) | (refine al H Z110 rfl rfl ?_) | (refine al H Z122 rfl rfl ?_)); clear H; intro b1 w1 H)
    | ((with_reducible refine gRg ?_); refine wp_region_text rfl (by decide +kernel) ?_; replace H := H.drew)
    | ((with_reducible refine EndQ.intro ?_ ?_); (· kernel_rfl))
    | ((with_reducible refine gRg ?_); refine wp_region_UH H rfl (by decide +kernel) ?_; replace H := H.drew; repeat' (first | (refine twL_ldskip rfl ?_; (try simp only [Act.put, List.setIfInBounds_toArray, List.set_cons_succ, List.set_cons_zero])) | (refine twL_ld (fun u h => h) rfl rfl ?_; (first | ((repeat ((with_reducible refine gEx ?_); first | (refine kLd 0 rfl rfl (by exact TT _ rfl) rfl ?_) | (refine kLdA 0 rfl rfl (by exact TT _ rfl) (Nat.le_of_ble_eq_true rfl) (by simp only [Nd.cells, Nd.zero, eP, eE, LS2]; rfl) ?_) | (refine nxL ?_))); fail_if_success (with_reducible refine gEx ?_))); (try simp only [Act.put, List.setIfInBounds_toArray, List.set_cons_succ, List.set_cons_zero])) | (refine twL_skip rfl rfl (H) ?_; (try simp only [Act.put, List.setIfInBounds_toArray, List.set_cons_succ, List.set_cons_zero])) | (refine twL_op rfl rfl ?_; intro K hK; first | (refine wp_run (run_maxX rfl rfl HMX.out) ?_; (first | refine hK _ _ (H) ?_); clear hK K; (try simp only [Act.put, List.setIfInBounds_toArray, List.set_cons_succ, List.set_cons_zero])) | ((with_reducible refine oStG ?_); (first | (refine oSt H rfl ⟨.int _ _, rfl, ?_⟩) | (refine oSt H rfl ⟨.bool _, rfl, ?_⟩) | (refine oSt H rfl ⟨.slice _ _ _, rfl, ?_⟩) | (refine oSt H rfl ⟨.pointer _, rfl, ?_⟩) | (refine oSt H rfl ⟨.string _, rfl, ?_⟩) | (refine oSt H rfl ⟨.agg (List.toArray _), rfl, ?_⟩)); (first | ((repeat ((with_reducible refine gES ?_); first | (refine kSt 0 rfl rfl (by exact TT _ rfl) rfl (Nat.le_of_ble_eq_true rfl) ?_) | (refine kStA 0 rfl rfl (by exact TT _ rfl) rfl rfl (Nat.le_of_ble_eq_true rfl) ?_) | (refine nxS ?_))); fail_if_success (with_reducible refine gES ?_))); clear H; intro w1 H; simp only [List.set_cons_zero, List.set_cons_succ] at H; (first | refine hK _ _ (H) ?_); clear hK K; (try simp only [Act.put, List.setIfInBounds_toArray, List.set_cons_succ, List.set_cons_zero])) | ((with_reducible refine oBinG ?_); (first | (refine oCmp rfl rfl rfl ?_) | (refine oScmp rfl rfl rfl ?_)); intro rb hrb; cases rb <;> (first | (exfalso; simp at hrb; done) | ((try simp only [CS1, gt_iff_lt, ge_iff_le, ne_eq, Decidable.not_not] at hrb); (try subst hrb); (try (exfalso; omega)))) <;> ((first | refine hK _ _ (H) ?_); clear hK K; (try simp only [Act.put, List.setIfInBounds_toArray, List.set_cons_succ, List.set_cons_zero]))) | ((with_reducible refine oCallG ?_); go_simp; go_at_call 50; (with_reducible refine (K1 _ H).mono ?_); rintro e w1 ⟨rfl, H1⟩; clear H; have H := H1; clear H1; (try simp only []); (first | refine hK _ _ (H) ?_); clear hK K; (try simp only [Act.put, List.setIfInBounds_toArray, List.set_cons_succ, List.set_cons_zero])) | ((with_reducible refine oCallG ?_); go_simp; go_at_call 50; (with_reducible refine (K2 _ H).mono ?_); rintro e w1 ⟨rfl, H1⟩; clear H; have H := H1; clear H1; (try simp only []); (first | refine hK _ _ (H) ?_); clear hK K; (try simp only [Act.put, List.setIfInBounds_toArray, List.set_cons_succ, List.set_cons_zero])) | ((with_reducible refine oCallG ?_); go_simp; go_at_call 51; (with_reducible refine (K3 _ H).mono ?_); rintro e w1 ⟨rfl, H1⟩; clear H; have H := H1; clear H1; (try simp only []); (first | refine hK _ _ (H) ?_); clear hK K; (try simp only [Act.put, List.setIfInBounds_toArray, List.set_cons_succ, List.set_cons_zero])) | ((with_reducible refine oCallG ?_); go_simp; go_at_call 51; (with_reducible refine (K4 _ H).mono ?_); rintro e w1 ⟨rfl, H1⟩; clear H; have H := H1; clear H1; (try simp only []); (first | refine hK _ _ (H) ?_); clear hK K; (try simp only [Act.put, List.setIfInBounds_toArray, List.set_cons_succ, List.set_cons_zero])) | (go_simp; (first | refine hK _ _ (H) ?_); clear hK K)) | (refine twL_nil ?_; refine EndQ.intro (by kernel_rfl) ?_)))))
  clear K1 K2 K3 K4
  have hw1 : IntKind.i64.wrap (1 + sa) = 1 + sa := by rw [IntKind.wrap_i64]; omega
  have hw2 : IntKind.i64.wrap (1 + sa + sb) = 1 + sa + sb := by rw [IntKind.wrap_i64]; omega
  have hw3 : IntKind.i64.wrap (1 + mx) = 1 + mx := by rw [IntKind.wrap_i64]; omega
  simp only [hw1, hw2, hw3]
  go_wp2_with (first
    | ((with_reducible refine gEq ?_); (first | (refine wl_cmp rfl rfl rfl rfl ?_) | (refine wl_scmp rfl rfl rfl rfl ?_)); intro rb hrb; cases rb <;> (first | (exfalso; simp at hrb; done) | ((try simp only [CS1, gt_iff_lt, ge_iff_le, ne_eq, Decidable.not_not] at hrb); (try subst hrb); (try (exfalso; omega))))))
  all_goals go_ret2
  all_goals exact ⟨b, s, d, cb, cs, cd, rfl, H.drop⟩
set_option maxHeartbeats 16000000 in
theorem rMk_bigA1 {w0 w : World} {D : Nat → Prop} {R : List Ent} {p : Nat} {b s d : Option Nat} {cb cs cd : Nat} {l : List En} {n : Nd} {sa sb da db mx : Int}  (H : Hp w0 D (eQ p b s d cb cs cd l :: eQn b cb l :: eQs s cs l :: eQd d cd l :: R) w) (hsh : shapeE n = 0) (hkd : kidsN n.kind = 1) (hia : inP l n.a = true) (hl : l.length ≤ 65536) (hsa : sizeP l n.a = sa) (hsb : sizeP l n.b = sb) (hda : deepP l n.a = da) (hdb : deepP l n.b = db) (hmx : max da db = mx) (s0 : 0 ≤ sa) (s1 : sa ≤ 4096) (t0 : 0 ≤ sb) (t1 : sb ≤ 4096) (m0 : 0 ≤ mx) (m1 : mx ≤ 64) (hb : 4096 < 1 + sa + sb) :
    Calls Try.prog 17 #[.pointer (some ⟨p, 0, none⟩), .agg n.cells.toArray] w fun e w' => RMkP w0 D R p (l) (0) (52) e w' := by
  obtain ⟨x1, x2, x3, x4, x5, x6, x7⟩ := n
  (try dsimp only at *)
  have HSH := Lib.hid hsh
  have HL := Lib.hid hl
  have HSA := Lib.hid hsa
  have HSB := Lib.hid hsb
  have HDA := Lib.hid hda
  have HDB := Lib.hid hdb
  have HMX := Lib.hid hmx
  clear hsh hl hsa hsb hda hdb hmx
  have HKD := Lib.hid hkd
  clear hkd
  have HIA := Lib.hid hia
  clear hia
  simp only [Nd.cells]
  go_enter Try.func17, Try.ntmps17
  go_upto_region 7 with ((first
    | (go_at_call 48; ((refine (rshape_at (n := ⟨x1, x2, x3, x4, x5, x6, x7⟩) H HSH.out).mono ?_); rintro e w1 ⟨rfl, H1⟩; clear H; have H := H1; clear H1))
    | (go_at_call 49; ((refine (kidsN_at H HKD.out).mono ?_); rintro e w1 ⟨rfl, H1⟩; clear H; have H := H1; clear H1))
    | (go_at_call 36; first | ((with_reducible refine (rIn_c (i := 1) H rfl HIA.out).mono ?_); rintro e w1 ⟨rfl, H1⟩; clear H; have H := H1; clear H1) | ((with_reducible refine (rIn_c (i := 1) H rfl HIA.out).mono ?_); rintro e w1 ⟨rfl, H1⟩; clear H; have H := H1; clear H1))
    | ((with_reducible refine gLd ?_); refine eLd H rfl rfl ?_; first | ((repeat ((with_reducible refine gEx ?_); first | (refine kLd 0 rfl rfl (by exact TT _ rfl) rfl ?_) | (refine kLdA 0 rfl rfl (by exact TT _ rfl) (Nat.le_of_ble_eq_true rfl) (by simp only [Nd.cells, Nd.zero, eP, eE, LS2]; rfl) ?_) | (refine nxL ?_))); fail_if_success (with_reducible refine gEx ?_)))
    | ((with_reducible refine gSt ?_); (first | (refine eSt H rfl rfl ⟨.int _ _, rfl, ?_⟩) | (refine eSt H rfl rfl ⟨.bool _, rfl, ?_⟩) | (refine eSt H rfl rfl ⟨.slice _ _ _, rfl, ?_⟩) | (refine eSt H rfl rfl ⟨.pointer _, rfl, ?_⟩) | (refine eSt H rfl rfl ⟨.string _, rfl, ?_⟩) | (refine eSt H rfl rfl ⟨.agg (List.toArray _), rfl, ?_⟩)); (first | ((repeat ((with_reducible refine gES ?_); first | (refine kSt 0 rfl rfl (by exact TT _ rfl) rfl (Nat.le_of_ble_eq_true rfl) ?_) | (refine kStA 0 rfl rfl (by exact TT _ rfl) rfl rfl (Nat.le_of_ble_eq_true rfl) ?_) | (refine nxS ?_))); fail_if_success (with_reducible refine gES ?_))); clear H; intro w1 H; simp only [List.set_cons_zero, List.set_cons_succ] at H; (try simp only [lay, LS1, Nat.reduceAdd] at H))
    | ((with_reducible refine gBx ?_); refine bxA H rfl rfl rfl ?_; clear H; intro b1 w1 H)
    | ((with_reducible refine gBs ?_); (first | (refine bs1 H rfl (by exact SS _ rfl) rfl (Nat.le_of_ble_eq_true rfl) (Nat.le_of_ble_eq_true rfl) rfl ?_) | (refine wl_buildSlice0 rfl (by exact SS _ rfl) H ?_)); clear H; intro b1 w1 H)
    | ((with_reducible refine gEq ?_); (first | (refine wl_cmp rfl rfl rfl rfl ?_) | (refine wl_scmp rfl rfl rfl rfl ?_)); intro rb hrb; cases rb <;> (first | (exfalso; simp at hrb; done) | ((try simp only [CS1, gt_iff_lt, ge_iff_le, ne_eq, Decidable.not_not] at hrb); (try subst hrb); (try (exfalso; omega)))))
    | ((with_reducible refine gAl ?_); (first | (refine al H Z33 rfl rfl ?_) | (refine al H Z110 rfl rfl ?_) | (refine al H Z122 rfl rfl ?_)); clear H; intro b1 w1 H)
    | ((with_reducible refine gRg ?_); refine wp_region_text rfl (by decide +kernel) ?_; replace H := H.drew)
    | ((with_reducible refine EndQ.intro ?_ ?_); (· kernel_rfl))))
  have K1 := onL H (fun u hu => rSize_c (i := 1) (j := 3) hu rfl rfl HL.out HSA.out)
  have K2 := onL H (fun u hu => rSize_c (i := 1) (j := 3) hu rfl rfl HL.out HSB.out)
  have K3 := onL H (fun u hu => rDepth_c (i := 1) (j := 4) hu rfl rfl HL.out HDA.out)
  have K4 := onL H (fun u hu => rDepth_c (i := 1) (j := 4) hu rfl rfl HL.out HDB.out)
  go_upto_region 9 with ((first
    | ((with_reducible refine gLd ?_); refine eLd H rfl rfl ?_; first | ((repeat ((with_reducible refine gEx ?_); first | (refine kLd 0 rfl rfl (by exact TT _ rfl) rfl ?_) | (refine kLdA 0 rfl rfl (by exact TT _ rfl) (Nat.le_of_ble_eq_true rfl) (by simp only [Nd.cells, Nd.zero, eP, eE, LS2]; rfl) ?_) | (refine nxL ?_))); fail_if_success (with_reducible refine gEx ?_)))
    | ((with_reducible refine gSt ?_); (first | (refine eSt H rfl rfl ⟨.int _ _, rfl, ?_⟩) | (refine eSt H rfl rfl ⟨.bool _, rfl, ?_⟩) | (refine eSt H rfl rfl ⟨.slice _ _ _, rfl, ?_⟩) | (refine eSt H rfl rfl ⟨.pointer _, rfl, ?_⟩) | (refine eSt H rfl rfl ⟨.string _, rfl, ?_⟩) | (refine eSt H rfl rfl ⟨.agg (List.toArray _), rfl, ?_⟩)); (first | ((repeat ((with_reducible refine gES ?_); first | (refine kSt 0 rfl rfl (by exact TT _ rfl) rfl (Nat.le_of_ble_eq_true rfl) ?_) | (refine kStA 0 rfl rfl (by exact TT _ rfl) rfl rfl (Nat.le_of_ble_eq_true rfl) ?_) | (refine nxS ?_))); fail_if_success (with_reducible refine gES ?_))); clear H; intro w1 H; simp only [List.set_cons_zero, List.set_cons_succ] at H; (try simp only [lay, LS1, Nat.reduceAdd] at H))
    | ((with_reducible refine gBx ?_); refine bxA H rfl rfl rfl ?_; clear H; intro b1 w1 H)
    | ((with_reducible refine gBs ?_); (first | (refine bs1 H rfl (by exact SS _ rfl) rfl (Nat.le_of_ble_eq_true rfl) (Nat.le_of_ble_eq_true rfl) rfl ?_) | (refine wl_buildSlice0 rfl (by exact SS _ rfl) H ?_)); clear H; intro b1 w1 H)
    | ((with_reducible refine gEq ?_); (first | (refine wl_cmp rfl rfl rfl rfl ?_) | (refine wl_scmp rfl rfl rfl rfl ?_)); intro rb hrb; cases rb <;> (first | (exfalso; simp at hrb; done) | ((try simp only [CS1, gt_iff_lt, ge_iff_le, ne_eq, Decidable.not_not] at hrb); (try subst hrb); (try (exfalso; omega)))))
    | ((with_reducible refine gAl ?_); (first | (refine al H Z33 rfl rfl ?_) | (refine al H Z110 rfl rfl ?_) | (refine al H Z122 rfl rfl ?_)); clear H; intro b1 w1 H)
    | ((with_reducible refine gRg ?_); refine wp_region_text rfl (by decide +kernel) ?_; replace H := H.drew)
    | ((with_reducible refine EndQ.intro ?_ ?_); (· kernel_rfl))
    | ((with_reducible refine gRg ?_); refine wp_region_UH H rfl (by decide +kernel) ?_; replace H := H.drew; repeat' (first | (refine twL_ldskip rfl ?_; (try simp only [Act.put, List.setIfInBounds_toArray, List.set_cons_succ, List.set_cons_zero])) | (refine twL_ld (fun u h => h) rfl rfl ?_; (first | ((repeat ((with_reducible refine gEx ?_); first | (refine kLd 0 rfl rfl (by exact TT _ rfl) rfl ?_) | (refine kLdA 0 rfl rfl (by exact TT _ rfl) (Nat.le_of_ble_eq_true rfl) (by simp only [Nd.cells, Nd.zero, eP, eE, LS2]; rfl) ?_) | (refine nxL ?_))); fail_if_success (with_reducible refine gEx ?_))); (try simp only [Act.put, List.setIfInBounds_toArray, List.set_cons_succ, List.set_cons_zero])) | (refine twL_skip rfl rfl (H) ?_; (try simp only [Act.put, List.setIfInBounds_toArray, List.set_cons_succ, List.set_cons_zero])) | (refine twL_op rfl rfl ?_; intro K hK; first | (refine wp_run (run_maxX rfl rfl HMX.out) ?_; (first | refine hK _ _ (H) ?_); clear hK K; (try simp only [Act.put, List.setIfInBounds_toArray, List.set_cons_succ, List.set_cons_zero])) | ((with_reducible refine oStG ?_); (first | (refine oSt H rfl ⟨.int _ _, rfl, ?_⟩) | (refine oSt H rfl ⟨.bool _, rfl, ?_⟩) | (refine oSt H rfl ⟨.slice _ _ _, rfl, ?_⟩) | (refine oSt H rfl ⟨.pointer _, rfl, ?_⟩) | (refine oSt H rfl ⟨.string _, rfl, ?_⟩) | (refine oSt H rfl ⟨.agg (List.toArray _), rfl, ?_⟩)); (first | ((repeat ((with_reducible refine gES ?_); first | (refine kSt 0 rfl rfl (by exact TT _ rfl) rfl (Nat.le_of_ble_eq_true rfl) ?_) | (refine kStA 0 rfl rfl (by exact TT _ rfl) rfl rfl (Nat.le_of_ble_eq_true rfl) ?_) | (refine nxS ?_))); fail_if_success (with_reducible refine gES ?_))); clear H; intro w1 H; simp only [List.set_cons_zero, List.set_cons_succ] at H; (first | refine hK _ _ (H) ?_); clear hK K; (try simp only [Act.put, List.setIfInBounds_toArray, List.set_cons_succ, List.set_cons_zero])) | ((with_reducible refine oBinG ?_); (first | (refine oCmp rfl rfl rfl ?_) | (refine oScmp rfl rfl rfl ?_)); intro rb hrb; cases rb <;> (first | (exfalso; simp at hrb; done) | ((try simp only [CS1, gt_iff_lt, ge_iff_le, ne_eq, Decidable.not_not] at hrb); (try subst hrb); (try (exfalso; omega)))) <;> ((first | refine hK _ _ (H) ?_); clear hK K; (try simp only [Act.put, List.setIfInBounds_toArray, List.set_cons_succ, List.set_cons_zero]))) | ((with_reducible refine oCallG ?_); go_simp; go_at_call 50; (with_reducible refine (K1 _ H).mono ?_); rintro e w1 ⟨rfl, H1⟩; clear H; have H := H1; clear H1; (try simp only []); (first | refine hK _ _ (H) ?_); clear hK K; (try simp only [Act.put, List.setIfInBounds_toArray, List.set_cons_succ, List.set_cons_zero])) | ((with_reducible refine oCallG ?_); go_simp; go_at_call 50; (with_reducible refine (K2 _ H).mono ?_); rintro e w1 ⟨rfl, H1⟩; clear H; have H := H1; clear H1; (try simp only []); (first | refine hK _ _ (H) ?_); clear hK K; (try simp only [Act.put, List.setIfInBounds_toArray, List.set_cons_succ, List.set_cons_zero])) | ((with_reducible refine oCallG ?_); go_simp; go_at_call 51; (with_reducible refine (K3 _ H).mono ?_); rintro e w1 ⟨rfl, H1⟩; clear H; have H := H1; clear H1; (try simp only []); (first | refine hK _ _ (H) ?_); clear hK K; (try simp only [Act.put, List.setIfInBounds_toArray, List.set_cons_succ, List.set_cons_zero])) | ((with_reducible refine oCallG ?_); go_simp; go_at_call 51; (with_reducible refine (K4 _ H).mono ?_); rintro e w1 ⟨rfl, H1⟩; clear H; have H := H1; clear H1; (try simp only []); (first | refine hK _ _ (H) ?_); clear hK K; (try simp only [Act.put, List.setIfInBounds_toArray, List.set_cons_succ, List.set_cons_zero])) | (go_simp; (first | refine hK _ _ (H) ?_); clear hK K)) | (refine twL_nil ?_; refine EndQ.intro (by kernel_rfl) ?_)))))
  clear K1 K2 K3 K4
  have hw1 : IntKind.i64.wrap (1 + sa) = 1 + sa := by rw [IntKind.wrap_i64]; omega
  have hw2 : IntKind.i64.wrap (1 + sa + sb) = 1 + sa + sb := by rw [IntKind.wrap_i64]; omega
  have hw3 : IntKind.i64.wrap (1 + mx) = 1 + mx := by rw [IntKind.wrap_i64]; omega
  simp only [hw1, hw2, hw3]
  go_wp2_with (first
    | ((with_reducible refine gEq ?_); (first | (refine wl_cmp rfl rfl rfl rfl ?_) | (refine wl_scmp rfl rfl rfl rfl ?_)); intro rb hrb; cases rb <;> (first | (exfalso; simp at hrb; done) | ((try simp only [CS1, gt_iff_lt, ge_iff_le, ne_eq, Decidable.not_not] at hrb); (try subst hrb); (try (exfalso; omega))))))
  all_goals go_ret2
  all_goals exact ⟨b, s, d, cb, cs, cd, rfl, H.drop⟩
set_option maxHeartbeats 16000000 in
theorem rMk_bigA2 {w0 w : World} {D : Nat → Prop} {R : List Ent} {p : Nat} {b s d : Option Nat} {cb cs cd : Nat} {l : List En} {n : Nd} {sa sb da db mx : Int}  (H : Hp w0 D (eQ p b s d cb cs cd l :: eQn b cb l :: eQs s cs l :: eQd d cd l :: R) w) (hsh : shapeE n = 0) (hkd : kidsN n.kind = 2) (hia : inP l n.a = true) (hib : inP l n.b = true) (hl : l.length ≤ 65536) (hsa : sizeP l n.a = sa) (hsb : sizeP l n.b = sb) (hda : deepP l n.a = da) (hdb : deepP l n.b = db) (hmx : max da db = mx) (s0 : 0 ≤ sa) (s1 : sa ≤ 4096) (t0 : 0 ≤ sb) (t1 : sb ≤ 4096) (m0 : 0 ≤ mx) (m1 : mx ≤ 64) (hb : 4096 < 1 + sa + sb) :
    Calls Try.prog 17 #[.pointer (some ⟨p, 0, none⟩), .agg n.cells.toArray] w fun e w' => RMkP w0 D R p (l) (0) (52) e w' := by
  obtain ⟨x1, x2, x3, x4, x5, x6, x7⟩ := n
  (try dsimp only at *)
  have HSH := Lib.hid hsh
  have HL := Lib.hid hl
  have HSA := Lib.hid hsa
  have HSB := Lib.hid hsb
  have HDA := Lib.hid hda
  have HDB := Lib.hid hdb
  have HMX := Lib.hid hmx
  clear hsh hl hsa hsb hda hdb hmx
  have HKD := Lib.hid hkd
  clear hkd
  have HIA := Lib.hid hia
  have HIB := Lib.hid hib
  clear hia hib
  simp only [Nd.cells]
  go_enter Try.func17, Try.ntmps17
  go_upto_region 7 with ((first
    | (go_at_call 48; ((refine (rshape_at (n := ⟨x1, x2, x3, x4, x5, x6, x7⟩) H HSH.out).mono ?_); rintro e w1 ⟨rfl, H1⟩; clear H; have H := H1; clear H1))
    | (go_at_call 49; ((refine (kidsN_at H HKD.out).mono ?_); rintro e w1 ⟨rfl, H1⟩; clear H; have H := H1; clear H1))
    | (go_at_call 36; first | ((with_reducible refine (rIn_c (i := 1) H rfl HIA.out).mono ?_); rintro e w1 ⟨rfl, H1⟩; clear H; have H := H1; clear H1) | ((with_reducible refine (rIn_c (i := 1) H rfl HIB.out).mono ?_); rintro e w1 ⟨rfl, H1⟩; clear H; have H := H1; clear H1))
    | ((with_reducible refine gLd ?_); refine eLd H rfl rfl ?_; first | ((repeat ((with_reducible refine gEx ?_); first | (refine kLd 0 rfl rfl (by exact TT _ rfl) rfl ?_) | (refine kLdA 0 rfl rfl (by exact TT _ rfl) (Nat.le_of_ble_eq_true rfl) (by simp only [Nd.cells, Nd.zero, eP, eE, LS2]; rfl) ?_) | (refine nxL ?_))); fail_if_success (with_reducible refine gEx ?_)))
    | ((with_reducible refine gSt ?_); (first | (refine eSt H rfl rfl ⟨.int _ _, rfl, ?_⟩) | (refine eSt H rfl rfl ⟨.bool _, rfl, ?_⟩) | (refine eSt H rfl rfl ⟨.slice _ _ _, rfl, ?_⟩) | (refine eSt H rfl rfl ⟨.pointer _, rfl, ?_⟩) | (refine eSt H rfl rfl ⟨.string _, rfl, ?_⟩) | (refine eSt H rfl rfl ⟨.agg (List.toArray _), rfl, ?_⟩)); (first | ((repeat ((with_reducible refine gES ?_); first | (refine kSt 0 rfl rfl (by exact TT _ rfl) rfl (Nat.le_of_ble_eq_true rfl) ?_) | (refine kStA 0 rfl rfl (by exact TT _ rfl) rfl rfl (Nat.le_of_ble_eq_true rfl) ?_) | (refine nxS ?_))); fail_if_success (with_reducible refine gES ?_))); clear H; intro w1 H; simp only [List.set_cons_zero, List.set_cons_succ] at H; (try simp only [lay, LS1, Nat.reduceAdd] at H))
    | ((with_reducible refine gBx ?_); refine bxA H rfl rfl rfl ?_; clear H; intro b1 w1 H)
    | ((with_reducible refine gBs ?_); (first | (refine bs1 H rfl (by exact SS _ rfl) rfl (Nat.le_of_ble_eq_true rfl) (Nat.le_of_ble_eq_true rfl) rfl ?_) | (refine wl_buildSlice0 rfl (by exact SS _ rfl) H ?_)); clear H; intro b1 w1 H)
    | ((with_reducible refine gEq ?_); (first | (refine wl_cmp rfl rfl rfl rfl ?_) | (refine wl_scmp rfl rfl rfl rfl ?_)); intro rb hrb; cases rb <;> (first | (exfalso; simp at hrb; done) | ((try simp only [CS1, gt_iff_lt, ge_iff_le, ne_eq, Decidable.not_not] at hrb); (try subst hrb); (try (exfalso; omega)))))
    | ((with_reducible refine gAl ?_); (first | (refine al H Z33 rfl rfl ?_) | (refine al H Z110 rfl rfl ?_) | (refine al H Z122 rfl rfl ?_)); clear H; intro b1 w1 H)
    | ((with_reducible refine gRg ?_); refine wp_region_text rfl (by decide +kernel) ?_; replace H := H.drew)
    | ((with_reducible refine EndQ.intro ?_ ?_); (· kernel_rfl))))
  have K1 := onL H (fun u hu => rSize_c (i := 1) (j := 3) hu rfl rfl HL.out HSA.out)
  have K2 := onL H (fun u hu => rSize_c (i := 1) (j := 3) hu rfl rfl HL.out HSB.out)
  have K3 := onL H (fun u hu => rDepth_c (i := 1) (j := 4) hu rfl rfl HL.out HDA.out)
  have K4 := onL H (fun u hu => rDepth_c (i := 1) (j := 4) hu rfl rfl HL.out HDB.out)
  go_upto_region 9 with ((first
    | ((with_reducible refine gLd ?_); refine eLd H rfl rfl ?_; first | ((repeat ((with_reducible refine gEx ?_); first | (refine kLd 0 rfl rfl (by exact TT _ rfl) rfl ?_) | (refine kLdA 0 rfl rfl (by exact TT _ rfl) (Nat.le_of_ble_eq_true rfl) (by simp only [Nd.cells, Nd.zero, eP, eE, LS2]; rfl) ?_) | (refine nxL ?_))); fail_if_success (with_reducible refine gEx ?_)))
    | ((with_reducible refine gSt ?_); (first | (refine eSt H rfl rfl ⟨.int _ _, rfl, ?_⟩) | (refine eSt H rfl rfl ⟨.bool _, rfl, ?_⟩) | (refine eSt H rfl rfl ⟨.slice _ _ _, rfl, ?_⟩) | (refine eSt H rfl rfl ⟨.pointer _, rfl, ?_⟩) | (refine eSt H rfl rfl ⟨.string _, rfl, ?_⟩) | (refine eSt H rfl rfl ⟨.agg (List.toArray _), rfl, ?_⟩)); (first | ((repeat ((with_reducible refine gES ?_); first | (refine kSt 0 rfl rfl (by exact TT _ rfl) rfl (Nat.le_of_ble_eq_true rfl) ?_) | (refine kStA 0 rfl rfl (by exact TT _ rfl) rfl rfl (Nat.le_of_ble_eq_true rfl) ?_) | (refine nxS ?_))); fail_if_success (with_reducible refine gES ?_))); clear H; intro w1 H; simp only [List.set_cons_zero, List.set_cons_succ] at H; (try simp only [lay, LS1, Nat.reduceAdd] at H))
    | ((with_reducible refine gBx ?_); refine bxA H rfl rfl rfl ?_; clear H; intro b1 w1 H)
    | ((with_reducible refine gBs ?_); (first | (refine bs1 H rfl (by exact SS _ rfl) rfl (Nat.le_of_ble_eq_true rfl) (Nat.le_of_ble_eq_true rfl) rfl ?_) | (refine wl_buildSlice0 rfl (by exact SS _ rfl) H ?_)); clear H; intro b1 w1 H)
    | ((with_reducible refine gEq ?_); (first | (refine wl_cmp rfl rfl rfl rfl ?_) | (refine wl_scmp rfl rfl rfl rfl ?_)); intro rb hrb; cases rb <;> (first | (exfalso; simp at hrb; done) | ((try simp only [CS1, gt_iff_lt, ge_iff_le, ne_eq, Decidable.not_not] at hrb); (try subst hrb); (try (exfalso; omega)))))
    | ((with_reducible refine gAl ?_); (first | (refine al H Z33 rfl rfl ?_) | (refine al H Z110 rfl rfl ?_) | (refine al H Z122 rfl rfl ?_)); clear H; intro b1 w1 H)
    | ((with_reducible refine gRg ?_); refine wp_region_text rfl (by decide +kernel) ?_; replace H := H.drew)
    | ((with_reducible refine EndQ.intro ?_ ?_); (· kernel_rfl))
    | ((with_reducible refine gRg ?_); refine wp_region_UH H rfl (by decide +kernel) ?_; replace H := H.drew; repeat' (first | (refine twL_ldskip rfl ?_; (try simp only [Act.put, List.setIfInBounds_toArray, List.set_cons_succ, List.set_cons_zero])) | (refine twL_ld (fun u h => h) rfl rfl ?_; (first | ((repeat ((with_reducible refine gEx ?_); first | (refine kLd 0 rfl rfl (by exact TT _ rfl) rfl ?_) | (refine kLdA 0 rfl rfl (by exact TT _ rfl) (Nat.le_of_ble_eq_true rfl) (by simp only [Nd.cells, Nd.zero, eP, eE, LS2]; rfl) ?_) | (refine nxL ?_))); fail_if_success (with_reducible refine gEx ?_))); (try simp only [Act.put, List.setIfInBounds_toArray, List.set_cons_succ, List.set_cons_zero])) | (refine twL_skip rfl rfl (H) ?_; (try simp only [Act.put, List.setIfInBounds_toArray, List.set_cons_succ, List.set_cons_zero])) | (refine twL_op rfl rfl ?_; intro K hK; first | (refine wp_run (run_maxX rfl rfl HMX.out) ?_; (first | refine hK _ _ (H) ?_); clear hK K; (try simp only [Act.put, List.setIfInBounds_toArray, List.set_cons_succ, List.set_cons_zero])) | ((with_reducible refine oStG ?_); (first | (refine oSt H rfl ⟨.int _ _, rfl, ?_⟩) | (refine oSt H rfl ⟨.bool _, rfl, ?_⟩) | (refine oSt H rfl ⟨.slice _ _ _, rfl, ?_⟩) | (refine oSt H rfl ⟨.pointer _, rfl, ?_⟩) | (refine oSt H rfl ⟨.string _, rfl, ?_⟩) | (refine oSt H rfl ⟨.agg (List.toArray _), rfl, ?_⟩)); (first | ((repeat ((with_reducible refine gES ?_); first | (refine kSt 0 rfl rfl (by exact TT _ rfl) rfl (Nat.le_of_ble_eq_true rfl) ?_) | (refine kStA 0 rfl rfl (by exact TT _ rfl) rfl rfl (Nat.le_of_ble_eq_true rfl) ?_) | (refine nxS ?_))); fail_if_success (with_reducible refine gES ?_))); clear H; intro w1 H; simp only [List.set_cons_zero, List.set_cons_succ] at H; (first | refine hK _ _ (H) ?_); clear hK K; (try simp only [Act.put, List.setIfInBounds_toArray, List.set_cons_succ, List.set_cons_zero])) | ((with_reducible refine oBinG ?_); (first | (refine oCmp rfl rfl rfl ?_) | (refine oScmp rfl rfl rfl ?_)); intro rb hrb; cases rb <;> (first | (exfalso; simp at hrb; done) | ((try simp only [CS1, gt_iff_lt, ge_iff_le, ne_eq, Decidable.not_not] at hrb); (try subst hrb); (try (exfalso; omega)))) <;> ((first | refine hK _ _ (H) ?_); clear hK K; (try simp only [Act.put, List.setIfInBounds_toArray, List.set_cons_succ, List.set_cons_zero]))) | ((with_reducible refine oCallG ?_); go_simp; go_at_call 50; (with_reducible refine (K1 _ H).mono ?_); rintro e w1 ⟨rfl, H1⟩; clear H; have H := H1; clear H1; (try simp only []); (first | refine hK _ _ (H) ?_); clear hK K; (try simp only [Act.put, List.setIfInBounds_toArray, List.set_cons_succ, List.set_cons_zero])) | ((with_reducible refine oCallG ?_); go_simp; go_at_call 50; (with_reducible refine (K2 _ H).mono ?_); rintro e w1 ⟨rfl, H1⟩; clear H; have H := H1; clear H1; (try simp only []); (first | refine hK _ _ (H) ?_); clear hK K; (try simp only [Act.put, List.setIfInBounds_toArray, List.set_cons_succ, List.set_cons_zero])) | ((with_reducible refine oCallG ?_); go_simp; go_at_call 51; (with_reducible refine (K3 _ H).mono ?_); rintro e w1 ⟨rfl, H1⟩; clear H; have H := H1; clear H1; (try simp only []); (first | refine hK _ _ (H) ?_); clear hK K; (try simp only [Act.put, List.setIfInBounds_toArray, List.set_cons_succ, List.set_cons_zero])) | ((with_reducible refine oCallG ?_); go_simp; go_at_call 51; (with_reducible refine (K4 _ H).mono ?_); rintro e w1 ⟨rfl, H1⟩; clear H; have H := H1; clear H1; (try simp only []); (first | refine hK _ _ (H) ?_); clear hK K; (try simp only [Act.put, List.setIfInBounds_toArray, List.set_cons_succ, List.set_cons_zero])) | (go_simp; (first | refine hK _ _ (H) ?_); clear hK K)) | (refine twL_nil ?_; refine EndQ.intro (by kernel_rfl) ?_)))))
  clear K1 K2 K3 K4
  have hw1 : IntKind.i64.wrap (1 + sa) = 1 + sa := by rw [IntKind.wrap_i64]; omega
  have hw2 : IntKind.i64.wrap (1 + sa + sb) = 1 + sa + sb := by rw [IntKind.wrap_i64]; omega
  have hw3 : IntKind.i64.wrap (1 + mx) = 1 + mx := by rw [IntKind.wrap_i64]; omega
  simp only [hw1, hw2, hw3]
  go_wp2_with (first
    | ((with_reducible refine gEq ?_); (first | (refine wl_cmp rfl rfl rfl rfl ?_) | (refine wl_scmp rfl rfl rfl rfl ?_)); intro rb hrb; cases rb <;> (first | (exfalso; simp at hrb; done) | ((try simp only [CS1, gt_iff_lt, ge_iff_le, ne_eq, Decidable.not_not] at hrb); (try subst hrb); (try (exfalso; omega))))))
  all_goals go_ret2
  all_goals exact ⟨b, s, d, cb, cs, cd, rfl, H.drop⟩
theorem rMk_bigA {w0 w : World} {D : Nat → Prop} {R : List Ent} {p : Nat} {b s d : Option Nat} {cb cs cd : Nat} {l : List En} {n : Nd} {sa sb da db mx : Int}  (H : Hp w0 D (eQ p b s d cb cs cd l :: eQn b cb l :: eQs s cs l :: eQd d cd l :: R) w) (hsh : shapeE n = 0) (hg : kidsN n.kind = 0 ∨ (kidsN n.kind = 1 ∧ inP l n.a = true) ∨ (kidsN n.kind = 2 ∧ inP l n.a = true ∧ inP l n.b = true)) (hl : l.length ≤ 65536) (hsa : sizeP l n.a = sa) (hsb : sizeP l n.b = sb) (hda : deepP l n.a = da) (hdb : deepP l n.b = db) (hmx : max da db = mx) (s0 : 0 ≤ sa) (s1 : sa ≤ 4096) (t0 : 0 ≤ sb) (t1 : sb ≤ 4096) (m0 : 0 ≤ mx) (m1 : mx ≤ 64) (hb : 4096 < 1 + sa + sb) :
    Calls Try.prog 17 #[.pointer (some ⟨p, 0, none⟩), .agg n.cells.toArray] w fun e w' => RMkP w0 D R p (l) (0) (52) e w' := by
  rcases hg with h | ⟨h, h2⟩ | ⟨h, h2, h3⟩
  · exact rMk_bigA0 H hsh h hl hsa hsb hda hdb hmx s0 s1 t0 t1 m0 m1 hb
  · exact rMk_bigA1 H hsh h h2 hl hsa hsb hda hdb hmx s0 s1 t0 t1 m0 m1 hb
  · exact rMk_bigA2 H hsh h h2 h3 hl hsa hsb hda hdb hmx s0 s1 t0 t1 m0 m1 hb
set_option maxHeartbeats 16000000 in
theorem rMk_bigB0 {w0 w : World} {D : Nat → Prop} {R : List Ent} {p : Nat} {b s d : Option Nat} {cb cs cd : Nat} {l : List En} {n : Nd} {sa sb da db mx : Int}  (H : Hp w0 D (eQ p b s d cb cs cd l :: eQn b cb l :: eQs s cs l :: eQd d cd l :: R) w) (hsh : shapeE n = 0) (hkd : kidsN n.kind = 0) (hl : l.length ≤ 65536) (hsa : sizeP l n.a = sa) (hsb : sizeP l n.b = sb) (hda : deepP l n.a = da) (hdb : deepP l n.b = db) (hmx : max da db = mx) (s0 : 0 ≤ sa) (s1 : sa ≤ 4096) (t0 : 0 ≤ sb) (t1 : sb ≤ 4096) (m0 : 0 ≤ mx) (m1 : mx ≤ 64) (hb : 1 + sa + sb ≤ 4096) (hc : 64 < 1 + mx) :
    Calls Try.prog 17 #[.pointer (some ⟨p, 0, none⟩), .agg n.cells.toArray] w fun e w' => RMkP w0 D R p (l) (0) (52) e w' := by
  obtain ⟨x1, x2, x3, x4, x5, x6, x7⟩ := n
  (try dsimp only at *)
  have HSH := Lib.hid hsh
  have HL := Lib.hid hl
  have HSA := Lib.hid hsa
  have HSB := Lib.hid hsb
  have HDA := Lib.hid hda
  have HDB := Lib.hid hdb
  have HMX := Lib.hid hmx
  clear hsh hl hsa hsb hda hdb hmx
  have HKD := Lib.hid hkd
  clear hkd
  simp only [Nd.cells]
  go_enter Try.func17, Try.ntmps17
  go_upto_region 7 with ((first
    | (go_at_call 48; ((refine (rshape_at (n := ⟨x1, x2, x3, x4, x5, x6, x7⟩) H HSH.out).mono ?_); rintro e w1 ⟨rfl, H1⟩; clear H; have H := H1; clear H1))
    | (go_at_call 49; ((refine (kidsN_at H HKD.out).mono ?_); rintro e w1 ⟨rfl, H1⟩; clear H; have H := H1; clear H1))
    | (go_at_call 36; fail)
    | ((with_reducible refine gLd ?_); refine eLd H rfl rfl ?_; first | ((repeat ((with_reducible refine gEx ?_); first | (refine kLd 0 rfl rfl (by exact TT _ rfl) rfl ?_) | (refine kLdA 0 rfl rfl (by exact TT _ rfl) (Nat.le_of_ble_eq_true rfl) (by simp only [Nd.cells, Nd.zero, eP, eE, LS2]; rfl) ?_) | (refine nxL ?_))); fail_if_success (with_reducible refine gEx ?_)))
    | ((with_reducible refine gSt ?_); (first | (refine eSt H rfl rfl ⟨.int _ _, rfl, ?_⟩) | (refine eSt H rfl rfl ⟨.bool _, rfl, ?_⟩) | (refine eSt H rfl rfl ⟨.slice _ _ _, rfl, ?_⟩) | (refine eSt H rfl rfl ⟨.pointer _, rfl, ?_⟩) | (refine eSt H rfl rfl ⟨.string _, rfl, ?_⟩) | (refine eSt H rfl rfl ⟨.agg (List.toArray _), rfl, ?_⟩)); (first | ((repeat ((with_reducible refine gES ?_); first | (refine kSt 0 rfl rfl (by exact TT _ rfl) rfl (Nat.le_of_ble_eq_true rfl) ?_) | (refine kStA 0 rfl rfl (by exact TT _ rfl) rfl rfl (Nat.le_of_ble_eq_true rfl) ?_) | (refine nxS ?_))); fail_if_success (with_reducible refine gES ?_))); clear H; intro w1 H; simp only [List.set_cons_zero, List.set_cons_succ] at H; (try simp only [lay, LS1, Nat.reduceAdd] at H))
    | ((with_reducible refine gBx ?_); refine bxA H rfl rfl rfl ?_; clear H; intro b1 w1 H)
    | ((with_reducible refine gBs ?_); (first | (refine bs1 H rfl (by exact SS _ rfl) rfl (Nat.le_of_ble_eq_true rfl) (Nat.le_of_ble_eq_true rfl) rfl ?_) | (refine wl_buildSlice0 rfl (by exact SS _ rfl) H ?_)); clear H; intro b1 w1 H)
    | ((with_reducible refine gEq ?_); (first | (refine wl_cmp rfl rfl rfl rfl ?_) | (refine wl_scmp rfl rfl rfl rfl ?_)); intro rb hrb; cases rb <;> (first | (exfalso; simp at hrb; done) | ((try simp only [CS1, gt_iff_lt, ge_iff_le, ne_eq, Decidable.not_not] at hrb); (try subst hrb); (try (exfalso; omega)))))
    | ((with_reducible refine gAl ?_); (first | (refine al H Z33 rfl rfl ?_) | (refine al H Z110 rfl rfl ?_) | (refine al H Z122 rfl rfl ?_)); clear H; intro b1 w1 H)
    | ((with_reducible refine gRg ?_); refine wp_region_text rfl (by decide +kernel) ?_; replace H := H.drew)
    | ((with_reducible refine EndQ.intro ?_ ?_); (· kernel_rfl))))
  have K1 := onL H (fun u hu => rSize_c (i := 1) (j := 3) hu rfl rfl HL.out HSA.out)
  have K2 := onL H (fun u hu => rSize_c (i := 1) (j := 3) hu rfl rfl HL.out HSB.out)
  have K3 := onL H (fun u hu => rDepth_c (i := 1) (j := 4) hu rfl rfl HL.out HDA.out)
  have K4 := onL H (fun u hu => rDepth_c (i := 1) (j := 4) hu rfl rfl HL.out HDB.out)
  go_upto_region 9 with ((first
    | ((with_reducible refine gLd ?_); refine eLd H rfl rfl ?_; first | ((repeat ((with_reducible refine gEx ?_); first | (refine kLd 0 rfl rfl (by exact TT _ rfl) rfl ?_) | (refine kLdA 0 rfl rfl (by exact TT _ rfl) (Nat.le_of_ble_eq_true rfl) (by simp only [Nd.cells, Nd.zero, eP, eE, LS2]; rfl) ?_) | (refine nxL ?_))); fail_if_success (with_reducible refine gEx ?_)))
    | ((with_reducible refine gSt ?_); (first | (refine eSt H rfl rfl ⟨.int _ _, rfl, ?_⟩) | (refine eSt H rfl rfl ⟨.bool _, rfl, ?_⟩) | (refine eSt H rfl rfl ⟨.slice _ _ _, rfl, ?_⟩) | (refine eSt H rfl rfl ⟨.pointer _, rfl, ?_⟩) | (refine eSt H rfl rfl ⟨.string _, rfl, ?_⟩) | (refine eSt H rfl rfl ⟨.agg (List.toArray _), rfl, ?_⟩)); (first | ((repeat ((with_reducible refine gES ?_); first | (refine kSt 0 rfl rfl (by exact TT _ rfl) rfl (Nat.le_of_ble_eq_true rfl) ?_) | (refine kStA 0 rfl rfl (by exact TT _ rfl) rfl rfl (Nat.le_of_ble_eq_true rfl) ?_) | (refine nxS ?_))); fail_if_success (with_reducible refine gES ?_))); clear H; intro w1 H; simp only [List.set_cons_zero, List.set_cons_succ] at H; (try simp only [lay, LS1, Nat.reduceAdd] at H))
    | ((with_reducible refine gBx ?_); refine bxA H rfl rfl rfl ?_; clear H; intro b1 w1 H)
    | ((with_reducible refine gBs ?_); (first | (refine bs1 H rfl (by exact SS _ rfl) rfl (Nat.le_of_ble_eq_true rfl) (Nat.le_of_ble_eq_true rfl) rfl ?_) | (refine wl_buildSlice0 rfl (by exact SS _ rfl) H ?_)); clear H; intro b1 w1 H)
    | ((with_reducible refine gEq ?_); (first | (refine wl_cmp rfl rfl rfl rfl ?_) | (refine wl_scmp rfl rfl rfl rfl ?_)); intro rb hrb; cases rb <;> (first | (exfalso; simp at hrb; done) | ((try simp only [CS1, gt_iff_lt, ge_iff_le, ne_eq, Decidable.not_not] at hrb); (try subst hrb); (try (exfalso; omega)))))
    | ((with_reducible refine gAl ?_); (first | (refine al H Z33 rfl rfl ?_) | (refine al H Z110 rfl rfl ?_) | (refine al H Z122 rfl rfl ?_)); clear H; intro b1 w1 H)
    | ((with_reducible refine gRg ?_); refine wp_region_text rfl (by decide +kernel) ?_; replace H := H.drew)
    | ((with_reducible refine EndQ.intro ?_ ?_); (· kernel_rfl))
    | ((with_reducible refine gRg ?_); refine wp_region_UH H rfl (by decide +kernel) ?_; replace H := H.drew; repeat' (first | (refine twL_ldskip rfl ?_; (try simp only [Act.put, List.setIfInBounds_toArray, List.set_cons_succ, List.set_cons_zero])) | (refine twL_ld (fun u h => h) rfl rfl ?_; (first | ((repeat ((with_reducible refine gEx ?_); first | (refine kLd 0 rfl rfl (by exact TT _ rfl) rfl ?_) | (refine kLdA 0 rfl rfl (by exact TT _ rfl) (Nat.le_of_ble_eq_true rfl) (by simp only [Nd.cells, Nd.zero, eP, eE, LS2]; rfl) ?_) | (refine nxL ?_))); fail_if_success (with_reducible refine gEx ?_))); (try simp only [Act.put, List.setIfInBounds_toArray, List.set_cons_succ, List.set_cons_zero])) | (refine twL_skip rfl rfl (H) ?_; (try simp only [Act.put, List.setIfInBounds_toArray, List.set_cons_succ, List.set_cons_zero])) | (refine twL_op rfl rfl ?_; intro K hK; first | (refine wp_run (run_maxX rfl rfl HMX.out) ?_; (first | refine hK _ _ (H) ?_); clear hK K; (try simp only [Act.put, List.setIfInBounds_toArray, List.set_cons_succ, List.set_cons_zero])) | ((with_reducible refine oStG ?_); (first | (refine oSt H rfl ⟨.int _ _, rfl, ?_⟩) | (refine oSt H rfl ⟨.bool _, rfl, ?_⟩) | (refine oSt H rfl ⟨.slice _ _ _, rfl, ?_⟩) | (refine oSt H rfl ⟨.pointer _, rfl, ?_⟩) | (refine oSt H rfl ⟨.string _, rfl, ?_⟩) | (refine oSt H rfl ⟨.agg (List.toArray _), rfl, ?_⟩)); (first | ((repeat ((with_reducible refine gES ?_); first | (refine kSt 0 rfl rfl (by exact TT _ rfl) rfl (Nat.le_of_ble_eq_true rfl) ?_) | (refine kStA 0 rfl rfl (by exact TT _ rfl) rfl rfl (Nat.le_of_ble_eq_true rfl) ?_) | (refine nxS ?_))); fail_if_success (with_reducible refine gES ?_))); clear H; intro w1 H; simp only [List.set_cons_zero, List.set_cons_succ] at H; (first | refine hK _ _ (H) ?_); clear hK K; (try simp only [Act.put, List.setIfInBounds_toArray, List.set_cons_succ, List.set_cons_zero])) | ((with_reducible refine oBinG ?_); (first | (refine oCmp rfl rfl rfl ?_) | (refine oScmp rfl rfl rfl ?_)); intro rb hrb; cases rb <;> (first | (exfalso; simp at hrb; done) | ((try simp only [CS1, gt_iff_lt, ge_iff_le, ne_eq, Decidable.not_not] at hrb); (try subst hrb); (try (exfalso; omega)))) <;> ((first | refine hK _ _ (H) ?_); clear hK K; (try simp only [Act.put, List.setIfInBounds_toArray, List.set_cons_succ, List.set_cons_zero]))) | ((with_reducible refine oCallG ?_); go_simp; go_at_call 50; (with_reducible refine (K1 _ H).mono ?_); rintro e w1 ⟨rfl, H1⟩; clear H; have H := H1; clear H1; (try simp only []); (first | refine hK _ _ (H) ?_); clear hK K; (try simp only [Act.put, List.setIfInBounds_toArray, List.set_cons_succ, List.set_cons_zero])) | ((with_reducible refine oCallG ?_); go_simp; go_at_call 50; (with_reducible refine (K2 _ H).mono ?_); rintro e w1 ⟨rfl, H1⟩; clear H; have H := H1; clear H1; (try simp only []); (first | refine hK _ _ (H) ?_); clear hK K; (try simp only [Act.put, List.setIfInBounds_toArray, List.set_cons_succ, List.set_cons_zero])) | ((with_reducible refine oCallG ?_); go_simp; go_at_call 51; (with_reducible refine (K3 _ H).mono ?_); rintro e w1 ⟨rfl, H1⟩; clear H; have H := H1; clear H1; (try simp only []); (first | refine hK _ _ (H) ?_); clear hK K; (try simp only [Act.put, List.setIfInBounds_toArray, List.set_cons_succ, List.set_cons_zero])) | ((with_reducible refine oCallG ?_); go_simp; go_at_call 51; (with_reducible refine (K4 _ H).mono ?_); rintro e w1 ⟨rfl, H1⟩; clear H; have H := H1; clear H1; (try simp only []); (first | refine hK _ _ (H) ?_); clear hK K; (try simp only [Act.put, List.setIfInBounds_toArray, List.set_cons_succ, List.set_cons_zero])) | (go_simp; (first | refine hK _ _ (H) ?_); clear hK K)) | (refine twL_nil ?_; refine EndQ.intro (by kernel_rfl) ?_)))))
  clear K1 K2 K3 K4
  have hw1 : IntKind.i64.wrap (1 + sa) = 1 + sa := by rw [IntKind.wrap_i64]; omega
  have hw2 : IntKind.i64.wrap (1 + sa + sb) = 1 + sa + sb := by rw [IntKind.wrap_i64]; omega
  have hw3 : IntKind.i64.wrap (1 + mx) = 1 + mx := by rw [IntKind.wrap_i64]; omega
  simp only [hw1, hw2, hw3]
  go_wp2_with (first
    | ((with_reducible refine gEq ?_); (first | (refine wl_cmp rfl rfl rfl rfl ?_) | (refine wl_scmp rfl rfl rfl rfl ?_)); intro rb hrb; cases rb <;> (first | (exfalso; simp at hrb; done) | ((try simp only [CS1, gt_iff_lt, ge_iff_le, ne_eq, Decidable.not_not] at hrb); (try subst hrb); (try (exfalso; omega))))))
  all_goals go_ret2
  all_goals exact ⟨b, s, d, cb, cs, cd, rfl, H.drop⟩
set_option maxHeartbeats 16000000 in
theorem rMk_bigB1 {w0 w : World} {D : Nat → Prop} {R : List Ent} {p : Nat} {b s d : Option Nat} {cb cs cd : Nat} {l : List En} {n : Nd} {sa sb da db mx : Int}  (H : Hp w0 D (eQ p b s d cb cs cd l :: eQn b cb l :: eQs s cs l :: eQd d cd l :: R) w) (hsh : shapeE n = 0) (hkd : kidsN n.kind = 1) (hia : inP l n.a = true) (hl : l.length ≤ 65536) (hsa : sizeP l n.a = sa) (hsb : sizeP l n.b = sb) (hda : deepP l n.a = da) (hdb : deepP l n.b = db) (hmx : max da db = mx) (s0 : 0 ≤ sa) (s1 : sa ≤ 4096) (t0 : 0 ≤ sb) (t1 : sb ≤ 4096) (m0 : 0 ≤ mx) (m1 : mx ≤ 64) (hb : 1 + sa + sb ≤ 4096) (hc : 64 < 1 + mx) :
    Calls Try.prog 17 #[.pointer (some ⟨p, 0, none⟩), .agg n.cells.toArray] w fun e w' => RMkP w0 D R p (l) (0) (52) e w' := by
  obtain ⟨x1, x2, x3, x4, x5, x6, x7⟩ := n
  (try dsimp only at *)
  have HSH := Lib.hid hsh
  have HL := Lib.hid hl
  have HSA := Lib.hid hsa
  have HSB := Lib.hid hsb
  have HDA := Lib.hid hda
  have HDB := Lib.hid hdb
  have HMX := Lib.hid hmx
  clear hsh hl hsa hsb hda hdb hmx
  have HKD := Lib.hid hkd
  clear hkd
  have HIA := Lib.hid hia
  clear hia
  simp only [Nd.cells]
  go_enter Try.func17, Try.ntmps17
  go_upto_region 7 with ((first
    | (go_at_call 48; ((refine (rshape_at (n := ⟨x1, x2, x3, x4, x5, x6, x7⟩) H HSH.out).mono ?_); rintro e w1 ⟨rfl, H1⟩; clear H; have H := H1; clear H1))
    | (go_at_call 49; ((refine (kidsN_at H HKD.out).mono ?_); rintro e w1 ⟨rfl, H1⟩; clear H; have H := H1; clear H1))
    | (go_at_call 36; first | ((with_reducible refine (rIn_c (i := 1) H rfl HIA.out).mono ?_); rintro e w1 ⟨rfl, H1⟩; clear H; have H := H1; clear H1) | ((with_reducible refine (rIn_c (i := 1) H rfl HIA.out).mono ?_); rintro e w1 ⟨rfl, H1⟩; clear H; have H := H1; clear H1))
    | ((with_reducible refine gLd ?_); refine eLd H rfl rfl ?_; first | ((repeat ((with_reducible refine gEx ?_); first | (refine kLd 0 rfl rfl (by exact TT _ rfl) rfl ?_) | (refine kLdA 0 rfl rfl (by exact TT _ rfl) (Nat.le_of_ble_eq_true rfl) (by simp only [Nd.cells, Nd.zero, eP, eE, LS2]; rfl) ?_) | (refine nxL ?_))); fail_if_success (with_reducible refine gEx ?_)))
    | ((with_reducible refine gSt ?_); (first | (refine eSt H rfl rfl ⟨.int _ _, rfl, ?_⟩) | (refine eSt H rfl rfl ⟨.bool _, rfl, ?_⟩) | (refine eSt H rfl rfl ⟨.slice _ _ _, rfl, ?_⟩) | (refine eSt H rfl rfl ⟨.pointer _, rfl, ?_⟩) | (refine eSt H rfl rfl ⟨.string _, rfl, ?_⟩) | (refine eSt H rfl rfl ⟨.agg (List.toArray _), rfl, ?_⟩)); (first | ((repeat ((with_reducible refine gES ?_); first | (refine kSt 0 rfl rfl (by exact TT _ rfl) rfl (Nat.le_of_ble_eq_true rfl) ?_) | (refine kStA 0 rfl rfl (by exact TT _ rfl) rfl rfl (Nat.le_of_ble_eq_true rfl) ?_) | (refine nxS ?_))); fail_if_success (with_reducible refine gES ?_))); clear H; intro w1 H; simp only [List.set_cons_zero, List.set_cons_succ] at H; (try simp only [lay, LS1, Nat.reduceAdd] at H))
    | ((with_reducible refine gBx ?_); refine bxA H rfl rfl rfl ?_; clear H; intro b1 w1 H)
    | ((with_reducible refine gBs ?_); (first | (refine bs1 H rfl (by exact SS _ rfl) rfl (Nat.le_of_ble_eq_true rfl) (Nat.le_of_ble_eq_true rfl) rfl ?_) | (refine wl_buildSlice0 rfl (by exact SS _ rfl) H ?_)); clear H; intro b1 w1 H)
    | ((with_reducible refine gEq ?_); (first | (refine wl_cmp rfl rfl rfl rfl ?_) | (refine wl_scmp rfl rfl rfl rfl ?_)); intro rb hrb; cases rb <;> (first | (exfalso; simp at hrb; done) | ((try simp only [CS1, gt_iff_lt, ge_iff_le, ne_eq, Decidable.not_not] at hrb); (try subst hrb); (try (exfalso; omega)))))
    | ((with_reducible refine gAl ?_); (first | (refine al H Z33 rfl rfl ?_) | (refine al H Z110 rfl rfl ?_) | (refine al H Z122 rfl rfl ?_)); clear H; intro b1 w1 H)
    | ((with_reducible refine gRg ?_); refine wp_region_text rfl (by decide +kernel) ?_; replace H := H.drew)
    | ((with_reducible refine EndQ.intro ?_ ?_); (· kernel_rfl))))
  have K1 := onL H (fun u hu => rSize_c (i := 1) (j := 3) hu rfl rfl HL.out HSA.out)
  have K2 := onL H (fun u hu => rSize_c (i := 1) (j := 3) hu rfl rfl HL.out HSB.out)
  have K3 := onL H (fun u hu => rDepth_c (i := 1) (j := 4) hu rfl rfl HL.out HDA.out)
  have K4 := onL H (fun u hu => rDepth_c (i := 1) (j := 4) hu rfl rfl HL.out HDB.out)
  go_upto_region 9 with ((first
    | ((with_reducible refine gLd ?_); refine eLd H rfl rfl ?_; first | ((repeat ((with_reducible refine gEx ?_); first | (refine kLd 0 rfl rfl (by exact TT _ rfl) rfl ?_) | (refine kLdA 0 rfl rfl (by exact TT _ rfl) (Nat.le_of_ble_eq_true rfl) (by simp only [Nd.cells, Nd.zero, eP, eE, LS2]; rfl) ?_) | (refine nxL ?_))); fail_if_success (with_reducible refine gEx ?_)))
    | ((with_reducible refine gSt ?_); (first | (refine eSt H rfl rfl ⟨.int _ _, rfl, ?_⟩) | (refine eSt H rfl rfl ⟨.bool _, rfl, ?_⟩) | (refine eSt H rfl rfl ⟨.slice _ _ _, rfl, ?_⟩) | (refine eSt H rfl rfl ⟨.pointer _, rfl, ?_⟩) | (refine eSt H rfl rfl ⟨.string _, rfl, ?_⟩) | (refine eSt H rfl rfl ⟨.agg (List.toArray _), rfl, ?_⟩)); (first | ((repeat ((with_reducible refine gES ?_); first | (refine kSt 0 rfl rfl (by exact TT _ rfl) rfl (Nat.le_of_ble_eq_true rfl) ?_) | (refine kStA 0 rfl rfl (by exact TT _ rfl) rfl rfl (Nat.le_of_ble_eq_true rfl) ?_) | (refine nxS ?_))); fail_if_success (with_reducible refine gES ?_))); clear H; intro w1 H; simp only [List.set_cons_zero, List.set_cons_succ] at H; (try simp only [lay, LS1, Nat.reduceAdd] at H))
    | ((with_reducible refine gBx ?_); refine bxA H rfl rfl rfl ?_; clear H; intro b1 w1 H)
    | ((with_reducible refine gBs ?_); (first | (refine bs1 H rfl (by exact SS _ rfl) rfl (Nat.le_of_ble_eq_true rfl) (Nat.le_of_ble_eq_true rfl) rfl ?_) | (refine wl_buildSlice0 rfl (by exact SS _ rfl) H ?_)); clear H; intro b1 w1 H)
    | ((with_reducible refine gEq ?_); (first | (refine wl_cmp rfl rfl rfl rfl ?_) | (refine wl_scmp rfl rfl rfl rfl ?_)); intro rb hrb; cases rb <;> (first | (exfalso; simp at hrb; done) | ((try simp only [CS1, gt_iff_lt, ge_iff_le, ne_eq, Decidable.not_not] at hrb); (try subst hrb); (try (exfalso; omega)))))
    | ((with_reducible refine gAl ?_); (first | (refine al H Z33 rfl rfl ?_) | (refine al H Z110 rfl rfl ?_) | (refine al H Z122 rfl rfl ?_)); clear H; intro b1 w1 H)
    | ((with_reducible refine gRg ?_); refine wp_region_text rfl (by decide +kernel) ?_; replace H := H.drew)
    | ((with_reducible refine EndQ.intro ?_ ?_); (· kernel_rfl))
    | ((with_reducible refine gRg ?_); refine wp_region_UH H rfl (by decide +kernel) ?_; replace H := H.drew; repeat' (first | (refine twL_ldskip rfl ?_; (try simp only [Act.put, List.setIfInBounds_toArray, List.set_cons_succ, List.set_cons_zero])) | (refine twL_ld (fun u h => h) rfl rfl ?_; (first | ((repeat ((with_reducible refine gEx ?_); first | (refine kLd 0 rfl rfl (by exact TT _ rfl) rfl ?_) | (refine kLdA 0 rfl rfl (by exact TT _ rfl) (Nat.le_of_ble_eq_true rfl) (by simp only [Nd.cells, Nd.zero, eP, eE, LS2]; rfl) ?_) | (refine nxL ?_))); fail_if_success (with_reducible refine gEx ?_))); (try simp only [Act.put, List.setIfInBounds_toArray, List.set_cons_succ, List.set_cons_zero])) | (refine twL_skip rfl rfl (H) ?_; (try simp only [Act.put, List.setIfInBounds_toArray, List.set_cons_succ, List.set_cons_zero])) | (refine twL_op rfl rfl ?_; intro K hK; first | (refine wp_run (run_maxX rfl rfl HMX.out) ?_; (first | refine hK _ _ (H) ?_); clear hK K; (try simp only [Act.put, List.setIfInBounds_toArray, List.set_cons_succ, List.set_cons_zero])) | ((with_reducible refine oStG ?_); (first | (refine oSt H rfl ⟨.int _ _, rfl, ?_⟩) | (refine oSt H rfl ⟨.bool _, rfl, ?_⟩) | (refine oSt H rfl ⟨.slice _ _ _, rfl, ?_⟩) | (refine oSt H rfl ⟨.pointer _, rfl, ?_⟩) | (refine oSt H rfl ⟨.string _, rfl, ?_⟩) | (refine oSt H rfl ⟨.agg (List.toArray _), rfl, ?_⟩)); (first | ((repeat ((with_reducible refine gES ?_); first | (refine kSt 0 rfl rfl (by exact TT _ rfl) rfl (Nat.le_of_ble_eq_true rfl) ?_) | (refine kStA 0 rfl rfl (by exact TT _ rfl) rfl rfl (Nat.le_of_ble_eq_true rfl) ?_) | (refine nxS ?_))); fail_if_success (with_reducible refine gES ?_))); clear H; intro w1 H; simp only [List.set_cons_zero, List.set_cons_succ] at H; (first | refine hK _ _ (H) ?_); clear hK K; (try simp only [Act.put, List.setIfInBounds_toArray, List.set_cons_succ, List.set_cons_zero])) | ((with_reducible refine oBinG ?_); (first | (refine oCmp rfl rfl rfl ?_) | (refine oScmp rfl rfl rfl ?_)); intro rb hrb; cases rb <;> (first | (exfalso; simp at hrb; done) | ((try simp only [CS1, gt_iff_lt, ge_iff_le, ne_eq, Decidable.not_not] at hrb); (try subst hrb); (try (exfalso; omega)))) <;> ((first | refine hK _ _ (H) ?_); clear hK K; (try simp only [Act.put, List.setIfInBounds_toArray, List.set_cons_succ, List.set_cons_zero]))) | ((with_reducible refine oCallG ?_); go_simp; go_at_call 50; (with_reducible refine (K1 _ H).mono ?_); rintro e w1 ⟨rfl, H1⟩; clear H; have H := H1; clear H1; (try simp only []); (first | refine hK _ _ (H) ?_); clear hK K; (try simp only [Act.put, List.setIfInBounds_toArray, List.set_cons_succ, List.set_cons_zero])) | ((with_reducible refine oCallG ?_); go_simp; go_at_call 50; (with_reducible refine (K2 _ H).mono ?_); rintro e w1 ⟨rfl, H1⟩; clear H; have H := H1; clear H1; (try simp only []); (first | refine hK _ _ (H) ?_); clear hK K; (try simp only [Act.put, List.setIfInBounds_toArray, List.set_cons_succ, List.set_cons_zero])) | ((with_reducible refine oCallG ?_); go_simp; go_at_call 51; (with_reducible refine (K3 _ H).mono ?_); rintro e w1 ⟨rfl, H1⟩; clear H; have H := H1; clear H1; (try simp only []); (first | refine hK _ _ (H) ?_); clear hK K; (try simp only [Act.put, List.setIfInBounds_toArray, List.set_cons_succ, List.set_cons_zero])) | ((with_reducible refine oCallG ?_); go_simp; go_at_call 51; (with_reducible refine (K4 _ H).mono ?_); rintro e w1 ⟨rfl, H1⟩; clear H; have H := H1; clear H1; (try simp only []); (first | refine hK _ _ (H) ?_); clear hK K; (try simp only [Act.put, List.setIfInBounds_toArray, List.set_cons_succ, List.set_cons_zero])) | (go_simp; (first | refine hK _ _ (H) ?_); clear hK K)) | (refine twL_nil ?_; refine EndQ.intro (by kernel_rfl) ?_)))))
  clear K1 K2 K3 K4
  have hw1 : IntKind.i64.wrap (1 + sa) = 1 + sa := by rw [IntKind.wrap_i64]; omega
  have hw2 : IntKind.i64.wrap (1 + sa + sb) = 1 + sa + sb := by rw [IntKind.wrap_i64]; omega
  have hw3 : IntKind.i64.wrap (1 + mx) = 1 + mx := by rw [IntKind.wrap_i64]; omega
  simp only [hw1, hw2, hw3]
  go_wp2_with (first
    | ((with_reducible refine gEq ?_); (first | (refine wl_cmp rfl rfl rfl rfl ?_) | (refine wl_scmp rfl rfl rfl rfl ?_)); intro rb hrb; cases rb <;> (first | (exfalso; simp at hrb; done) | ((try simp only [CS1, gt_iff_lt, ge_iff_le, ne_eq, Decidable.not_not] at hrb); (try subst hrb); (try (exfalso; omega))))))
  all_goals go_ret2
  all_goals exact ⟨b, s, d, cb, cs, cd, rfl, H.drop⟩
set_option maxHeartbeats 16000000 in
theorem rMk_bigB2 {w0 w : World} {D : Nat → Prop} {R : List Ent} {p : Nat} {b s d : Option Nat} {cb cs cd : Nat} {l : List En} {n : Nd} {sa sb da db mx : Int}  (H : Hp w0 D (eQ p b s d cb cs cd l :: eQn b cb l :: eQs s cs l :: eQd d cd l :: R) w) (hsh : shapeE n = 0) (hkd : kidsN n.kind = 2) (hia : inP l n.a = true) (hib : inP l n.b = true) (hl : l.length ≤ 65536) (hsa : sizeP l n.a = sa) (hsb : sizeP l n.b = sb) (hda : deepP l n.a = da) (hdb : deepP l n.b = db) (hmx : max da db = mx) (s0 : 0 ≤ sa) (s1 : sa ≤ 4096) (t0 : 0 ≤ sb) (t1 : sb ≤ 4096) (m0 : 0 ≤ mx) (m1 : mx ≤ 64) (hb : 1 + sa + sb ≤ 4096) (hc : 64 < 1 + mx) :
    Calls Try.prog 17 #[.pointer (some ⟨p, 0, none⟩), .agg n.cells.toArray] w fun e w' => RMkP w0 D R p (l) (0) (52) e w' := by
  obtain ⟨x1, x2, x3, x4, x5, x6, x7⟩ := n
  (try dsimp only at *)
  have HSH := Lib.hid hsh
  have HL := Lib.hid hl
  have HSA := Lib.hid hsa
  have HSB := Lib.hid hsb
  have HDA := Lib.hid hda
  have HDB := Lib.hid hdb
  have HMX := Lib.hid hmx
  clear hsh hl hsa hsb hda hdb hmx
  have HKD := Lib.hid hkd
  clear hkd
  have HIA := Lib.hid hia
  have HIB := Lib.hid hib
  clear hia hib
  simp only [Nd.cells]
  go_enter Try.func17, Try.ntmps17
  go_upto_region 7 with ((first
    | (go_at_call 48; ((refine (rshape_at (n := ⟨x1, x2, x3, x4, x5, x6, x7⟩) H HSH.out).mono ?_); rintro e w1 ⟨rfl, H1⟩; clear H; have H := H1; clear H1))
    | (go_at_call 49; ((refine (kidsN_at H HKD.out).mono ?_); rintro e w1 ⟨rfl, H1⟩; clear H; have H := H1; clear H1))
    | (go_at_call 36; first | ((with_reducible refine (rIn_c (i := 1) H rfl HIA.out).mono ?_); rintro e w1 ⟨rfl, H1⟩; clear H; have H := H1; clear H1) | ((with_reducible refine (rIn_c (i := 1) H rfl HIB.out).mono ?_); rintro e w1 ⟨rfl, H1⟩; clear H; have H := H1; clear H1))
    | ((with_reducible refine gLd ?_); refine eLd H rfl rfl ?_; first | ((repeat ((with_reducible refine gEx ?_); first | (refine kLd 0 rfl rfl (by exact TT _ rfl) rfl ?_) | (refine kLdA 0 rfl rfl (by exact TT _ rfl) (Nat.le_of_ble_eq_true rfl) (by simp only [Nd.cells, Nd.zero, eP, eE, LS2]; rfl) ?_) | (refine nxL ?_))); fail_if_success (with_reducible refine gEx ?_)))
    | ((with_reducible refine gSt ?_); (first | (refine eSt H rfl rfl ⟨.int _ _, rfl, ?_⟩) | (refine eSt H rfl rfl ⟨.bool _, rfl, ?_⟩) | (refine eSt H rfl rfl ⟨.slice _ _ _, rfl, ?_⟩) | (refine eSt H rfl rfl ⟨.pointer _, rfl, ?_⟩) | (refine eSt H rfl rfl ⟨.string _, rfl, ?_⟩) | (refine eSt H rfl rfl ⟨.agg (List.toArray _), rfl, ?_⟩)); (first | ((repeat ((with_reducible refine gES ?_); first | (refine kSt 0 rfl rfl (by exact TT _ rfl) rfl (Nat.le_of_ble_eq_true rfl) ?_) | (refine kStA 0 rfl rfl (by exact TT _ rfl) rfl rfl (Nat.le_of_ble_eq_true rfl) ?_) | (refine nxS ?_))); fail_if_success (with_reducible refine gES ?_))); clear H; intro w1 H; simp only [List.set_cons_zero, List.set_cons_succ] at H; (try simp only [lay, LS1, Nat.reduceAdd] at H))
    | ((with_reducible refine gBx ?_); refine bxA H rfl rfl rfl ?_; clear H; intro b1 w1 H)
    | ((with_reducible refine gBs ?_); (first | (refine bs1 H rfl (by exact SS _ rfl) rfl (Nat.le_of_ble_eq_true rfl) (Nat.le_of_ble_eq_true rfl) rfl ?_) | (refine wl_buildSlice0 rfl (by exact SS _ rfl) H ?_)); clear H; intro b1 w1 H)
    | ((with_reducible refine gEq ?_); (first | (refine wl_cmp rfl rfl rfl rfl ?_) | (refine wl_scmp rfl rfl rfl rfl ?_)); intro rb hrb; cases rb <;> (first | (exfalso; simp at hrb; done) | ((try simp only [CS1, gt_iff_lt, ge_iff_le, ne_eq, Decidable.not_not] at hrb); (try subst hrb); (try (exfalso; omega)))))
    | ((with_reducible refine gAl ?_); (first | (refine al H Z33 rfl rfl ?_) | (refine al H Z110 rfl rfl ?_) | (refine al H Z122 rfl rfl ?_)); clear H; intro b1 w1 H)
    | ((with_reducible refine gRg ?_); refine wp_region_text rfl (by decide +kernel) ?_; replace H := H.drew)
    | ((with_reducible refine EndQ.intro ?_ ?_); (· kernel_rfl))))
  have K1 := onL H (fun u hu => rSize_c (i := 1) (j := 3) hu rfl rfl HL.out HSA.out)
  have K2 := onL H (fun u hu => rSize_c (i := 1) (j := 3) hu rfl rfl HL.out HSB.out)
  have K3 := onL H (fun u hu => rDepth_c (i := 1) (j := 4) hu rfl rfl HL.out HDA.out)
  have K4 := onL H (fun u hu => rDepth_c (i := 1) (j := 4) hu rfl rfl HL.out HDB.out)
  go_upto_region 9 with ((first
    | ((with_reducible refine gLd ?_); refine eLd H rfl rfl ?_; first | ((repeat ((with_reducible refine gEx ?_); first | (refine kLd 0 rfl rfl (by exact TT _ rfl) rfl ?_) | (refine kLdA 0 rfl rfl (by exact TT _ rfl) (Nat.le_of_ble_eq_true rfl) (by simp only [Nd.cells, Nd.zero, eP, eE, LS2]; rfl) ?_) | (refine nxL ?_))); fail_if_success (with_reducible refine gEx ?_)))
    | ((with_reducible refine gSt ?_); (first | (refine eSt H rfl rfl ⟨.int _ _, rfl, ?_⟩) | (refine eSt H rfl rfl ⟨.bool _, rfl, ?_⟩) | (refine eSt H rfl rfl ⟨.slice _ _ _, rfl, ?_⟩) | (refine eSt H rfl rfl ⟨.pointer _, rfl, ?_⟩) | (refine eSt H rfl rfl ⟨.string _, rfl, ?_⟩) | (refine eSt H rfl rfl ⟨.agg (List.toArray _), rfl, ?_⟩)); (first | ((repeat ((with_reducible refine gES ?_); first | (refine kSt 0 rfl rfl (by exact TT _ rfl) rfl (Nat.le_of_ble_eq_true rfl) ?_) | (refine kStA 0 rfl rfl (by exact TT _ rfl) rfl rfl (Nat.le_of_ble_eq_true rfl) ?_) | (refine nxS ?_))); fail_if_success (with_reducible refine gES ?_))); clear H; intro w1 H; simp only [List.set_cons_zero, List.set_cons_succ] at H; (try simp only [lay, LS1, Nat.reduceAdd] at H))
    | ((with_reducible refine gBx ?_); refine bxA H rfl rfl rfl ?_; clear H; intro b1 w1 H)
    | ((with_reducible refine gBs ?_); (first | (refine bs1 H rfl (by exact SS _ rfl) rfl (Nat.le_of_ble_eq_true rfl) (Nat.le_of_ble_eq_true rfl) rfl ?_) | (refine wl_buildSlice0 rfl (by exact SS _ rfl) H ?_)); clear H; intro b1 w1 H)
    | ((with_reducible refine gEq ?_); (first | (refine wl_cmp rfl rfl rfl rfl ?_) | (refine wl_scmp rfl rfl rfl rfl ?_)); intro rb hrb; cases rb <;> (first | (exfalso; simp at hrb; done) | ((try simp only [CS1, gt_iff_lt, ge_iff_le, ne_eq, Decidable.not_not] at hrb); (try subst hrb); (try (exfalso; omega)))))
    | ((with_reducible refine gAl ?_); (first | (refine al H Z33 rfl rfl ?_) | (refine al H Z110 rfl rfl ?_) | (refine al H Z122 rfl rfl ?_)); clear H; intro b1 w1 H)
    | ((with_reducible refine gRg ?_); refine wp_region_text rfl (by decide +kernel) ?_; replace H := H.drew)
    | ((with_reducible refine EndQ.intro ?_ ?_); (· kernel_rfl))
    | ((with_reducible refine gRg ?_); refine wp_region_UH H rfl (by decide +kernel) ?_; replace H := H.drew; repeat' (first | (refine twL_ldskip rfl ?_; (try simp only [Act.put, List.setIfInBounds_toArray, List.set_cons_succ, List.set_cons_zero])) | (refine twL_ld (fun u h => h) rfl rfl ?_; (first | ((repeat ((with_reducible refine gEx ?_); first | (refine kLd 0 rfl rfl (by exact TT _ rfl) rfl ?_) | (refine kLdA 0 rfl rfl (by exact TT _ rfl) (Nat.le_of_ble_eq_true rfl) (by simp only [Nd.cells, Nd.zero, eP, eE, LS2]; rfl) ?_) | (refine nxL ?_))); fail_if_success (with_reducible refine gEx ?_))); (try simp only [Act.put, List.setIfInBounds_toArray, List.set_cons_succ, List.set_cons_zero])) | (refine twL_skip rfl rfl (H) ?_; (try simp only [Act.put, List.setIfInBounds_toArray, List.set_cons_succ, List.set_cons_zero])) | (refine twL_op rfl rfl ?_; intro K hK; first | (refine wp_run (run_maxX rfl rfl HMX.out) ?_; (first | refine hK _ _ (H) ?_); clear hK K; (try simp only [Act.put, List.setIfInBounds_toArray, List.set_cons_succ, List.set_cons_zero])) | ((with_reducible refine oStG ?_); (first | (refine oSt H rfl ⟨.int _ _, rfl, ?_⟩) | (refine oSt H rfl ⟨.bool _, rfl, ?_⟩) | (refine oSt H rfl ⟨.slice _ _ _, rfl, ?_⟩) | (refine oSt H rfl ⟨.pointer _, rfl, ?_⟩) | (refine oSt H rfl ⟨.string _, rfl, ?_⟩) | (refine oSt H rfl ⟨.agg (List.toArray _), rfl, ?_⟩)); (first | ((repeat ((with_reducible refine gES ?_); first | (refine kSt 0 rfl rfl (by exact TT _ rfl) rfl (Nat.le_of_ble_eq_true rfl) ?_) | (refine kStA 0 rfl rfl (by exact TT _ rfl) rfl rfl (Nat.le_of_ble_eq_true rfl) ?_) | (refine nxS ?_))); fail_if_success (with_reducible refine gES ?_))); clear H; intro w1 H; simp only [List.set_cons_zero, List.set_cons_succ] at H; (first | refine hK _ _ (H) ?_); clear hK K; (try simp only [Act.put, List.setIfInBounds_toArray, List.set_cons_succ, List.set_cons_zero])) | ((with_reducible refine oBinG ?_); (first | (refine oCmp rfl rfl rfl ?_) | (refine oScmp rfl rfl rfl ?_)); intro rb hrb; cases rb <;> (first | (exfalso; simp at hrb; done) | ((try simp only [CS1, gt_iff_lt, ge_iff_le, ne_eq, Decidable.not_not] at hrb); (try subst hrb); (try (exfalso; omega)))) <;> ((first | refine hK _ _ (H) ?_); clear hK K; (try simp only [Act.put, List.setIfInBounds_toArray, List.set_cons_succ, List.set_cons_zero]))) | ((with_reducible refine oCallG ?_); go_simp; go_at_call 50; (with_reducible refine (K1 _ H).mono ?_); rintro e w1 ⟨rfl, H1⟩; clear H; have H := H1; clear H1; (try simp only []); (first | refine hK _ _ (H) ?_); clear hK K; (try simp only [Act.put, List.setIfInBounds_toArray, List.set_cons_succ, List.set_cons_zero])) | ((with_reducible refine oCallG ?_); go_simp; go_at_call 50; (with_reducible refine (K2 _ H).mono ?_); rintro e w1 ⟨rfl, H1⟩; clear H; have H := H1; clear H1; (try simp only []); (first | refine hK _ _ (H) ?_); clear hK K; (try simp only [Act.put, List.setIfInBounds_toArray, List.set_cons_succ, List.set_cons_zero])) | ((with_reducible refine oCallG ?_); go_simp; go_at_call 51; (with_reducible refine (K3 _ H).mono ?_); rintro e w1 ⟨rfl, H1⟩; clear H; have H := H1; clear H1; (try simp only []); (first | refine hK _ _ (H) ?_); clear hK K; (try simp only [Act.put, List.setIfInBounds_toArray, List.set_cons_succ, List.set_cons_zero])) | ((with_reducible refine oCallG ?_); go_simp; go_at_call 51; (with_reducible refine (K4 _ H).mono ?_); rintro e w1 ⟨rfl, H1⟩; clear H; have H := H1; clear H1; (try simp only []); (first | refine hK _ _ (H) ?_); clear hK K; (try simp only [Act.put, List.setIfInBounds_toArray, List.set_cons_succ, List.set_cons_zero])) | (go_simp; (first | refine hK _ _ (H) ?_); clear hK K)) | (refine twL_nil ?_; refine EndQ.intro (by kernel_rfl) ?_)))))
  clear K1 K2 K3 K4
  have hw1 : IntKind.i64.wrap (1 + sa) = 1 + sa := by rw [IntKind.wrap_i64]; omega
  have hw2 : IntKind.i64.wrap (1 + sa + sb) = 1 + sa + sb := by rw [IntKind.wrap_i64]; omega
  have hw3 : IntKind.i64.wrap (1 + mx) = 1 + mx := by rw [IntKind.wrap_i64]; omega
  simp only [hw1, hw2, hw3]
  go_wp2_with (first
    | ((with_reducible refine gEq ?_); (first | (refine wl_cmp rfl rfl rfl rfl ?_) | (refine wl_scmp rfl rfl rfl rfl ?_)); intro rb hrb; cases rb <;> (first | (exfalso; simp at hrb; done) | ((try simp only [CS1, gt_iff_lt, ge_iff_le, ne_eq, Decidable.not_not] at hrb); (try subst hrb); (try (exfalso; omega))))))
  all_goals go_ret2
  all_goals exact ⟨b, s, d, cb, cs, cd, rfl, H.drop⟩
theorem rMk_bigB {w0 w : World} {D : Nat → Prop} {R : List Ent} {p : Nat} {b s d : Option Nat} {cb cs cd : Nat} {l : List En} {n : Nd} {sa sb da db mx : Int}  (H : Hp w0 D (eQ p b s d cb cs cd l :: eQn b cb l :: eQs s cs l :: eQd d cd l :: R) w) (hsh : shapeE n = 0) (hg : kidsN n.kind = 0 ∨ (kidsN n.kind = 1 ∧ inP l n.a = true) ∨ (kidsN n.kind = 2 ∧ inP l n.a = true ∧ inP l n.b = true)) (hl : l.length ≤ 65536) (hsa : sizeP l n.a = sa) (hsb : sizeP l n.b = sb) (hda : deepP l n.a = da) (hdb : deepP l n.b = db) (hmx : max da db = mx) (s0 : 0 ≤ sa) (s1 : sa ≤ 4096) (t0 : 0 ≤ sb) (t1 : sb ≤ 4096) (m0 : 0 ≤ mx) (m1 : mx ≤ 64) (hb : 1 + sa + sb ≤ 4096) (hc : 64 < 1 + mx) :
    Calls Try.prog 17 #[.pointer (some ⟨p, 0, none⟩), .agg n.cells.toArray] w fun e w' => RMkP w0 D R p (l) (0) (52) e w' := by
  rcases hg with h | ⟨h, h2⟩ | ⟨h, h2, h3⟩
  · exact rMk_bigB0 H hsh h hl hsa hsb hda hdb hmx s0 s1 t0 t1 m0 m1 hb hc
  · exact rMk_bigB1 H hsh h h2 hl hsa hsb hda hdb hmx s0 s1 t0 t1 m0 m1 hb hc
  · exact rMk_bigB2 H hsh h h2 h3 hl hsa hsb hda hdb hmx s0 s1 t0 t1 m0 m1 hb hc
end Go.Proofs.Ytebecelhcpljaaa
