/- What functions of layer 4 compute. -/
import Derived.Test.YtgnmjeajmnmobaaW42
import Derived.Deep.Cut
import Derived.WalkKit
import Derived.Lib.Hide
import Derived.Deep.LoopGhost
import Derived.WalkSpells
set_option linter.unusedVariables false
set_option linter.unusedSimpArgs false
namespace Go.Proofs.Ytgnmjeajmnmobaa
open Go.RowKit Go.Gx Go.Gx.Kp
set_option maxRecDepth 100000
open KeyOrd
theorem eqb4 {s : Bool} (w : World) : (Op.equalIn 10000 4 (.bool s) (.bool s)).run Try.prog w = .ok true w := by
  rw [show (10000 : Nat) = 9999 + 1 from rfl]
  unfold Op.equalIn
  simp [run_underlying Try.underlying4]
theorem run_eqb {w : World} {a : Act} {s : Bool} {u ty : TypeId} {dst : Option Tmp} {x y : Operand} {pos : String} {af : Array Edge} {g : Option (Nat × Bool)} (hx : a.eval x = .bool s) (hy : a.eval y = .bool s) :
    (execOp a.eval ⟨dst, .binOp .eql 4 x y u, ty, pos, af, g⟩).run Try.prog w = .ok (.value (.bool true)) w := by
  simp [execOp, hx, hy, eqGuard, binOp, Op.equal, Op.maxDepth, eqb4]
theorem wl_eqb {w : World} {a : Act} {ops : Array Oper} {Q : Exit → Act → World → Prop} {rest : List Oper} {s : Bool} {u ty : TypeId} {dst : Option Tmp} {x y : Operand} {pos : String} {af : Array Edge} {g : Option (Nat × Bool)}
    (hw : Region.wanted ⟨dst, .binOp .eql 4 x y u, ty, pos, af, g⟩ (yielded ops a.tmps) = true) (hx : a.eval x = .bool s) (hy : a.eval y = .bool s)
    (k : wpList Try.prog ops Q rest (a.put dst (.bool true)) w) : wpList Try.prog ops Q (⟨dst, .binOp .eql 4 x y u, ty, pos, af, g⟩ :: rest) a w := wl_run hw (run_eqb hx hy) k
section
variable {P : Program} {w : World} {a : Act} {ops : Array Oper} {Q : Exit → Act → World → Prop} {rest : List Oper}
theorem run_mulT {m n r : Int} {dst : Option Tmp} {t u ty : TypeId} {x y : Operand} {pos : String} {af : Array Edge} {g : Option (Nat × Bool)} (hx : a.eval x = .int .i64 m) (hy : a.eval y = .int .i64 n) (hr : m * n = r) (h1 : -9223372036854775808 ≤ r) (h2 : r ≤ 9223372036854775807) :
    (execOp a.eval ⟨dst, .binOp .mul t x y u, ty, pos, af, g⟩).run P w = .ok (.value (.int .i64 r)) w := by
  subst hr
  have e := conv64 h1 h2
  simp [execOp, hx, hy, eqGuard, binOp, Op.intArith, e]
theorem gMuT {dst : Option Tmp} {t u ty : TypeId} {x y : Operand} {pos : String} {af : Array Edge} {g : Option (Nat × Bool)} (k : wpList P ops Q (⟨dst, .binOp .mul t x y u, ty, pos, af, g⟩ :: rest) a w) : wpList P ops Q (⟨dst, .binOp .mul t x y u, ty, pos, af, g⟩ :: rest) a w := k
theorem gAdT {dst : Option Tmp} {t u ty : TypeId} {x y : Operand} {pos : String} {af : Array Edge} {g : Option (Nat × Bool)} (k : wpList P ops Q (⟨dst, .binOp .add t x y u, ty, pos, af, g⟩ :: rest) a w) : wpList P ops Q (⟨dst, .binOp .add t x y u, ty, pos, af, g⟩ :: rest) a w := k
end
theorem oth_self (a : ByteArray) : (!other a a) = true := by unfold other; rw [irr]; rfl
/-- the list of a map, before what is known -/
def EntP (w0 : World) (D : Nat → Prop) (R : List Ent) (l : Ents) (n : Nat) (e : Ending) (w' : World) : Prop :=
  ∃ (a : Option Nat) (c : Nat), e = .returned (.slice (adr a 0) n c) ∧ Hp w0 D (eE a c l :: R) w'
theorem entries_c {w0 w : World} {D : Nat → Prop} {R : List Ent} {t : T ByteArray Int} {p : Option Nat} {n : Nat} (H : Hp w0 D R w) (ht : Td hS w0 D R t p) (hn : t.size = n) (hs : n ≤ 100000) :
    Calls Try.prog 37 #[mapV p] w fun e w' => EntP w0 D R t.list n e w' := by
  refine (entries_spec (M := []) H ht hn hs).mono ?_
  rintro e w1 ⟨a, c, Z', rfl, hx, H1⟩
  exact ⟨a, c, rfl, Hp.keptM (M := [_]) hx H1⟩
theorem floor_at {t : T ByteArray Int} (hsr : Srt t.list) (k : ByteArray) : floorL t.list k = match tget t k with | some _ => atT t (trank t k : Int) | none => atT t ((trank t k : Int) - 1) := by
  unfold floorL
  rw [tget_eq _ _ hsr, trank_eq _ _ hsr]
  have e : ∀ i : Int, atT t i = atL t.list i := fun i => by unfold atT atL; rw [tat_eq]
  cases h : lget t.list k with
  | some v => dsimp only; rw [e, atL_nat, lget_some h]
  | none => dsimp only; rw [e]
theorem Floor_c {w0 w : World} {D : Nat → Prop} {R : List Ent} {t : T ByteArray Int} {p : Option Nat} {k : ByteArray} {eo : EO} (H : Hp w0 D R w) (ht : Td hS w0 D R t p) (hsr : Srt t.list) (hb : t.size ≤ 100000) (ho : floorL t.list k = eo) :
    Calls Try.prog 30 #[mapV p, .string k] w fun e w' => e = .returned (trip eo) ∧ Hp w0 D R w' := by
  have hr : trank t k ≤ 1000000 := by rw [trank_eq _ _ hsr]; have := rank_le t.list k; rw [T.list_length] at this; omega
  rw [floor_at hsr] at ho
  cases hv : tget t k with
  | some u => rw [hv] at ho; exact Floor_yes H ht hv rfl hr (by omega) ho
  | none => rw [hv] at ho; exact Floor_no H ht hv rfl hr (by omega) ho
set_option maxHeartbeats 4000000 in
theorem tells_spec {w0 w : World} {D : Nat → Prop} {R : List Ent} {t : T ByteArray Int} {p : Option Nat} {x : Option Addr} {c n : Nat} {k : ByteArray} {i : Int} (H : Hp w0 D (R) w) (ht : Td hS w0 D R t p) (hx : Rd w0 D R x (cellsE t.list)) (hsr : Srt t.list) (hbl : Bal t) (hn : t.size = n) (hb5 : n ≤ 100000) :
    Calls Try.prog 48 #[mapV p, .slice x n c, .string k, .int .i64 i] w fun e w' => e = .returned (.bool true) ∧ Hp w0 D R w' := by
  have hb : n ≤ 1000000 := by omega
  have HT := Lib.hid ht
  have HX := Lib.hid hx
  have HSR := Lib.hid hsr
  have HSZ := Lib.hid hn
  have HN := Lib.hid ((T.list_length t).trans hn)
  have HSB := Lib.hid (show t.size ≤ 100000 by omega)
  have HSB2 := Lib.hid (show t.size ≤ 1000000 by omega)
  have e0 : ∀ i : Int, atT t i = atL t.list i := fun i => by unfold atT atL; rw [tat_eq]
  obtain ⟨ov, hov⟩ : ∃ z, lget t.list k = z := ⟨_, rfl⟩
  have HG1 := Lib.hid ((tget_eq _ _ hsr).trans hov)
  have HG2 := Lib.hid hov
  obtain ⟨o1, ho1⟩ : ∃ z, atL t.list i = z := ⟨_, rfl⟩
  have HA1 := Lib.hid ((e0 i).trans ho1)
  have HA2 := Lib.hid ho1
  obtain ⟨o2, ho2⟩ : ∃ z, floorL t.list k = z := ⟨_, rfl⟩
  have HF1 := Lib.hid ho2
  obtain ⟨rk, hrk⟩ : ∃ z, rank t.list k = z := ⟨_, rfl⟩
  have HRL := Lib.hid hrk
  have HRK := Lib.hid ((trank_eq _ _ hsr).trans hrk)
  obtain ⟨o3, ho3⟩ : ∃ z, atL t.list (rk : Int) = z := ⟨_, rfl⟩
  have HC1 := Lib.hid ((e0 _).trans ho3)
  have HC2 : Hid (atL t.list (rank t.list k : Int) = o3) := Lib.hid (by rw [hrk]; exact ho3)
  obtain ⟨dp, hdp⟩ : ∃ z, t.depth = z := ⟨_, rfl⟩
  have HDP := Lib.hid hdp
  obtain ⟨bt, hbt⟩ : ∃ z, Kp.bits n = z := ⟨_, rfl⟩
  have HBT := Lib.hid hbt
  have hbn : bt ≤ n := by rw [← hbt]; exact bits_le n
  have hdb : dp ≤ 2 * bt + 2 := by rw [← hdp, ← hbt, ← hn]; exact bal_depth hbl
  obtain ⟨u, hu⟩ : ∃ z, 2 * bt = z := ⟨_, rfl⟩
  obtain ⟨u2, hu2⟩ : ∃ z, u + 2 = z := ⟨_, rfl⟩
  have hu' : (2 : Int) * (bt : Int) = (u : Int) := by omega
  have hdu : dp ≤ u2 := by omega
  have hu3 : (u : Int) + 2 = (u2 : Int) := by omega
  have hub : u ≤ 200000 := by omega
  obtain ⟨s0, hs0⟩ : ∃ s, ov.isSome = s := ⟨_, rfl⟩
  clear ht hx hn hov ho1 ho2 hrk ho3 hdp hbt hbl hsr hu hu2 hdb hs0 e0
  go_enter Try.func48, Try.ntmps48
  go_upto_region 9 with ((first
    | (go_at_call 32; ((with_reducible refine (Get_spec H (td_cons HT.out) HG1.out).mono ?_); rintro e w1 ⟨rfl, H1⟩; clear H; have H := H1; clear H1))
    | (go_at_call 35; ((with_reducible refine (rGet_spec H (rd_c HX.out) HN.out hb HG2.out).mono ?_); rintro e w1 ⟨rfl, H1⟩; clear H; have H := H1; clear H1))
    | (go_at_call 28; ((with_reducible refine (At_spec H (td_cons HT.out) HSZ.out hb HA1.out).mono ?_); rintro e w1 ⟨rfl, H1⟩; clear H; have H := H1; clear H1))
    | (go_at_call 66; ((with_reducible refine (rAt_spec H (rd_c HX.out) HN.out hb HA2.out).mono ?_); rintro e w1 ⟨rfl, H1⟩; clear H; have H := H1; clear H1))
    | (go_at_call 30; ((with_reducible refine (Floor_c H (td_cons (td_cons HT.out)) HSR.out HSB.out HF1.out).mono ?_); rintro e w1 ⟨rfl, H1⟩; clear H; have H := H1; clear H1))
    | (go_at_call 71; ((with_reducible refine (rFloor_spec H (rd_c (rd_c HX.out)) HN.out hb HF1.out).mono ?_); rintro e w1 ⟨rfl, H1⟩; clear H; have H := H1; clear H1))
    | (go_at_call 31; ((with_reducible refine (Ceil_spec H (td_cons (td_cons (td_cons HT.out))) HRK.out HSB2.out HC1.out).mono ?_); rintro e w1 ⟨rfl, H1⟩; clear H; have H := H1; clear H1))
    | (go_at_call 72; ((with_reducible refine (rCeil_spec H (rd_c (rd_c (rd_c HX.out))) HN.out hb HC2.out).mono ?_); rintro e w1 ⟨rfl, H1⟩; clear H; have H := H1; clear H1))
    | ((with_reducible refine gEq ?_); refine wl_eqb rfl rfl rfl ?_)
    | ((with_reducible refine gEq ?_); refine wl_ocmp rfl rfl (congrArg some (oth_self _)) rfl ?_)
    | ((with_reducible refine gLd ?_); refine eLd H rfl rfl ?_; first | (refine kLd 0 rfl rfl (by first | exact T3 | exact T4 | exact T9 | exact T22 | exact T25 | exact T27 | exact T34) rfl ?_) | (refine kLd 1 rfl rfl (by first | exact T3 | exact T4 | exact T9 | exact T22 | exact T25 | exact T27 | exact T34) rfl ?_) | (refine kLd 2 rfl rfl (by first | exact T3 | exact T4 | exact T9 | exact T22 | exact T25 | exact T27 | exact T34) rfl ?_) | (refine kLd 3 rfl rfl (by first | exact T3 | exact T4 | exact T9 | exact T22 | exact T25 | exact T27 | exact T34) rfl ?_) | (refine kLdA 0 rfl rfl (by first | exact T3 | exact T4 | exact T9 | exact T22 | exact T25 | exact T27 | exact T34) (Nat.le_of_ble_eq_true rfl) (by simp only [List.drop_succ_cons, List.drop_zero, List.take_succ_cons, List.take_zero, List.set_cons_zero, List.set_cons_succ]; rfl) ?_) | (refine kLdA 1 rfl rfl (by first | exact T3 | exact T4 | exact T9 | exact T22 | exact T25 | exact T27 | exact T34) (Nat.le_of_ble_eq_true rfl) (by simp only [List.drop_succ_cons, List.drop_zero, List.take_succ_cons, List.take_zero, List.set_cons_zero, List.set_cons_succ]; rfl) ?_) | (refine kLdA 2 rfl rfl (by first | exact T3 | exact T4 | exact T9 | exact T22 | exact T25 | exact T27 | exact T34) (Nat.le_of_ble_eq_true rfl) (by simp only [List.drop_succ_cons, List.drop_zero, List.take_succ_cons, List.take_zero, List.set_cons_zero, List.set_cons_succ]; rfl) ?_) | (refine kLdA 3 rfl rfl (by first | exact T3 | exact T4 | exact T9 | exact T22 | exact T25 | exact T27 | exact T34) (Nat.le_of_ble_eq_true rfl) (by simp only [List.drop_succ_cons, List.drop_zero, List.take_succ_cons, List.take_zero, List.set_cons_zero, List.set_cons_succ]; rfl) ?_))
    | ((with_reducible refine gSt ?_); (first | (refine eSt H rfl rfl ⟨.int _ _, rfl, ?_⟩) | (refine eSt H rfl rfl ⟨.bool _, rfl, ?_⟩) | (refine eSt H rfl rfl ⟨.slice _ _ _, rfl, ?_⟩) | (refine eSt H rfl rfl ⟨.pointer _, rfl, ?_⟩) | (refine eSt H rfl rfl ⟨.string _, rfl, ?_⟩) | (refine eSt H rfl rfl ⟨.agg (List.toArray _), rfl, ?_⟩)); (first | (refine kSt 0 rfl rfl (by first | exact T3 | exact T4 | exact T9 | exact T22 | exact T25 | exact T27 | exact T34) rfl (Nat.le_of_ble_eq_true rfl) ?_) | (refine kSt 1 rfl rfl (by first | exact T3 | exact T4 | exact T9 | exact T22 | exact T25 | exact T27 | exact T34) rfl (Nat.le_of_ble_eq_true rfl) ?_) | (refine kSt 2 rfl rfl (by first | exact T3 | exact T4 | exact T9 | exact T22 | exact T25 | exact T27 | exact T34) rfl (Nat.le_of_ble_eq_true rfl) ?_) | (refine kSt 3 rfl rfl (by first | exact T3 | exact T4 | exact T9 | exact T22 | exact T25 | exact T27 | exact T34) rfl (Nat.le_of_ble_eq_true rfl) ?_) | (refine kStA 0 rfl rfl (by first | exact T3 | exact T4 | exact T9 | exact T22 | exact T25 | exact T27 | exact T34) rfl rfl (Nat.le_of_ble_eq_true rfl) ?_) | (refine kStA 1 rfl rfl (by first | exact T3 | exact T4 | exact T9 | exact T22 | exact T25 | exact T27 | exact T34) rfl rfl (Nat.le_of_ble_eq_true rfl) ?_) | (refine kStA 2 rfl rfl (by first | exact T3 | exact T4 | exact T9 | exact T22 | exact T25 | exact T27 | exact T34) rfl rfl (Nat.le_of_ble_eq_true rfl) ?_) | (refine kStA 3 rfl rfl (by first | exact T3 | exact T4 | exact T9 | exact T22 | exact T25 | exact T27 | exact T34) rfl rfl (Nat.le_of_ble_eq_true rfl) ?_)); clear H; intro w1 H; simp only [List.set_cons_zero, List.set_cons_succ] at H; (try simp only [lay, List.take_zero, List.nil_append, List.length_cons, List.length_nil, Nat.zero_add, Nat.reduceAdd, List.drop_succ_cons, List.drop_zero, List.drop_nil, List.append_nil, List.take_succ_cons, List.cons_append] at H))
    | ((with_reducible refine gBx ?_); refine bxA H rfl rfl rfl ?_; clear H; intro b1 w1 H)
    | ((with_reducible refine gBs ?_); (first | (refine bs1 H rfl (by first | exact S0) rfl (Nat.le_of_ble_eq_true rfl) (Nat.le_of_ble_eq_true rfl) rfl ?_) | (refine wl_buildSlice0 rfl (by first | exact S0) H ?_)); clear H; intro b1 w1 H)
    | ((with_reducible refine gEq ?_); (first | (refine wl_cmp rfl rfl rfl rfl ?_) | (refine wl_scmp rfl rfl rfl rfl ?_)); intro rb hrb; cases rb <;> (first | (exfalso; simp at hrb; done) | ((try simp only [decide_eq_true_eq, decide_eq_false_iff_not, beq_iff_eq, beq_eq_false_iff_ne, ne_eq, bne_iff_ne, bne_eq_false_iff_eq, Bool.not_eq_true', Bool.not_eq_false', gt_iff_lt, ge_iff_le, Int.not_lt, Int.not_le, Decidable.not_not] at hrb); (try subst hrb); (try (exfalso; omega)))))
    | ((with_reducible refine gAl ?_); (first | (refine al H Z34 rfl rfl ?_)); clear H; intro b1 w1 H)
    | ((with_reducible refine gRg ?_); refine wp_region_text rfl (by decide +kernel) ?_; replace H := H.drew)
    | ((with_reducible refine EndQ.intro ?_ ?_); (· kernel_rfl))))
  go_step
  simp only [List.append_eq, List.cons_append, List.nil_append]
  go_wp2_with (first
    | (go_at_call 39; ((with_reducible refine (Len_spec H (td_cons (td_cons (td_cons (td_cons HT.out)))) HSZ.out).mono ?_); rintro e w1 ⟨rfl, H1⟩; clear H; have H := H1; clear H1))
    | (go_at_call 29; ((with_reducible refine (Rank_spec H (td_cons (td_cons (td_cons (td_cons HT.out)))) HRK.out HSB2.out).mono ?_); rintro e w1 ⟨rfl, H1⟩; clear H; have H := H1; clear H1))
    | (go_at_call 67; ((with_reducible refine (rRank_spec H (rd_c (rd_c (rd_c (rd_c HX.out)))) HN.out hb HRL.out).mono ?_); rintro e w1 ⟨rfl, H1⟩; clear H; have H := H1; clear H1))
    | (go_at_call 73; ((with_reducible refine (MDepth_spec H (td_cons (td_cons (td_cons (td_cons HT.out)))) HDP.out).mono ?_); rintro e w1 ⟨rfl, H1⟩; clear H; have H := H1; clear H1))
    | (go_at_call 74; ((with_reducible refine (Bits_spec H hb HBT.out).mono ?_); rintro e w1 ⟨rfl, H1⟩; clear H; have H := H1; clear H1))
    | (go_at_call 37; ((with_reducible refine (entries_c H (td_cons (td_cons (td_cons (td_cons HT.out)))) HSZ.out hb5).mono ?_); rintro e w1 ⟨a9, c9, rfl, H1⟩; clear H; have H := H1; clear H1))
    | (go_at_call 36; have HY9 := Rd.ent H (i := 0) rfl; ((with_reducible refine (Same_spec H HY9 (rd_c (rd_c (rd_c (rd_c (rd_c HX.out))))) HN.out hb).mono ?_); rintro e w1 ⟨rfl, H1⟩; clear HY9; clear H; have H := H1; clear H1))
    | ((with_reducible refine gEq ?_); refine wl_eqb rfl rfl rfl ?_)
    | ((with_reducible refine gEq ?_); refine wl_ocmp rfl rfl (congrArg some (oth_self _)) rfl ?_)
    | ((with_reducible refine gMuT ?_); refine wl_run rfl (run_mulT (m := 2) (n := (bt : Int)) (r := (u : Int)) rfl rfl (by omega) (by omega) (by omega)) ?_)
    | ((with_reducible refine gAdT ?_); refine wl_run rfl (run_addI (m := (u : Int)) (n := 2) (r := (u2 : Int)) rfl rfl (by omega) (by omega) (by omega)) ?_)
    | ((with_reducible refine gLd ?_); refine eLd H rfl rfl ?_; first | (refine kLd 0 rfl rfl (by first | exact T3 | exact T4 | exact T9 | exact T22 | exact T25 | exact T27 | exact T34) rfl ?_) | (refine kLd 1 rfl rfl (by first | exact T3 | exact T4 | exact T9 | exact T22 | exact T25 | exact T27 | exact T34) rfl ?_) | (refine kLd 2 rfl rfl (by first | exact T3 | exact T4 | exact T9 | exact T22 | exact T25 | exact T27 | exact T34) rfl ?_) | (refine kLd 3 rfl rfl (by first | exact T3 | exact T4 | exact T9 | exact T22 | exact T25 | exact T27 | exact T34) rfl ?_) | (refine kLdA 0 rfl rfl (by first | exact T3 | exact T4 | exact T9 | exact T22 | exact T25 | exact T27 | exact T34) (Nat.le_of_ble_eq_true rfl) (by simp only [List.drop_succ_cons, List.drop_zero, List.take_succ_cons, List.take_zero, List.set_cons_zero, List.set_cons_succ]; rfl) ?_) | (refine kLdA 1 rfl rfl (by first | exact T3 | exact T4 | exact T9 | exact T22 | exact T25 | exact T27 | exact T34) (Nat.le_of_ble_eq_true rfl) (by simp only [List.drop_succ_cons, List.drop_zero, List.take_succ_cons, List.take_zero, List.set_cons_zero, List.set_cons_succ]; rfl) ?_) | (refine kLdA 2 rfl rfl (by first | exact T3 | exact T4 | exact T9 | exact T22 | exact T25 | exact T27 | exact T34) (Nat.le_of_ble_eq_true rfl) (by simp only [List.drop_succ_cons, List.drop_zero, List.take_succ_cons, List.take_zero, List.set_cons_zero, List.set_cons_succ]; rfl) ?_) | (refine kLdA 3 rfl rfl (by first | exact T3 | exact T4 | exact T9 | exact T22 | exact T25 | exact T27 | exact T34) (Nat.le_of_ble_eq_true rfl) (by simp only [List.drop_succ_cons, List.drop_zero, List.take_succ_cons, List.take_zero, List.set_cons_zero, List.set_cons_succ]; rfl) ?_))
    | ((with_reducible refine gSt ?_); (first | (refine eSt H rfl rfl ⟨.int _ _, rfl, ?_⟩) | (refine eSt H rfl rfl ⟨.bool _, rfl, ?_⟩) | (refine eSt H rfl rfl ⟨.slice _ _ _, rfl, ?_⟩) | (refine eSt H rfl rfl ⟨.pointer _, rfl, ?_⟩) | (refine eSt H rfl rfl ⟨.string _, rfl, ?_⟩) | (refine eSt H rfl rfl ⟨.agg (List.toArray _), rfl, ?_⟩)); (first | (refine kSt 0 rfl rfl (by first | exact T3 | exact T4 | exact T9 | exact T22 | exact T25 | exact T27 | exact T34) rfl (Nat.le_of_ble_eq_true rfl) ?_) | (refine kSt 1 rfl rfl (by first | exact T3 | exact T4 | exact T9 | exact T22 | exact T25 | exact T27 | exact T34) rfl (Nat.le_of_ble_eq_true rfl) ?_) | (refine kSt 2 rfl rfl (by first | exact T3 | exact T4 | exact T9 | exact T22 | exact T25 | exact T27 | exact T34) rfl (Nat.le_of_ble_eq_true rfl) ?_) | (refine kSt 3 rfl rfl (by first | exact T3 | exact T4 | exact T9 | exact T22 | exact T25 | exact T27 | exact T34) rfl (Nat.le_of_ble_eq_true rfl) ?_) | (refine kStA 0 rfl rfl (by first | exact T3 | exact T4 | exact T9 | exact T22 | exact T25 | exact T27 | exact T34) rfl rfl (Nat.le_of_ble_eq_true rfl) ?_) | (refine kStA 1 rfl rfl (by first | exact T3 | exact T4 | exact T9 | exact T22 | exact T25 | exact T27 | exact T34) rfl rfl (Nat.le_of_ble_eq_true rfl) ?_) | (refine kStA 2 rfl rfl (by first | exact T3 | exact T4 | exact T9 | exact T22 | exact T25 | exact T27 | exact T34) rfl rfl (Nat.le_of_ble_eq_true rfl) ?_) | (refine kStA 3 rfl rfl (by first | exact T3 | exact T4 | exact T9 | exact T22 | exact T25 | exact T27 | exact T34) rfl rfl (Nat.le_of_ble_eq_true rfl) ?_)); clear H; intro w1 H; simp only [List.set_cons_zero, List.set_cons_succ] at H; (try simp only [lay, List.take_zero, List.nil_append, List.length_cons, List.length_nil, Nat.zero_add, Nat.reduceAdd, List.drop_succ_cons, List.drop_zero, List.drop_nil, List.append_nil, List.take_succ_cons, List.cons_append] at H))
    | ((with_reducible refine gBx ?_); refine bxA H rfl rfl rfl ?_; clear H; intro b1 w1 H)
    | ((with_reducible refine gBs ?_); (first | (refine bs1 H rfl (by first | exact S0) rfl (Nat.le_of_ble_eq_true rfl) (Nat.le_of_ble_eq_true rfl) rfl ?_) | (refine wl_buildSlice0 rfl (by first | exact S0) H ?_)); clear H; intro b1 w1 H)
    | ((with_reducible refine gEq ?_); (first | (refine wl_cmp rfl rfl rfl rfl ?_) | (refine wl_scmp rfl rfl rfl rfl ?_)); intro rb hrb; cases rb <;> (first | (exfalso; simp at hrb; done) | ((try simp only [decide_eq_true_eq, decide_eq_false_iff_not, beq_iff_eq, beq_eq_false_iff_ne, ne_eq, bne_iff_ne, bne_eq_false_iff_eq, Bool.not_eq_true', Bool.not_eq_false', gt_iff_lt, ge_iff_le, Int.not_lt, Int.not_le, Decidable.not_not] at hrb); (try subst hrb); (try (exfalso; omega)))))
    | ((with_reducible refine gAl ?_); (first | (refine al H Z34 rfl rfl ?_)); clear H; intro b1 w1 H)
    | ((with_reducible refine gRg ?_); refine wp_region_text rfl (by decide +kernel) ?_; replace H := H.drew)
    | ((with_reducible refine EndQ.intro ?_ ?_); (· kernel_rfl)))
  go_ret
  exact ⟨rfl, H.drop.drop.drop.drop.drop⟩
end Go.Proofs.Ytgnmjeajmnmobaa
