/- What functions of layer 4 compute. -/
import Derived.Test.YtgnmjeajmnmobaaW13
import Derived.WalkKit
import Derived.Lib.Hide
import Derived.Deep.LoopGhost
import Derived.WalkSpells
set_option linter.unusedVariables false
set_option linter.unusedSimpArgs false
namespace Go.Proofs.Ytgnmjeajmnmobaa
open Go.RowKit Go.Gx Go.Gx.Kp
set_option maxRecDepth 100000
open KeyOrd
abbrev ka : ByteArray := ⟨#[97]⟩
abbrev kb : ByteArray := ⟨#[98]⟩
abbrev kc : ByteArray := ⟨#[99]⟩
abbrev kx : ByteArray := ⟨#[120]⟩
abbrev ky : ByteArray := ⟨#[121]⟩
theorem lt_aa : (lt ka ka : Bool) = false := irr _
theorem lt_bb : (lt kb kb : Bool) = false := irr _
theorem lt_ab : (lt ka kb : Bool) = true := by decide +kernel
theorem lt_ba : (lt kb ka : Bool) = false := lt_asymm lt_ab
theorem lt_bc : (lt kb kc : Bool) = true := by decide +kernel
theorem lt_ac : (lt ka kc : Bool) = true := by decide +kernel
theorem lt_ca : (lt kc ka : Bool) = false := lt_asymm lt_ac
theorem lt_cb : (lt kc kb : Bool) = false := lt_asymm lt_bc
abbrev tL : T ByteArray Int := put (put (put .nil kb 1) ka 2) kb 3
theorem tL_eq : tL = .node kb 3 (.node ka 2 .nil .nil) .nil := by
  simp [tL, put, lt_ab, lt_ba, lt_bb, level, T.depth]
theorem tL_at : atT tL 0 = some (ka, 2) := by rw [tL_eq]; simp [atT, tat, T.size]
theorem tL_rank : trank tL kc = 2 := by rw [tL_eq]; simp [trank, T.size, lt_bc, lt_ac]
theorem tL_none : atT tL ((2 : Nat) : Int) = none := by rw [tL_eq]; simp [atT, tat, T.size]
theorem tL_size : tL.size = 2 := by rw [tL_eq]; simp [T.size]
theorem t0_size : (T.nil : T ByteArray Int).size ≤ 999001 := by decide
theorem t1_size : (put (.nil : T ByteArray Int) kb 1).size ≤ 999001 := by have := put_size (.nil : T ByteArray Int) kb 1; simp only [T.size] at this; omega
theorem t2_size : (put (put (.nil : T ByteArray Int) kb 1) ka 2).size ≤ 999001 := by have := put_size (.nil : T ByteArray Int) kb 1; have := put_size (put (.nil : T ByteArray Int) kb 1) ka 2; simp only [T.size] at *; omega
theorem num_xy : numI ([] ++ [kx]) ky 0 = none := by decide +kernel
theorem num_xx : numI ([] ++ [kx] ++ [ky]) kx 0 = some 0 := by decide +kernel
theorem keyO_some (k : ByteArray) (v : Int) : keyO (some (k, v)) = k := rfl
theorem valO_some (k : ByteArray) (v : Int) : valO (some (k, v)) = v := rfl
def LPost2 (w0 : World) (D : Nat → Prop) (M Z : List Ent) (e : Ending) (w' : World) : Prop :=
  ∃ (a : Option Nat) (c : Nat) (Z' : List Ent), e = .returned (.slice (adr a 0) 2 c) ∧ Xt Z Z' ∧ Hp w0 D (M ++ (eInts a c [1, 3] :: Z')) w'
section
variable {w w0 : World} {D : Nat → Prop} {L : List Ent} {ops : Array Oper} {Q : Exit → Act → World → Prop} {a : Act} {rest : List Oper}
theorem wl_bs3 {dst : Option Tmp} {ty : TypeId} {pos : String} {af : Array Edge} {g : Option (Nat × Bool)} (H : Hp w0 D L w)
    (hw : Region.wanted ⟨dst, .buildSlice 47 3 #[(0, .const (.int .i64 3)), (1, .const (.int .i64 1)), (2, .const (.int .i64 3))], ty, pos, af, g⟩ (yielded ops a.tmps) = true)
    (k : ∀ b w', Hp w0 D (eInts (some b) 3 [3, 1, 3] :: L) w' → wpList Try.prog ops Q rest (a.put dst (.slice (some ⟨b, 0, none⟩) 3 3)) w') :
    wpList Try.prog ops Q (⟨dst, .buildSlice 47 3 #[(0, .const (.int .i64 3)), (1, .const (.int .i64 1)), (2, .const (.int .i64 3))], ty, pos, af, g⟩ :: rest) a w := by
  refine wl_run (v := .slice (some ⟨w.heap.size, 0, none⟩) 3 3) (w' := w.alloc (.cells #[.int .i64 3, .int .i64 1, .int .i64 3] 3)) hw ?_ (k _ _ (H.alloc #[.int .i64 3, .int .i64 1, .int .i64 3] 3 _ rfl))
  go_simp
theorem wl_bs2 {dst : Option Tmp} {ty : TypeId} {pos : String} {af : Array Edge} {g : Option (Nat × Bool)} (H : Hp w0 D L w)
    (hw : Region.wanted ⟨dst, .buildSlice 47 2 #[(0, .const (.int .i64 1)), (1, .const (.int .i64 3))], ty, pos, af, g⟩ (yielded ops a.tmps) = true)
    (k : ∀ b w', Hp w0 D (eInts (some b) 2 [1, 3] :: L) w' → wpList Try.prog ops Q rest (a.put dst (.slice (some ⟨b, 0, none⟩) 2 2)) w') :
    wpList Try.prog ops Q (⟨dst, .buildSlice 47 2 #[(0, .const (.int .i64 1)), (1, .const (.int .i64 3))], ty, pos, af, g⟩ :: rest) a w := by
  refine wl_run (v := .slice (some ⟨w.heap.size, 0, none⟩) 2 2) (w' := w.alloc (.cells #[.int .i64 1, .int .i64 3] 3)) hw ?_ (k _ _ (H.alloc #[.int .i64 1, .int .i64 3] 3 _ rfl))
  go_simp
end
theorem Put0_spec {w0 w : World} {D : Nat → Prop} {M Z : List Ent} {k : ByteArray} {v : Int} (H : Hp w0 D (M ++ Z) w) : Calls Try.prog 46 #[.agg (List.toArray [.pointer none]), .string k, .int .i64 v] w fun e w' => MPost w0 D M Z (put .nil k v) e w' :=
  Put_spec (p := none) H (show Td hS w0 D Z .nil none from rfl) t0_size
theorem QPush0_spec {w0 w : World} {D : Nat → Prop} {M Z : List Ent} {v : Int} (H : Hp w0 D (M ++ Z) w) : Calls Try.prog 18 #[.agg (List.toArray [.pointer none, .pointer none, .int .i64 0]), .int .i64 v] w fun e w' => QPost w0 D M Z ([] ++ [v]) e w' :=
  QPush_spec H (Qu.nil (w0 := w0) (D := D) (Z := Z)) (by decide)
theorem QLen1 {w0 w : World} {D : Nat → Prop} {R : List Ent} {pf pb : Option Nat} (H : Hp w0 D R w) : Calls Try.prog 19 #[.agg (List.toArray [ptr pf, ptr pb, .int .i64 1])] w fun e w' => e = .returned (.int .i64 1) ∧ Hp w0 D R w' := QLen (n := 1) H
theorem ListLive {w0 w : World} {D : Nat → Prop} {M Z : List Ent} {p : Option Nat} (H : Hp w0 D (M ++ Z) w) (ht : Ti w0 D Z (tset 3) p) : Calls Try.prog 62 #[mapV p] w fun e w' => LPost2 w0 D M Z e w' :=
  (ListI_spec H ht (by decide)).mono fun e w' ⟨a, c, Z', he, hx, H'⟩ => ⟨a, c, Z', he, hx, H'⟩
set_option maxHeartbeats 4000000 in
theorem live_spec {w0 w : World} {D : Nat → Prop} {R : List Ent}  (H : Hp w0 D (R) w)  :
    Calls Try.prog 13 #[] w fun e w' => e = .returned (.bool true) ∧ Hp w0 D R w' := by
  go_enter Try.func13, Try.ntmps13
  go_wp2_with (first
    | (go_at_call 46; have H2 : Hp w0 D (([_] : List Ent) ++ R) _ := H; ((with_reducible refine (Put0_spec H2).mono ?_); rintro e w1 ⟨p1, Z1, rfl, hx1, ht1, H1⟩; clear H H2; have H := H1; clear H1; simp only [List.cons_append, List.nil_append] at H))
    | (go_at_call 46; have H2 : Hp w0 D (([_] : List Ent) ++ Z1) _ := H; ((with_reducible refine (Put_spec H2 ht1 t1_size).mono ?_); rintro e w1 ⟨p2, Z2, rfl, hx2, ht2, H1⟩; clear H H2; have H := H1; clear H1; simp only [List.cons_append, List.nil_append] at H))
    | (go_at_call 46; have H2 : Hp w0 D (([_] : List Ent) ++ Z2) _ := H; ((with_reducible refine (Put_spec H2 ht2 t2_size).mono ?_); rintro e w1 ⟨p3, Z3, rfl, hx3, ht3, H1⟩; clear H H2; have H := H1; clear H1; simp only [List.cons_append, List.nil_append] at H))
    | (go_at_call 28; ((with_reducible refine (At_spec H (td_cons ht3) tL_size (by decide) tL_at).mono ?_); rintro e w1 ⟨rfl, H1⟩; clear H; have H := H1; clear H1; (try simp only [keyO_some, valO_some])))
    | (go_at_call 31; ((with_reducible refine (Ceil_spec H (td_cons ht3) tL_rank (Nat.le_trans (Nat.le_of_eq tL_size) (by decide)) tL_none).mono ?_); rintro e w1 ⟨rfl, H1⟩; clear H; have H := H1; clear H1; (try simp only [keyO_some, valO_some])))
    | (go_at_call 18; have H2 : Hp w0 D (([_, _] : List Ent) ++ Z3) _ := H; ((with_reducible refine (QPush0_spec H2).mono ?_); rintro e w1 ⟨v4, Z4, rfl, hx4, hq4, H1⟩; clear H H2; have H := H1; clear H1; simp only [List.cons_append, List.nil_append] at H))
    | (go_at_call 18; have H2 : Hp w0 D (([_, _] : List Ent) ++ Z4) _ := H; ((with_reducible refine (QPush_spec H2 hq4 (by decide)).mono ?_); rintro e w1 ⟨v5, Z5, rfl, hx5, hq5, H1⟩; clear H H2; have H := H1; clear H1; simp only [List.cons_append, List.nil_append] at H))
    | (go_at_call 17; have H2 : Hp w0 D (([_, _] : List Ent) ++ Z5) _ := H; ((with_reducible refine (Pop_spec H2 hq5 (by decide)).mono ?_); rintro e w1 ⟨qv, Z6, rfl, hx6, ⟨F, B, pf, pb, rfl, hl6, hf6, hb6⟩, H1⟩; clear H H2; have H := H1; clear H1; simp only [List.cons_append, List.nil_append] at H))
    | (go_at_call 22; ((with_reducible refine (NewIntern_spec H).mono ?_); rintro e w1 ⟨pn, rfl, h1⟩; clear H; have HI := Lib.hid h1; have H := h1.hp; clear h1))
    | (go_at_call 24; ((with_reducible refine (Of_new HI.out (show numI [] kx 0 = none from rfl) (by decide)).mono ?_); rintro e w1 ⟨rfl, h1⟩; clear H HI; have HI := Lib.hid h1; have H := h1.hp; clear h1))
    | (go_at_call 24; ((with_reducible refine (Of_new HI.out num_xy (by decide)).mono ?_); rintro e w1 ⟨rfl, h1⟩; clear H HI; have HI := Lib.hid h1; have H := h1.hp; clear h1))
    | (go_at_call 24; ((with_reducible refine (Of_old HI.out num_xx).mono ?_); rintro e w1 ⟨rfl, h1⟩; clear H HI; have HI := Lib.hid h1; have H := h1.hp; clear h1))
    | (go_at_call 39; ((with_reducible refine (Len_spec H (td_cons (td_cons (td_cons (ht3.ext ((hx4.trans hx5).trans hx6))))) tL_size).mono ?_); rintro e w1 ⟨rfl, H1⟩; clear H; have H := H1; clear H1))
    | (go_at_call 19; ((with_reducible refine (QLen1 H).mono ?_); rintro e w1 ⟨rfl, H1⟩; clear H; have H := H1; clear H1))
    | ((with_reducible refine gBs ?_); refine wl_bs3 H rfl ?_; clear H; intro b9 w1 H)
    | ((with_reducible refine gBs ?_); refine wl_bs2 H rfl ?_; clear H; intro b8 w1 H)
    | (go_at_call 61; have H2 : Hp w0 D (([_, _, _, _] : List Ent) ++ Z6) _ := H; have HX : Rd w0 D (([_, _, _, _] : List Ent) ++ Z6) (some ⟨b9, 0, none⟩) [.int .i64 3, .int .i64 1, .int .i64 3] := Rd.ent H2 (i := 0) rfl; ((with_reducible refine (SetOf_live H2 HX).mono ?_); rintro e w1 ⟨p7, Z7, rfl, hx7, ht7, H1⟩; clear HX; clear H H2; have H := H1; clear H1; simp only [List.cons_append, List.nil_append] at H))
    | (go_at_call 62; have H2 : Hp w0 D (([_, _, _, _] : List Ent) ++ Z7) _ := H; ((with_reducible refine (ListLive H2 ht7).mono ?_); rintro e w1 ⟨aL, cL, Z8, rfl, hx8, H1⟩; clear H H2; have H := H1; clear H1; simp only [List.cons_append, List.nil_append] at H))
    | (go_at_call 20; have HX1 : Rd w0 D _ (adr aL 0) (ints [1, 3]) := Rd.ent H (i := 5) rfl; have HX2 : Rd w0 D _ (some ⟨b8, 0, none⟩) (ints [1, 3]) := Rd.ent H (i := 0) rfl; ((with_reducible refine (Ints_spec (l := [1, 3]) (n := 2) H HX1 HX2 rfl (by decide)).mono ?_); rintro e w1 ⟨rfl, H1⟩; clear HX1 HX2; clear H; have H := H1; clear H1))
    | ((with_reducible refine gLd ?_); refine eLd H rfl rfl ?_; first | (refine kLdB 0 rfl rfl (by first | exact T2 | exact T3 | exact T4 | exact T9 | exact T22 | exact T25 | exact T27 | exact T31 | exact T34 | exact T41 | exact T42 | exact T44 | exact T47 | exact T52 | exact T53 | exact T75 | exact T97 | exact T99 | exact T101 | exact T106 | exact T107 | exact T109 | exact T112 | exact T116 | exact T118 | exact T120 | exact T137 | exact T146) rfl ?_; intro rb hrb; cases rb <;> (first | (exfalso; simp at hrb; done) | ((try simp only [decide_eq_true_eq, decide_eq_false_iff_not, beq_iff_eq, beq_eq_false_iff_ne, ne_eq, bne_iff_ne, bne_eq_false_iff_eq, Bool.not_eq_true', Bool.not_eq_false', gt_iff_lt, ge_iff_le, Int.not_lt, Int.not_le, Decidable.not_not] at hrb); (try subst hrb); (try (exfalso; omega))))) | (refine kLdB 1 rfl rfl (by first | exact T2 | exact T3 | exact T4 | exact T9 | exact T22 | exact T25 | exact T27 | exact T31 | exact T34 | exact T41 | exact T42 | exact T44 | exact T47 | exact T52 | exact T53 | exact T75 | exact T97 | exact T99 | exact T101 | exact T106 | exact T107 | exact T109 | exact T112 | exact T116 | exact T118 | exact T120 | exact T137 | exact T146) rfl ?_; intro rb hrb; cases rb <;> (first | (exfalso; simp at hrb; done) | ((try simp only [decide_eq_true_eq, decide_eq_false_iff_not, beq_iff_eq, beq_eq_false_iff_ne, ne_eq, bne_iff_ne, bne_eq_false_iff_eq, Bool.not_eq_true', Bool.not_eq_false', gt_iff_lt, ge_iff_le, Int.not_lt, Int.not_le, Decidable.not_not] at hrb); (try subst hrb); (try (exfalso; omega))))) | (refine kLdB 2 rfl rfl (by first | exact T2 | exact T3 | exact T4 | exact T9 | exact T22 | exact T25 | exact T27 | exact T31 | exact T34 | exact T41 | exact T42 | exact T44 | exact T47 | exact T52 | exact T53 | exact T75 | exact T97 | exact T99 | exact T101 | exact T106 | exact T107 | exact T109 | exact T112 | exact T116 | exact T118 | exact T120 | exact T137 | exact T146) rfl ?_; intro rb hrb; cases rb <;> (first | (exfalso; simp at hrb; done) | ((try simp only [decide_eq_true_eq, decide_eq_false_iff_not, beq_iff_eq, beq_eq_false_iff_ne, ne_eq, bne_iff_ne, bne_eq_false_iff_eq, Bool.not_eq_true', Bool.not_eq_false', gt_iff_lt, ge_iff_le, Int.not_lt, Int.not_le, Decidable.not_not] at hrb); (try subst hrb); (try (exfalso; omega))))) | (refine kLd 0 rfl rfl (by first | exact T2 | exact T3 | exact T4 | exact T9 | exact T22 | exact T25 | exact T27 | exact T31 | exact T34 | exact T41 | exact T42 | exact T44 | exact T47 | exact T52 | exact T53 | exact T75 | exact T97 | exact T99 | exact T101 | exact T106 | exact T107 | exact T109 | exact T112 | exact T116 | exact T118 | exact T120 | exact T137 | exact T146) rfl ?_) | (refine kLd 1 rfl rfl (by first | exact T2 | exact T3 | exact T4 | exact T9 | exact T22 | exact T25 | exact T27 | exact T31 | exact T34 | exact T41 | exact T42 | exact T44 | exact T47 | exact T52 | exact T53 | exact T75 | exact T97 | exact T99 | exact T101 | exact T106 | exact T107 | exact T109 | exact T112 | exact T116 | exact T118 | exact T120 | exact T137 | exact T146) rfl ?_) | (refine kLd 2 rfl rfl (by first | exact T2 | exact T3 | exact T4 | exact T9 | exact T22 | exact T25 | exact T27 | exact T31 | exact T34 | exact T41 | exact T42 | exact T44 | exact T47 | exact T52 | exact T53 | exact T75 | exact T97 | exact T99 | exact T101 | exact T106 | exact T107 | exact T109 | exact T112 | exact T116 | exact T118 | exact T120 | exact T137 | exact T146) rfl ?_) | (refine kLdA 0 rfl rfl (by first | exact T2 | exact T3 | exact T4 | exact T9 | exact T22 | exact T25 | exact T27 | exact T31 | exact T34 | exact T41 | exact T42 | exact T44 | exact T47 | exact T52 | exact T53 | exact T75 | exact T97 | exact T99 | exact T101 | exact T106 | exact T107 | exact T109 | exact T112 | exact T116 | exact T118 | exact T120 | exact T137 | exact T146) (Nat.le_of_ble_eq_true rfl) (by simp only [List.drop_succ_cons, List.drop_zero, List.take_succ_cons, List.take_zero, List.set_cons_zero, List.set_cons_succ]; rfl) ?_) | (refine kLdA 1 rfl rfl (by first | exact T2 | exact T3 | exact T4 | exact T9 | exact T22 | exact T25 | exact T27 | exact T31 | exact T34 | exact T41 | exact T42 | exact T44 | exact T47 | exact T52 | exact T53 | exact T75 | exact T97 | exact T99 | exact T101 | exact T106 | exact T107 | exact T109 | exact T112 | exact T116 | exact T118 | exact T120 | exact T137 | exact T146) (Nat.le_of_ble_eq_true rfl) (by simp only [List.drop_succ_cons, List.drop_zero, List.take_succ_cons, List.take_zero, List.set_cons_zero, List.set_cons_succ]; rfl) ?_) | (refine kLdA 2 rfl rfl (by first | exact T2 | exact T3 | exact T4 | exact T9 | exact T22 | exact T25 | exact T27 | exact T31 | exact T34 | exact T41 | exact T42 | exact T44 | exact T47 | exact T52 | exact T53 | exact T75 | exact T97 | exact T99 | exact T101 | exact T106 | exact T107 | exact T109 | exact T112 | exact T116 | exact T118 | exact T120 | exact T137 | exact T146) (Nat.le_of_ble_eq_true rfl) (by simp only [List.drop_succ_cons, List.drop_zero, List.take_succ_cons, List.take_zero, List.set_cons_zero, List.set_cons_succ]; rfl) ?_))
    | ((with_reducible refine gSt ?_); (first | (refine eSt H rfl rfl ⟨.int _ _, rfl, ?_⟩) | (refine eSt H rfl rfl ⟨.bool _, rfl, ?_⟩) | (refine eSt H rfl rfl ⟨.slice _ _ _, rfl, ?_⟩) | (refine eSt H rfl rfl ⟨.pointer _, rfl, ?_⟩) | (refine eSt H rfl rfl ⟨.string _, rfl, ?_⟩) | (refine eSt H rfl rfl ⟨.agg (List.toArray _), rfl, ?_⟩)); (first | (refine kSt 0 rfl rfl (by first | exact T2 | exact T3 | exact T4 | exact T9 | exact T22 | exact T25 | exact T27 | exact T31 | exact T34 | exact T41 | exact T42 | exact T44 | exact T47 | exact T52 | exact T53 | exact T75 | exact T97 | exact T99 | exact T101 | exact T106 | exact T107 | exact T109 | exact T112 | exact T116 | exact T118 | exact T120 | exact T137 | exact T146) rfl (Nat.le_of_ble_eq_true rfl) ?_) | (refine kSt 1 rfl rfl (by first | exact T2 | exact T3 | exact T4 | exact T9 | exact T22 | exact T25 | exact T27 | exact T31 | exact T34 | exact T41 | exact T42 | exact T44 | exact T47 | exact T52 | exact T53 | exact T75 | exact T97 | exact T99 | exact T101 | exact T106 | exact T107 | exact T109 | exact T112 | exact T116 | exact T118 | exact T120 | exact T137 | exact T146) rfl (Nat.le_of_ble_eq_true rfl) ?_) | (refine kSt 2 rfl rfl (by first | exact T2 | exact T3 | exact T4 | exact T9 | exact T22 | exact T25 | exact T27 | exact T31 | exact T34 | exact T41 | exact T42 | exact T44 | exact T47 | exact T52 | exact T53 | exact T75 | exact T97 | exact T99 | exact T101 | exact T106 | exact T107 | exact T109 | exact T112 | exact T116 | exact T118 | exact T120 | exact T137 | exact T146) rfl (Nat.le_of_ble_eq_true rfl) ?_) | (refine kStA 0 rfl rfl (by first | exact T2 | exact T3 | exact T4 | exact T9 | exact T22 | exact T25 | exact T27 | exact T31 | exact T34 | exact T41 | exact T42 | exact T44 | exact T47 | exact T52 | exact T53 | exact T75 | exact T97 | exact T99 | exact T101 | exact T106 | exact T107 | exact T109 | exact T112 | exact T116 | exact T118 | exact T120 | exact T137 | exact T146) rfl rfl (Nat.le_of_ble_eq_true rfl) ?_) | (refine kStA 1 rfl rfl (by first | exact T2 | exact T3 | exact T4 | exact T9 | exact T22 | exact T25 | exact T27 | exact T31 | exact T34 | exact T41 | exact T42 | exact T44 | exact T47 | exact T52 | exact T53 | exact T75 | exact T97 | exact T99 | exact T101 | exact T106 | exact T107 | exact T109 | exact T112 | exact T116 | exact T118 | exact T120 | exact T137 | exact T146) rfl rfl (Nat.le_of_ble_eq_true rfl) ?_) | (refine kStA 2 rfl rfl (by first | exact T2 | exact T3 | exact T4 | exact T9 | exact T22 | exact T25 | exact T27 | exact T31 | exact T34 | exact T41 | exact T42 | exact T44 | exact T47 | exact T52 | exact T53 | exact T75 | exact T97 | exact T99 | exact T101 | exact T106 | exact T107 | exact T109 | exact T112 | exact T116 | exact T118 | exact T120 | exact T137 | exact T146) rfl rfl (Nat.le_of_ble_eq_true rfl) ?_)); clear H; intro w1 H; simp only [List.set_cons_zero, List.set_cons_succ] at H; (try simp only [lay, List.take_zero, List.nil_append, List.length_cons, List.length_nil, Nat.zero_add, Nat.reduceAdd, List.drop_succ_cons, List.drop_zero, List.drop_nil, List.append_nil, List.take_succ_cons, List.cons_append] at H))
    | ((with_reducible refine gBx ?_); refine bxA H rfl rfl rfl ?_; clear H; intro b1 w1 H)
    | ((with_reducible refine gBs ?_); (first | (refine bs1 H rfl (by first | exact S0) rfl (Nat.le_of_ble_eq_true rfl) (Nat.le_of_ble_eq_true rfl) rfl ?_) | (refine wl_buildSlice0 rfl (by first | exact S0) H ?_)); clear H; intro b1 w1 H)
    | ((with_reducible refine gEq ?_); (first | (refine wl_cmp rfl rfl rfl rfl ?_) | (refine wl_scmp rfl rfl rfl rfl ?_)); intro rb hrb; cases rb <;> (first | (exfalso; simp at hrb; done) | ((try simp only [decide_eq_true_eq, decide_eq_false_iff_not, beq_iff_eq, beq_eq_false_iff_ne, ne_eq, bne_iff_ne, bne_eq_false_iff_eq, Bool.not_eq_true', Bool.not_eq_false', gt_iff_lt, ge_iff_le, Int.not_lt, Int.not_le, Decidable.not_not] at hrb); (try subst hrb); (try (exfalso; omega)))))
    | ((with_reducible refine gAl ?_); (first | (refine al H Z27 rfl rfl ?_) | (refine al H Z44 rfl rfl ?_)); clear H; intro b1 w1 H)
    | ((with_reducible refine gRg ?_); refine wp_region_text rfl (by decide +kernel) ?_; replace H := H.drew)
    | ((with_reducible refine EndQ.intro ?_ ?_); (· kernel_rfl)))
  all_goals
    go_ret
    refine ⟨rfl, Hp.keptZ (M := [_, _, _, _, _, _]) ((((((hx1.trans hx2).trans hx3).trans hx4).trans hx5).trans hx6).trans (hx7.trans hx8)) H⟩
end Go.Proofs.Ytgnmjeajmnmobaa
