/- What functions of layer 1 compute. -/
import Derived.Test.YtajaloaknfbobaaW12
import Derived.Test.YtajaloaknfbobaaGxMark
import Derived.OwnWalk
import Derived.WalkKit
import Derived.WalkLawsBesides
import Derived.Lib.Hide
import Derived.Deep.LoopGhost
import Derived.WalkSpells
set_option linter.unusedVariables false
set_option linter.unusedSimpArgs false
namespace Go.Proofs.Ytajaloaknfbobaa
open Go.RowKit Go.Gx Go.Gx.Cod
set_option maxRecDepth 100000
theorem raw_a4 (w : World) (a : Act) {dst : Option Tmp} {ty : TypeId} {pos : String} {af : Array Edge} {g : Option (Nat × Bool)} :
    (execOp a.eval ⟨dst, .buildSlice 22 4 #[(0, .const (.int .u8 172)), (1, .const (.int .u8 2)), (2, .const (.int .u8 1)), (3, .const (.int .u8 97))], ty, pos, af, g⟩).run Try.prog w = .ok (.value (.slice (some ⟨w.heap.size, 0, none⟩) 4 4)) (w.alloc (.cells #[.int .u8 172, .int .u8 2, .int .u8 1, .int .u8 97] 5)) := by kernel_rfl
theorem wl_a4 {w0 w : World} {D : Nat → Prop} {L : List Ent} {ops : Array Oper} {Q : Exit → Act → World → Prop} {a : Act} {rest : List Oper} {dst : Option Tmp} {ty : TypeId} {pos : String} {af : Array Edge} {g : Option (Nat × Bool)} (H : Hp w0 D L w)
    (hw : Region.wanted ⟨dst, .buildSlice 22 4 #[(0, .const (.int .u8 172)), (1, .const (.int .u8 2)), (2, .const (.int .u8 1)), (3, .const (.int .u8 97))], ty, pos, af, g⟩ (yielded ops a.tmps) = true)
    (k : ∀ b w', Hp w0 D (eB (some b) 4 [172, 2, 1, 97] :: L) w' → wpList Try.prog ops Q rest (a.put dst (.slice (some ⟨b, 0, none⟩) 4 4)) w') :
    wpList Try.prog ops Q (⟨dst, .buildSlice 22 4 #[(0, .const (.int .u8 172)), (1, .const (.int .u8 2)), (2, .const (.int .u8 1)), (3, .const (.int .u8 97))], ty, pos, af, g⟩ :: rest) a w :=
  wl_run hw (raw_a4 w a) (k _ _ (H.alloc #[.int .u8 172, .int .u8 2, .int .u8 1, .int .u8 97] 5 (bs [172, 2, 1, 97]) rfl))
theorem raw_a6 (w : World) (a : Act) {dst : Option Tmp} {ty : TypeId} {pos : String} {af : Array Edge} {g : Option (Nat × Bool)} :
    (execOp a.eval ⟨dst, .buildSlice 22 6 #[(0, .const (.int .u8 1)), (1, .const (.int .u8 97)), (2, .const (.int .u8 0)), (3, .const (.int .u8 0)), (4, .const (.int .u8 0)), (5, .const (.int .u8 0))], ty, pos, af, g⟩).run Try.prog w = .ok (.value (.slice (some ⟨w.heap.size, 0, none⟩) 6 6)) (w.alloc (.cells #[.int .u8 1, .int .u8 97, .int .u8 0, .int .u8 0, .int .u8 0, .int .u8 0] 5)) := by kernel_rfl
theorem wl_a6 {w0 w : World} {D : Nat → Prop} {L : List Ent} {ops : Array Oper} {Q : Exit → Act → World → Prop} {a : Act} {rest : List Oper} {dst : Option Tmp} {ty : TypeId} {pos : String} {af : Array Edge} {g : Option (Nat × Bool)} (H : Hp w0 D L w)
    (hw : Region.wanted ⟨dst, .buildSlice 22 6 #[(0, .const (.int .u8 1)), (1, .const (.int .u8 97)), (2, .const (.int .u8 0)), (3, .const (.int .u8 0)), (4, .const (.int .u8 0)), (5, .const (.int .u8 0))], ty, pos, af, g⟩ (yielded ops a.tmps) = true)
    (k : ∀ b w', Hp w0 D (eB (some b) 6 [1, 97, 0, 0, 0, 0] :: L) w' → wpList Try.prog ops Q rest (a.put dst (.slice (some ⟨b, 0, none⟩) 6 6)) w') :
    wpList Try.prog ops Q (⟨dst, .buildSlice 22 6 #[(0, .const (.int .u8 1)), (1, .const (.int .u8 97)), (2, .const (.int .u8 0)), (3, .const (.int .u8 0)), (4, .const (.int .u8 0)), (5, .const (.int .u8 0))], ty, pos, af, g⟩ :: rest) a w :=
  wl_run hw (raw_a6 w a) (k _ _ (H.alloc #[.int .u8 1, .int .u8 97, .int .u8 0, .int .u8 0, .int .u8 0, .int .u8 0] 5 (bs [1, 97, 0, 0, 0, 0]) rfl))
theorem raw_a1 (w : World) (a : Act) {dst : Option Tmp} {ty : TypeId} {pos : String} {af : Array Edge} {g : Option (Nat × Bool)} :
    (execOp a.eval ⟨dst, .buildSlice 22 1 #[(0, .const (.int .u8 97))], ty, pos, af, g⟩).run Try.prog w = .ok (.value (.slice (some ⟨w.heap.size, 0, none⟩) 1 1)) (w.alloc (.cells #[.int .u8 97] 5)) := by kernel_rfl
theorem wl_a1 {w0 w : World} {D : Nat → Prop} {L : List Ent} {ops : Array Oper} {Q : Exit → Act → World → Prop} {a : Act} {rest : List Oper} {dst : Option Tmp} {ty : TypeId} {pos : String} {af : Array Edge} {g : Option (Nat × Bool)} (H : Hp w0 D L w)
    (hw : Region.wanted ⟨dst, .buildSlice 22 1 #[(0, .const (.int .u8 97))], ty, pos, af, g⟩ (yielded ops a.tmps) = true)
    (k : ∀ b w', Hp w0 D (eB (some b) 1 [97] :: L) w' → wpList Try.prog ops Q rest (a.put dst (.slice (some ⟨b, 0, none⟩) 1 1)) w') :
    wpList Try.prog ops Q (⟨dst, .buildSlice 22 1 #[(0, .const (.int .u8 97))], ty, pos, af, g⟩ :: rest) a w :=
  wl_run hw (raw_a1 w a) (k _ _ (H.alloc #[.int .u8 97] 5 (bs [97]) rfl))

theorem run_cvc (w : World) {dst : Option Tmp} {x : Operand} {ty : TypeId} {pos : String} {af : Array Edge} {g : Option (Nat × Bool)} {a : Act} {C : Array Value} {n c : Nat} (hx : a.eval x = .slice (some ⟨w.heap.size, 0, none⟩) n c) :
    (execOp a.eval ⟨dst, .convert 22 22 x, ty, pos, af, g⟩).run Try.prog (w.alloc (.cells C 5)) = .ok (.value (.slice (some ⟨w.heap.size, 0, none⟩) n c)) (w.alloc (.cells C 5 (C.size, C.size + 1))) := by
  simp only [execOp, hx, Sem.run_bind, Lib.run_convert_bytes_const w 22 5 C n c Try.underlying22 Try.underlying5, Result.andThen_ok, Sem.run_pure]
def A4 : List UInt8 := [172, 2, 1, 97]
def A6 : List UInt8 := [1, 97, 0, 0, 0, 0]
def S6 : List UInt8 := [1, 97, 48, 67, 208, 193]
theorem seal97 : seal_ [97] = S6 := by
  have h1 : enc ([97] : List UInt8).length = [1] := enc_lo (by decide)
  have h2 : sum4 (crc [97]) = [48, 67, 208, 193] := by decide +kernel
  rw [seal_, h1, h2]; rfl
theorem enc300 : enc 300 = [172, 2] := by rw [enc_hi (by decide), enc_lo (by decide)]; rfl
theorem n1 : numM (A4.drop 0) 0 0 = (2, 0, 300) := by decide +kernel
theorem n2 : numM (A4.drop 2) 0 0 = (1, 0, 1) := by decide +kernel
theorem n3 : numM (S6.drop 0) 0 0 = (1, 0, 1) := by decide +kernel
theorem n4 : numM (A6.drop 0) 0 0 = (1, 0, 1) := by decide +kernel
theorem c3 : le ((S6.drop (1 + 1)).take 4) 0 = (crc ((S6.drop 1).take 1)).toNat := by decide +kernel
theorem c4 : ¬ le ((A6.drop (1 + 1)).take 4) 0 = (crc ((A6.drop 1).take 1)).toNat := by decide +kernel
section
variable {w0 w : World} {D : Nat → Prop} {R : List Ent}
theorem lNum {p c : Nat} {a : Option Nat} (H : Hp w0 D (eR 66 p a c (Rr.mk A4 0 0 0) :: eB a c A4 :: R) w) : Calls Try.prog 20 #[.pointer (some ⟨p, 0, none⟩)] w fun e w' => e = .returned (.int .u64 300) ∧ Hp w0 D (eR 66 p a c (Rr.mk A4 2 0 0) :: eB a c A4 :: R) w' :=
  Num_ok (r := Rr.mk A4 0 0 0) H (Nat.zero_le _) (by decide) rfl n1 rfl
theorem lText {p c : Nat} {a : Option Nat} (H : Hp w0 D (eR 66 p a c (Rr.mk A4 2 0 0) :: eB a c A4 :: R) w) : Calls Try.prog 22 #[.pointer (some ⟨p, 0, none⟩), .int .i64 4] w fun e w' => e = .returned (.string ⟨#[97]⟩) ∧ Hp w0 D (eR 66 p a c (Rr.mk A4 4 0 0) :: eB a c A4 :: R) w' :=
  Text_ok (r := Rr.mk A4 2 0 0) (k := 1) (v := 1) (qe := 3) (qf := 4) (most := 4) H (by decide) (by decide) n2 rfl rfl (by decide) (by decide) (by decide) rfl
theorem lDone {p c : Nat} {a : Option Nat} (H : Hp w0 D (eR 66 p a c (Rr.mk A4 4 0 0) :: eB a c A4 :: R) w) : Calls Try.prog 23 #[.pointer (some ⟨p, 0, none⟩)] w fun e w' => e = .returned (.int .i64 0) ∧ Hp w0 D (eR 66 p a c (Rr.mk A4 4 0 0) :: eB a c A4 :: R) w' :=
  Done_ok (r := Rr.mk A4 4 0 0) H rfl (by decide) rfl
theorem lNew {b : Nat} (H : Hp w0 D (eB (some b) 4 A4 :: R) w) : Calls Try.prog 19 #[.slice (some ⟨b, 0, none⟩) 4 4] w fun e w' => ∃ p a' c', e = .returned (.pointer (some ⟨p, 0, none⟩)) ∧ Hp w0 D (eR 66 p a' c' (Rr.mk A4 0 0 0) :: eB a' c' A4 :: eB (some b) 4 A4 :: R) w' :=
  New_spec (l := A4) H (Rd.ent H (i := 0) rfl) (by decide)
theorem lSeal {b : Nat} (H : Hp w0 D R w) (hO : Old w0 D b 0 (bs [97])) : Calls Try.prog 9 #[.slice (some ⟨b, 0, none⟩) 1 1] w fun e w' => ∃ a' c', e = .returned (.tuple #[.slice (adr a' 0) 6 c', .int .i64 0]) ∧ Hp w0 D (eB a' c' S6 :: R) w' := by
  have := Seal_ok (l := [97]) (c := 1) H (RdA.rd (.inr ⟨b, 0, rfl, hO⟩) R) (by decide)
  rw [seal97] at this
  exact this
theorem lOpen1 {a : Option Nat} {c : Nat} (H : Hp w0 D (eB a c S6 :: R) w) : Calls Try.prog 12 #[.slice (adr a 0) 6 c] w fun e w' => ∃ a' c', e = .returned (.tuple #[.slice (adr a' 0) 1 c', .int .i64 6, .int .i64 0]) ∧ Hp w0 D (eB a' c' [97] :: eB a c S6 :: R) w' :=
  Open_ok (l := S6) H (Rd.ent H (i := 0) rfl) (by decide) (H.le (i := 0) rfl) (k := 1) (v := 1) (by decide) (by decide) (by decide) n3 c3
theorem lOpen2 {b : Nat} (H : Hp w0 D (eB (some b) 6 A6 :: R) w) : Calls Try.prog 12 #[.slice (some ⟨b, 0, none⟩) 6 6] w fun e w' => e = .returned (.tuple #[.slice none 0 0, .int .i64 0, .int .i64 12]) ∧ Hp w0 D (eB (some b) 6 A6 :: R) w' :=
  Open_sum (l := A6) H (Rd.ent H (i := 0) rfl) (by decide) (by decide) (k := 1) (v := 1) (by decide) (by decide) (by decide) n4 c4
theorem lPut (H : Hp w0 D R w) : Calls Try.prog 13 #[.slice none 0 0, .int .u64 300] w fun e w' => ∃ a' c', e = .returned (.slice (adr a' 0) 2 c') ∧ Hp w0 D (eB a' c' [172, 2] :: R) w' := by
  have := PutNum_nil H (n := 300) (by decide)
  rw [enc300] at this
  exact this
end
set_option maxHeartbeats 4000000 in
theorem live_spec {w0 w : World} {D : Nat → Prop} {R : List Ent}  (H : Hp w0 D (R) w)  :
    Calls Try.prog 11 #[] w fun e w' => e = .returned (.bool true) ∧ Hp w0 D R w' := by
  try simp only [eR, eB] at H
  try simp only [eR, eB]
  go_enter Try.func11, Try.ntmps11
  go_wp2_with (first
    | ((with_reducible refine gBs ?_); refine wl_a4 H rfl ?_; clear H; intro b4 w1 H)
    | ((with_reducible refine gBs ?_); refine wl_a6 H rfl ?_; clear H; intro b6 w1 H)
    | ((with_reducible refine gBs ?_); refine wl_run rfl (raw_a1 _ _) ?_)
    | ((with_reducible refine gCv ?_); refine wl_run rfl (run_cvc _ rfl) ?_; (obtain ⟨w01, D1, back, H9, hO⟩ := H.marked #[.int .u8 97] 5 (1, 2)); clear H; have H := H9; clear H9; (have HO := Lib.hid hO); clear hO)
    | ((with_reducible refine gCv ?_); first | (refine wl_run rfl (run_b2sR (l := [97]) (L' := []) (Rd.ent H (i := 1) rfl) H rfl rfl Try.underlying22 Try.underlying5 Try.underlying9) ?_) | (refine wl_run rfl (run_b2sR (l := [172, 2]) (L' := []) (Rd.ent H (i := 0) rfl) H rfl rfl Try.underlying22 Try.underlying5 Try.underlying9) ?_))
    | (go_at_call 19; (with_reducible refine (lNew H).mono ?_); rintro e w1 ⟨p, ar, cr, rfl, H1⟩; clear H; have H := H1; clear H1)
    | (go_at_call 20; (with_reducible refine (lNum H).mono ?_); rintro e w1 ⟨rfl, H1⟩; clear H; have H := H1; clear H1)
    | (go_at_call 22; (with_reducible refine (lText H).mono ?_); rintro e w1 ⟨rfl, H1⟩; clear H; have H := H1; clear H1)
    | (go_at_call 23; (with_reducible refine (lDone H).mono ?_); rintro e w1 ⟨rfl, H1⟩; clear H; have H := H1; clear H1)
    | (go_at_call 9; (with_reducible refine (lSeal H HO.out).mono ?_); rintro e w1 ⟨asl, csl, rfl, H1⟩; clear H; have H := H1; clear H1)
    | (go_at_call 12; (with_reducible refine (lOpen1 H).mono ?_); rintro e w1 ⟨al, cl, rfl, H1⟩; clear H; have H := H1; clear H1)
    | (go_at_call 12; (with_reducible refine (lOpen2 H).mono ?_); rintro e w1 ⟨rfl, H1⟩; clear H; have H := H1; clear H1)
    | (go_at_call 13; (with_reducible refine (lPut H).mono ?_); rintro e w1 ⟨an, cn, rfl, H1⟩; clear H; have H := H1; clear H1)
    | (go_at_call 10; (with_reducible refine (num_spec H _ (by decide) (by decide)).mono ?_); rintro e w1 ⟨rfl, H1⟩; clear H; have H := H1; clear H1)
    | ((with_reducible refine gLd ?_); refine eLd H rfl rfl ?_; first | (refine kLdB 0 rfl rfl (by first | exact T3 | exact T5 | exact T22 | exact T23 | exact T24 | exact T33 | exact T38 | exact T9 | exact T2 | exact T4 | exact T54 | exact T69 | exact T66 | exact T72) rfl ?_; intro rb hrb; cases rb <;> (first | (exfalso; simp at hrb; done) | ((try simp only [decide_eq_true_eq, decide_eq_false_iff_not, beq_iff_eq, beq_eq_false_iff_ne, ne_eq, bne_iff_ne, bne_eq_false_iff_eq, Bool.not_eq_true', Bool.not_eq_false', gt_iff_lt, ge_iff_le, Int.not_lt, Int.not_le, Decidable.not_not] at hrb); (try subst hrb); (try (exfalso; omega))))) | (refine kLdB 1 rfl rfl (by first | exact T3 | exact T5 | exact T22 | exact T23 | exact T24 | exact T33 | exact T38 | exact T9 | exact T2 | exact T4 | exact T54 | exact T69 | exact T66 | exact T72) rfl ?_; intro rb hrb; cases rb <;> (first | (exfalso; simp at hrb; done) | ((try simp only [decide_eq_true_eq, decide_eq_false_iff_not, beq_iff_eq, beq_eq_false_iff_ne, ne_eq, bne_iff_ne, bne_eq_false_iff_eq, Bool.not_eq_true', Bool.not_eq_false', gt_iff_lt, ge_iff_le, Int.not_lt, Int.not_le, Decidable.not_not] at hrb); (try subst hrb); (try (exfalso; omega))))) | (refine kLd 0 rfl rfl (by first | exact T3 | exact T5 | exact T22 | exact T23 | exact T24 | exact T33 | exact T38 | exact T9 | exact T2 | exact T4 | exact T54 | exact T69 | exact T66 | exact T72) rfl ?_) | (refine kLd 1 rfl rfl (by first | exact T3 | exact T5 | exact T22 | exact T23 | exact T24 | exact T33 | exact T38 | exact T9 | exact T2 | exact T4 | exact T54 | exact T69 | exact T66 | exact T72) rfl ?_) | (refine kLdA 0 rfl rfl (by first | exact T3 | exact T5 | exact T22 | exact T23 | exact T24 | exact T33 | exact T38 | exact T9 | exact T2 | exact T4 | exact T54 | exact T69 | exact T66 | exact T72) (Nat.le_of_ble_eq_true rfl) (by simp only [eR, eB, List.drop_succ_cons, List.drop_zero, List.take_succ_cons, List.take_zero, List.set_cons_zero, List.set_cons_succ]; rfl) ?_) | (refine kLdA 1 rfl rfl (by first | exact T3 | exact T5 | exact T22 | exact T23 | exact T24 | exact T33 | exact T38 | exact T9 | exact T2 | exact T4 | exact T54 | exact T69 | exact T66 | exact T72) (Nat.le_of_ble_eq_true rfl) (by simp only [eR, eB, List.drop_succ_cons, List.drop_zero, List.take_succ_cons, List.take_zero, List.set_cons_zero, List.set_cons_succ]; rfl) ?_))
    | ((with_reducible refine gSt ?_); (first | (refine eSt H rfl rfl ⟨.int _ _, rfl, ?_⟩) | (refine eSt H rfl rfl ⟨.bool _, rfl, ?_⟩) | (refine eSt H rfl rfl ⟨.slice _ _ _, rfl, ?_⟩) | (refine eSt H rfl rfl ⟨.pointer _, rfl, ?_⟩) | (refine eSt H rfl rfl ⟨.string _, rfl, ?_⟩) | (refine eSt H rfl rfl ⟨.agg (List.toArray _), rfl, ?_⟩)); (first | (refine kSt 0 rfl rfl (by first | exact T3 | exact T5 | exact T22 | exact T23 | exact T24 | exact T33 | exact T38 | exact T9 | exact T2 | exact T4 | exact T54 | exact T69 | exact T66 | exact T72) rfl (Nat.le_of_ble_eq_true rfl) ?_) | (refine kSt 1 rfl rfl (by first | exact T3 | exact T5 | exact T22 | exact T23 | exact T24 | exact T33 | exact T38 | exact T9 | exact T2 | exact T4 | exact T54 | exact T69 | exact T66 | exact T72) rfl (Nat.le_of_ble_eq_true rfl) ?_) | (refine kStA 0 rfl rfl (by first | exact T3 | exact T5 | exact T22 | exact T23 | exact T24 | exact T33 | exact T38 | exact T9 | exact T2 | exact T4 | exact T54 | exact T69 | exact T66 | exact T72) rfl rfl (Nat.le_of_ble_eq_true rfl) ?_) | (refine kStA 1 rfl rfl (by first | exact T3 | exact T5 | exact T22 | exact T23 | exact T24 | exact T33 | exact T38 | exact T9 | exact T2 | exact T4 | exact T54 | exact T69 | exact T66 | exact T72) rfl rfl (Nat.le_of_ble_eq_true rfl) ?_)); clear H; intro w1 H; simp only [List.set_cons_zero, List.set_cons_succ] at H; (try simp only [lay, List.take_zero, List.nil_append, List.length_cons, List.length_nil, Nat.zero_add, Nat.reduceAdd, List.drop_succ_cons, List.drop_zero, List.drop_nil, List.append_nil, List.take_succ_cons, List.cons_append] at H))
    | ((with_reducible refine gBx ?_); refine bxA H rfl rfl rfl ?_; clear H; intro b1 w1 H)
    | ((with_reducible refine gBs ?_); (first | (refine bs1 H rfl (by first | exact S22 | exact S54 | exact S61) rfl (Nat.le_of_ble_eq_true rfl) (Nat.le_of_ble_eq_true rfl) rfl ?_) | (refine wl_buildSlice0 rfl (by first | exact S22 | exact S54 | exact S61) H ?_)); clear H; intro b1 w1 H)
    | ((with_reducible refine gEq ?_); (first | (refine wl_cmp rfl rfl rfl rfl ?_) | (refine wl_scmp rfl rfl rfl rfl ?_)); intro rb hrb; cases rb <;> (first | (exfalso; simp at hrb; done) | ((try simp only [decide_eq_true_eq, decide_eq_false_iff_not, beq_iff_eq, beq_eq_false_iff_ne, ne_eq, bne_iff_ne, bne_eq_false_iff_eq, Bool.not_eq_true', Bool.not_eq_false', gt_iff_lt, ge_iff_le, Int.not_lt, Int.not_le, Decidable.not_not] at hrb); (try subst hrb); (try (exfalso; omega)))))
    | ((with_reducible refine gRg ?_); refine wp_region_text rfl (by decide +kernel) ?_; replace H := H.drew)
    | ((with_reducible refine EndQ.intro ?_ ?_); (· kernel_rfl)))
  all_goals (go_ret; exact ⟨rfl, back _ _ (H.dropL (A := [_, _, _, _, _, _, _]))⟩)
end Go.Proofs.Ytajaloaknfbobaa
