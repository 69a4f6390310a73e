/- The nine makers; live. -/
import Derived.Test.YtebecelhcpljaaaW10
import Derived.WalkKit
import Derived.Lib.Hide
import Derived.Deep.LoopGhost
import Derived.WalkSpells
set_option linter.unusedVariables false
set_option linter.unusedSimpArgs false
namespace Go.Proofs.Ytebecelhcpljaaa
open Go.RowKit Go.Gx Go.Gx.Trm
set_option maxRecDepth 100000
section
variable {W w : World} {E : Nat → Prop} {M : List (Nat × List (Value × Value))} {L : List Ent} {p : Nat} {l : List En}
def nodeP (l : List En) (t : Int) : Nd := match entP l t with | some e => e.n | none => Nd.zero
theorem Node_at {w0 w : World} {D : Nat → Prop} {R : List Ent} {p mb : Nat} {a : Option Nat} {c : Nat} {l : List En} (H : Hp w0 D R w) {i : Nat} (hp : R[i]? = some (eP p mb a c l)) {j : Nat} (hq : R[j]? = some (eE a c l)) (hl : l.length ≤ 65536) (t : Int) :
    Calls Try.prog 30 #[.pointer (some ⟨p, 0, none⟩), .int .i64 t] w fun e w' => e = .returned (.tuple #[.agg (nodeP l t).cells.toArray, .bool (inP l t)]) ∧ Hp w0 D R w' := by
  cases hi : inP l t with
  | false =>
    have h1 : nodeP l t = Nd.zero := by simp [nodeP, entP_no hi]
    rw [h1]; exact Node_no H hp hi
  | true =>
    obtain ⟨k, x, h1, h2, h3, h4⟩ := entP_in hi
    have h5 : nodeP l t = x.n := by simp [nodeP, h4]
    obtain ⟨b, hb⟩ := H.some_of hq (by dsimp only; rw [rowsE_length]; omega)
    have hb : a = some b := hb
    subst hb
    rw [h5, h1]; exact Node_some H hp hq hl h2 h3
theorem Len_pl (h : Pl W E M L p l w) : Calls Try.prog 19 #[.pointer (some ⟨p, 0, none⟩)] w fun e w' => e = .returned (.int .i64 (l.length : Int)) ∧ Pl W E M L p l w' := by
  obtain ⟨mb, a, c, h⟩ := h
  obtain ⟨w0, D, H, back⟩ := h.open
  exact (Len_at (i := 0) H rfl).mono fun e w' hh => ⟨hh.1, mb, a, c, back _ _ hh.2⟩
theorem Size_pl (h : Pl W E M L p l w) (hl : l.length ≤ 65536) (t : Int) : Calls Try.prog 21 #[.pointer (some ⟨p, 0, none⟩), .int .i64 t] w fun e w' => e = .returned (.int .i64 (sizeP l t)) ∧ Pl W E M L p l w' := by
  obtain ⟨mb, a, c, h⟩ := h
  obtain ⟨w0, D, H, back⟩ := h.open
  exact (Size_at (i := 0) (j := 1) H rfl rfl hl t).mono fun e w' hh => ⟨hh.1, mb, a, c, back _ _ hh.2⟩
theorem Depth_pl (h : Pl W E M L p l w) (hl : l.length ≤ 65536) (t : Int) : Calls Try.prog 22 #[.pointer (some ⟨p, 0, none⟩), .int .i64 t] w fun e w' => e = .returned (.int .i64 (deepP l t)) ∧ Pl W E M L p l w' := by
  obtain ⟨mb, a, c, h⟩ := h
  obtain ⟨w0, D, H, back⟩ := h.open
  exact (Depth_at (i := 0) (j := 1) H rfl rfl hl t).mono fun e w' hh => ⟨hh.1, mb, a, c, back _ _ hh.2⟩
theorem Node_pl (h : Pl W E M L p l w) (hl : l.length ≤ 65536) (t : Int) : Calls Try.prog 30 #[.pointer (some ⟨p, 0, none⟩), .int .i64 t] w fun e w' => e = .returned (.tuple #[.agg (nodeP l t).cells.toArray, .bool (inP l t)]) ∧ Pl W E M L p l w' := by
  obtain ⟨mb, a, c, h⟩ := h
  obtain ⟨w0, D, H, back⟩ := h.open
  exact (Node_at (i := 0) (j := 1) H rfl rfl hl t).mono fun e w' hh => ⟨hh.1, mb, a, c, back _ _ hh.2⟩
theorem num_pl (h : Pl W E M L p l w) (k : Int) : Calls Try.prog 18 #[.int .i64 k] w fun e w' => e = .returned (.int .i64 k) ∧ Pl W E M L p l w' := by
  obtain ⟨mb, a, c, h⟩ := h
  obtain ⟨w0, D, H, back⟩ := h.open
  exact (num_spec H k).mono fun e w' hh => ⟨hh.1, mb, a, c, back _ _ hh.2⟩
end
set_option maxHeartbeats 4000000 in
theorem Name_mk {W w : World} {E : Nat → Prop} {M : List (Nat × List (Value × Value))} {L : List Ent} {p : Nat} {l l2 : List En} {t er : Int} {k : Int} (h0 : Pl W E M L p l w) (hl : l.length ≤ 65536) (hok : okP l) (hm : makeE l ⟨1, k, 0, 0, ⟨#[]⟩, 0, 0⟩ = (l2, t, er)) : Calls Try.prog 40 #[.pointer (some ⟨p, 0, none⟩), .int .i64 k] w fun e w' => MkP W E M L p l2 t er e w' := by
  have HL := Lib.hid hl
  have HOK := Lib.hid hok
  have HM := Lib.hid hm
  clear hl hok hm
  go_enter Try.func40, Try.ntmps40
  go_wp2_with (go_at_call 39; (refine (Make_spec (n := ⟨1, k, 0, 0, ⟨#[]⟩, 0, 0⟩) h0 HL.out HOK.out HM.out).mono ?_; rintro e w1 ⟨rfl, h1⟩))
  all_goals go_ret2
  all_goals exact ⟨rfl, h1⟩
set_option maxHeartbeats 4000000 in
theorem Num_mk {W w : World} {E : Nat → Prop} {M : List (Nat × List (Value × Value))} {L : List Ent} {p : Nat} {l l2 : List En} {t er : Int} {k : Int} (h0 : Pl W E M L p l w) (hl : l.length ≤ 65536) (hok : okP l) (hm : makeE l ⟨2, 0, 0, k, ⟨#[]⟩, 0, 0⟩ = (l2, t, er)) : Calls Try.prog 31 #[.pointer (some ⟨p, 0, none⟩), .int .u64 k] w fun e w' => MkP W E M L p l2 t er e w' := by
  have HL := Lib.hid hl
  have HOK := Lib.hid hok
  have HM := Lib.hid hm
  clear hl hok hm
  go_enter Try.func31, Try.ntmps31
  go_wp2_with (go_at_call 39; (refine (Make_spec (n := ⟨2, 0, 0, k, ⟨#[]⟩, 0, 0⟩) h0 HL.out HOK.out HM.out).mono ?_; rintro e w1 ⟨rfl, h1⟩))
  all_goals go_ret2
  all_goals exact ⟨rfl, h1⟩
set_option maxHeartbeats 4000000 in
theorem Data_mk {W w : World} {E : Nat → Prop} {M : List (Nat × List (Value × Value))} {L : List Ent} {p : Nat} {l l2 : List En} {t er : Int} {s : ByteArray} (h0 : Pl W E M L p l w) (hl : l.length ≤ 65536) (hok : okP l) (hm : makeE l ⟨3, 0, 0, 0, s, 0, 0⟩ = (l2, t, er)) : Calls Try.prog 41 #[.pointer (some ⟨p, 0, none⟩), .string s] w fun e w' => MkP W E M L p l2 t er e w' := by
  have HL := Lib.hid hl
  have HOK := Lib.hid hok
  have HM := Lib.hid hm
  clear hl hok hm
  go_enter Try.func41, Try.ntmps41
  go_wp2_with (go_at_call 39; (refine (Make_spec (n := ⟨3, 0, 0, 0, s, 0, 0⟩) h0 HL.out HOK.out HM.out).mono ?_; rintro e w1 ⟨rfl, h1⟩))
  all_goals go_ret2
  all_goals exact ⟨rfl, h1⟩
set_option maxHeartbeats 4000000 in
theorem Pair_mk {W w : World} {E : Nat → Prop} {M : List (Nat × List (Value × Value))} {L : List Ent} {p : Nat} {l l2 : List En} {t er : Int} {k : Int}{m : Int} (h0 : Pl W E M L p l w) (hl : l.length ≤ 65536) (hok : okP l) (hm : makeE l ⟨4, 0, 0, 0, ⟨#[]⟩, k, m⟩ = (l2, t, er)) : Calls Try.prog 42 #[.pointer (some ⟨p, 0, none⟩), .int .i64 k, .int .i64 m] w fun e w' => MkP W E M L p l2 t er e w' := by
  have HL := Lib.hid hl
  have HOK := Lib.hid hok
  have HM := Lib.hid hm
  clear hl hok hm
  go_enter Try.func42, Try.ntmps42
  go_wp2_with (go_at_call 39; (refine (Make_spec (n := ⟨4, 0, 0, 0, ⟨#[]⟩, k, m⟩) h0 HL.out HOK.out HM.out).mono ?_; rintro e w1 ⟨rfl, h1⟩))
  all_goals go_ret2
  all_goals exact ⟨rfl, h1⟩
set_option maxHeartbeats 4000000 in
theorem Hash_mk {W w : World} {E : Nat → Prop} {M : List (Nat × List (Value × Value))} {L : List Ent} {p : Nat} {l l2 : List En} {t er : Int} {k : Int} (h0 : Pl W E M L p l w) (hl : l.length ≤ 65536) (hok : okP l) (hm : makeE l ⟨5, 0, 0, 0, ⟨#[]⟩, k, 0⟩ = (l2, t, er)) : Calls Try.prog 43 #[.pointer (some ⟨p, 0, none⟩), .int .i64 k] w fun e w' => MkP W E M L p l2 t er e w' := by
  have HL := Lib.hid hl
  have HOK := Lib.hid hok
  have HM := Lib.hid hm
  clear hl hok hm
  go_enter Try.func43, Try.ntmps43
  go_wp2_with (go_at_call 39; (refine (Make_spec (n := ⟨5, 0, 0, 0, ⟨#[]⟩, k, 0⟩) h0 HL.out HOK.out HM.out).mono ?_; rintro e w1 ⟨rfl, h1⟩))
  all_goals go_ret2
  all_goals exact ⟨rfl, h1⟩
set_option maxHeartbeats 4000000 in
theorem Key_mk {W w : World} {E : Nat → Prop} {M : List (Nat × List (Value × Value))} {L : List Ent} {p : Nat} {l l2 : List En} {t er : Int} {k : Int} (h0 : Pl W E M L p l w) (hl : l.length ≤ 65536) (hok : okP l) (hm : makeE l ⟨6, k, 0, 0, ⟨#[]⟩, 0, 0⟩ = (l2, t, er)) : Calls Try.prog 44 #[.pointer (some ⟨p, 0, none⟩), .int .i64 k] w fun e w' => MkP W E M L p l2 t er e w' := by
  have HL := Lib.hid hl
  have HOK := Lib.hid hok
  have HM := Lib.hid hm
  clear hl hok hm
  go_enter Try.func44, Try.ntmps44
  go_wp2_with (go_at_call 39; (refine (Make_spec (n := ⟨6, k, 0, 0, ⟨#[]⟩, 0, 0⟩) h0 HL.out HOK.out HM.out).mono ?_; rintro e w1 ⟨rfl, h1⟩))
  all_goals go_ret2
  all_goals exact ⟨rfl, h1⟩
set_option maxHeartbeats 4000000 in
theorem Sign_mk {W w : World} {E : Nat → Prop} {M : List (Nat × List (Value × Value))} {L : List Ent} {p : Nat} {l l2 : List En} {t er : Int} {k : Int}{m : Int} (h0 : Pl W E M L p l w) (hl : l.length ≤ 65536) (hok : okP l) (hm : makeE l ⟨7, k, 0, 0, ⟨#[]⟩, m, 0⟩ = (l2, t, er)) : Calls Try.prog 45 #[.pointer (some ⟨p, 0, none⟩), .int .i64 k, .int .i64 m] w fun e w' => MkP W E M L p l2 t er e w' := by
  have HL := Lib.hid hl
  have HOK := Lib.hid hok
  have HM := Lib.hid hm
  clear hl hok hm
  go_enter Try.func45, Try.ntmps45
  go_wp2_with (go_at_call 39; (refine (Make_spec (n := ⟨7, k, 0, 0, ⟨#[]⟩, m, 0⟩) h0 HL.out HOK.out HM.out).mono ?_; rintro e w1 ⟨rfl, h1⟩))
  all_goals go_ret2
  all_goals exact ⟨rfl, h1⟩
set_option maxHeartbeats 4000000 in
theorem Prom_mk {W w : World} {E : Nat → Prop} {M : List (Nat × List (Value × Value))} {L : List Ent} {p : Nat} {l l2 : List En} {t er : Int} {k : Int}{m : Int}{q : Int} (h0 : Pl W E M L p l w) (hl : l.length ≤ 65536) (hok : okP l) (hm : makeE l ⟨8, k, m, 0, ⟨#[]⟩, q, 0⟩ = (l2, t, er)) : Calls Try.prog 46 #[.pointer (some ⟨p, 0, none⟩), .int .i64 k, .int .i64 m, .int .i64 q] w fun e w' => MkP W E M L p l2 t er e w' := by
  have HL := Lib.hid hl
  have HOK := Lib.hid hok
  have HM := Lib.hid hm
  clear hl hok hm
  go_enter Try.func46, Try.ntmps46
  go_wp2_with (go_at_call 39; (refine (Make_spec (n := ⟨8, k, m, 0, ⟨#[]⟩, q, 0⟩) h0 HL.out HOK.out HM.out).mono ?_; rintro e w1 ⟨rfl, h1⟩))
  all_goals go_ret2
  all_goals exact ⟨rfl, h1⟩
set_option maxHeartbeats 4000000 in
theorem Fake_mk {W w : World} {E : Nat → Prop} {M : List (Nat × List (Value × Value))} {L : List Ent} {p : Nat} {l l2 : List En} {t er : Int} {k : Int}{m : Int}{q : Int} (h0 : Pl W E M L p l w) (hl : l.length ≤ 65536) (hok : okP l) (hm : makeE l ⟨9, k, m, 0, ⟨#[]⟩, q, 0⟩ = (l2, t, er)) : Calls Try.prog 47 #[.pointer (some ⟨p, 0, none⟩), .int .i64 k, .int .i64 m, .int .i64 q] w fun e w' => MkP W E M L p l2 t er e w' := by
  have HL := Lib.hid hl
  have HOK := Lib.hid hok
  have HM := Lib.hid hm
  clear hl hok hm
  go_enter Try.func47, Try.ntmps47
  go_wp2_with (go_at_call 39; (refine (Make_spec (n := ⟨9, k, m, 0, ⟨#[]⟩, q, 0⟩) h0 HL.out HOK.out HM.out).mono ?_; rintro e w1 ⟨rfl, h1⟩))
  all_goals go_ret2
  all_goals exact ⟨rfl, h1⟩
def kn1 : Nd := ⟨1, 0, 0, 0, ⟨#[]⟩, 0, 0⟩
def kn2 : Nd := ⟨3, 0, 0, 0, ⟨#[120]⟩, 0, 0⟩
def kn3 : Nd := ⟨4, 0, 0, 0, ⟨#[]⟩, 1, 2⟩
def LL1 : List En := [⟨kn1, 1, 1⟩]
def LL2 : List En := [⟨kn1, 1, 1⟩, ⟨kn2, 1, 1⟩]
def LL3 : List En := [⟨kn1, 1, 1⟩, ⟨kn2, 1, 1⟩, ⟨kn3, 3, 2⟩]
theorem f1 : makeE [] ⟨1, 0, 0, 0, ⟨#[]⟩, 0, 0⟩ = (LL1, 1, 0) := by kernel_rfl
theorem f2 : makeE LL1 ⟨3, 0, 0, 0, ⟨#[120]⟩, 0, 0⟩ = (LL2, 2, 0) := by kernel_rfl
theorem f3 : makeE LL2 ⟨4, 0, 0, 0, ⟨#[]⟩, 1, 2⟩ = (LL3, 3, 0) := by kernel_rfl
theorem f4 : makeE LL3 ⟨4, 0, 0, 0, ⟨#[]⟩, 1, 2⟩ = (LL3, 3, 0) := by kernel_rfl
theorem f5 : makeE LL3 ⟨4, 0, 0, 0, ⟨#[]⟩, 3, 9⟩ = (LL3, 0, 51) := by kernel_rfl
theorem fs : sizeP LL3 3 = 3 := by kernel_rfl
theorem fl : (LL3.length : Int) = 3 := by kernel_rfl
theorem z0 : ([] : List En).length ≤ 65536 := by decide
theorem z1 : LL1.length ≤ 65536 := by decide
theorem z2 : LL2.length ≤ 65536 := by decide
theorem z3 : LL3.length ≤ 65536 := by decide
theorem ok1 : okP LL1 := by have := okP_make (n := kn1) okP_nil; rw [show makeE [] kn1 = (LL1, 1, 0) from f1] at this; exact this
theorem ok2 : okP LL2 := by have := okP_make (n := kn2) ok1; rw [show makeE LL1 kn2 = (LL2, 2, 0) from f2] at this; exact this
theorem ok3 : okP LL3 := by have := okP_make (n := kn3) ok2; rw [show makeE LL2 kn3 = (LL3, 3, 0) from f3] at this; exact this
theorem Pl.gone {W w : World} {E : Nat → Prop} {M : List (Nat × List (Value × Value))} {L : List Ent} {p : Nat} {l : List En} (h : Pl W E M L p l w) : Hg W E M L w := by
  obtain ⟨mb, a, c, h⟩ := h
  obtain ⟨w0, D, H, back⟩ := h.open
  exact (back _ _ H.drop.drop).drop
set_option maxHeartbeats 8000000 in
theorem live_spec {W w : World} {E : Nat → Prop} {M : List (Nat × List (Value × Value))} {L : List Ent}  (h0 : Hg W E M L w)  : Calls Try.prog 11 #[] w fun e w' => e = .returned (.bool true) ∧ Hg W E M L w' := by
  go_enter Try.func11, Try.ntmps11
  go_wp2_with (first
    | (go_at_call 12; (refine (New_spec h0).mono ?_; rintro e w1 ⟨p, rfl, h1⟩; have h := h1; clear h1))
    | (go_at_call 40; first | ((with_reducible refine (Name_mk h z0 okP_nil f1).mono ?_); rintro e w1 ⟨rfl, h1⟩; clear h; have h := h1; clear h1))
    | (go_at_call 41; first | ((with_reducible refine (Data_mk h z1 ok1 f2).mono ?_); rintro e w1 ⟨rfl, h1⟩; clear h; have h := h1; clear h1))
    | (go_at_call 42; first | ((with_reducible refine (Pair_mk h z2 ok2 f3).mono ?_); rintro e w1 ⟨rfl, h1⟩; clear h; have h := h1; clear h1) | ((with_reducible refine (Pair_mk h z3 ok3 f4).mono ?_); rintro e w1 ⟨rfl, h1⟩; clear h; have h := h1; clear h1) | ((with_reducible refine (Pair_mk h z3 ok3 f5).mono ?_); rintro e w1 ⟨rfl, h1⟩; clear h; have h := h1; clear h1))
    | (go_at_call 18; ((with_reducible refine (num_pl h _).mono ?_); rintro e w1 ⟨rfl, h1⟩; clear h; have h := h1; clear h1))
    | (go_at_call 21; (refine (Size_pl h z3 _).mono ?_; rintro e w1 ⟨rfl, h1⟩; clear h; have h := h1; clear h1; rw [fs]))
    | (go_at_call 19; (refine (Len_pl h).mono ?_; rintro e w1 ⟨rfl, h1⟩; clear h; have h := h1; clear h1; rw [fl]))
    | ((with_reducible refine gLd ?_); refine eLd H rfl rfl ?_; first | ((repeat ((with_reducible refine gEx ?_); first | (refine kLd 0 rfl rfl (by exact TT _ rfl) rfl ?_) | (refine kLdA 0 rfl rfl (by exact TT _ rfl) (Nat.le_of_ble_eq_true rfl) (by simp only [Nd.cells, Nd.zero, eP, eE, LS2]; rfl) ?_) | (refine nxL ?_))); fail_if_success (with_reducible refine gEx ?_)))
    | ((with_reducible refine gSt ?_); (first | (refine eSt H rfl rfl ⟨.int _ _, rfl, ?_⟩) | (refine eSt H rfl rfl ⟨.bool _, rfl, ?_⟩) | (refine eSt H rfl rfl ⟨.slice _ _ _, rfl, ?_⟩) | (refine eSt H rfl rfl ⟨.pointer _, rfl, ?_⟩) | (refine eSt H rfl rfl ⟨.string _, rfl, ?_⟩) | (refine eSt H rfl rfl ⟨.agg (List.toArray _), rfl, ?_⟩)); (first | ((repeat ((with_reducible refine gES ?_); first | (refine kSt 0 rfl rfl (by exact TT _ rfl) rfl (Nat.le_of_ble_eq_true rfl) ?_) | (refine kStA 0 rfl rfl (by exact TT _ rfl) rfl rfl (Nat.le_of_ble_eq_true rfl) ?_) | (refine nxS ?_))); fail_if_success (with_reducible refine gES ?_))); clear H; intro w1 H; simp only [List.set_cons_zero, List.set_cons_succ] at H; (try simp only [lay, LS1, Nat.reduceAdd] at H))
    | ((with_reducible refine gBx ?_); refine bxA H rfl rfl rfl ?_; clear H; intro b1 w1 H)
    | ((with_reducible refine gBs ?_); (first | (refine bs1 H rfl (by exact SS _ rfl) rfl (Nat.le_of_ble_eq_true rfl) (Nat.le_of_ble_eq_true rfl) rfl ?_) | (refine wl_buildSlice0 rfl (by exact SS _ rfl) H ?_)); clear H; intro b1 w1 H)
    | ((with_reducible refine gEq ?_); (first | (refine wl_cmp rfl rfl rfl rfl ?_) | (refine wl_scmp rfl rfl rfl rfl ?_)); intro rb hrb; cases rb <;> (first | (exfalso; simp at hrb; done) | ((try simp only [CS1, gt_iff_lt, ge_iff_le, ne_eq, Decidable.not_not] at hrb); (try subst hrb); (try (exfalso; omega)))))
    | ((with_reducible refine gAl ?_); (first | (refine al H Z33 rfl rfl ?_) | (refine al H Z110 rfl rfl ?_) | (refine al H Z122 rfl rfl ?_)); clear H; intro b1 w1 H)
    | ((with_reducible refine gRg ?_); refine wp_region_text rfl (by decide +kernel) ?_; replace H := H.drew)
    | ((with_reducible refine EndQ.intro ?_ ?_); (· kernel_rfl)))
  go_ret
  exact ⟨rfl, h.gone⟩
end Go.Proofs.Ytebecelhcpljaaa
