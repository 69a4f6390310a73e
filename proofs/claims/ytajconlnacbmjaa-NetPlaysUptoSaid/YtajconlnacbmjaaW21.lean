import Derived.Test.YtajconlnacbmjaaW20
import Derived.Test.YtajconlnacbmjaaW18
import Derived.Test.YtajconlnacbmjaaW15
import Derived.WalkKit
import Derived.Lib.Hide
import Derived.WalkSpells
set_option linter.unusedVariables false
set_option linter.unusedSimpArgs false
namespace Go.Proofs.Ytajconlnacbmjaa
open Go.RowKit Go.Gx Go.Gx.Net
set_option maxRecDepth 100000
set_option maxHeartbeats 4000000 in
theorem Move_no1 {w0 w : World} {D : Nat → Prop} {R : List Ent} {p : Nat} {af ah : Option Nat} {cf ch : Nat} {s : St} (H : Hp w0 D (eN 63 p af ah cf ch (s) :: eR af cf (s).fl :: eR ah ch (s).hd :: R) w) (i j : Int) (hpl : placeB s i = false) :
    Calls Try.prog 21 #[.pointer (some ⟨p, 0, none⟩), .int .i64 i, .int .i64 j] w fun e w' => e = .returned (.int .i64 7) ∧ Hp w0 D (eN 63 p af ah cf ch (s) :: eR af cf (s).fl :: eR ah ch (s).hd :: R) w' := by
  have HPL := Lib.hid hpl
  clear hpl
  try simp only [Pk.cells, netC, Pk.zero]
  go_enter Try.func21, Try.ntmps21
  go_wp2_with (first
    | (go_at_call 42; refine (place_spec H _).mono ?_; rintro e w1 ⟨rfl, H1⟩; clear H; have H := H1; clear H1; rw [HPL.out]; (try simp only [Pk.cells, netC, Pk.zero]))
    | ((with_reducible refine gLd ?_); refine eLd H rfl rfl ?_; first | (refine kLdB 0 rfl rfl (by first | exact T3 | exact T4 | exact T9 | exact T30 | exact T27 | exact T51 | exact T35 | exact T29 | exact T63 | exact T49) rfl ?_; intro rb hrb; cases rb <;> (first | (exfalso; simp at hrb; done) | ((try simp only [decide_eq_true_eq, decide_eq_false_iff_not, beq_iff_eq, beq_eq_false_iff_ne, ne_eq, bne_iff_ne, bne_eq_false_iff_eq, Bool.not_eq_true', Bool.not_eq_false', gt_iff_lt, ge_iff_le, Int.not_lt, Int.not_le, Decidable.not_not] at hrb); (try subst hrb); (try (exfalso; omega))))) | (refine kLd 0 rfl rfl (by first | exact T3 | exact T4 | exact T9 | exact T30 | exact T27 | exact T51 | exact T35 | exact T29 | exact T63 | exact T49) rfl ?_) | (refine kLdA 0 rfl rfl (by first | exact T3 | exact T4 | exact T9 | exact T30 | exact T27 | exact T51 | exact T35 | exact T29 | exact T63 | exact T49) (Nat.le_of_ble_eq_true rfl) (by simp only [Pk.cells, netC, Pk.zero, List.drop_succ_cons, List.drop_zero, List.take_succ_cons, List.take_zero, List.set_cons_zero, List.set_cons_succ]; rfl) ?_))
    | ((with_reducible refine gSt ?_); (first | (refine eSt H rfl rfl ⟨.int _ _, rfl, ?_⟩) | (refine eSt H rfl rfl ⟨.bool _, rfl, ?_⟩) | (refine eSt H rfl rfl ⟨.slice _ _ _, rfl, ?_⟩) | (refine eSt H rfl rfl ⟨.pointer _, rfl, ?_⟩) | (refine eSt H rfl rfl ⟨.string _, rfl, ?_⟩) | (refine eSt H rfl rfl ⟨.agg (List.toArray _), rfl, ?_⟩)); (first | (refine kSt 0 rfl rfl (by first | exact T3 | exact T4 | exact T9 | exact T30 | exact T27 | exact T51 | exact T35 | exact T29 | exact T63 | exact T49) rfl (Nat.le_of_ble_eq_true rfl) ?_) | (refine kStA 0 rfl rfl (by first | exact T3 | exact T4 | exact T9 | exact T30 | exact T27 | exact T51 | exact T35 | exact T29 | exact T63 | exact T49) rfl rfl (Nat.le_of_ble_eq_true rfl) ?_)); clear H; intro w1 H; simp only [List.set_cons_zero, List.set_cons_succ] at H; (try simp only [lay, List.take_zero, List.nil_append, List.length_cons, List.length_nil, Nat.zero_add, Nat.reduceAdd, List.drop_succ_cons, List.drop_zero, List.drop_nil, List.append_nil, List.take_succ_cons, List.cons_append] at H))
    | ((with_reducible refine gBx ?_); refine bxA H rfl rfl rfl ?_; clear H; intro b1 w1 H)
    | ((with_reducible refine gBs ?_); (first | (refine bs1 H rfl (by first | exact S27 | exact S51) rfl (Nat.le_of_ble_eq_true rfl) (Nat.le_of_ble_eq_true rfl) rfl ?_) | (refine wl_buildSlice0 rfl (by first | exact S27 | exact S51) H ?_)); clear H; intro b1 w1 H)
    | ((with_reducible refine gEq ?_); (first | (refine wl_cmp rfl rfl rfl rfl ?_) | (refine wl_scmp rfl rfl rfl rfl ?_)); intro rb hrb; cases rb <;> (first | (exfalso; simp at hrb; done) | ((try simp only [decide_eq_true_eq, decide_eq_false_iff_not, beq_iff_eq, beq_eq_false_iff_ne, ne_eq, bne_iff_ne, bne_eq_false_iff_eq, Bool.not_eq_true', Bool.not_eq_false', gt_iff_lt, ge_iff_le, Int.not_lt, Int.not_le, Decidable.not_not] at hrb); (try subst hrb); (try (exfalso; omega)))))
    | ((with_reducible refine gEq ?_); (first | (refine wl_eqAgg G35 (eq35 9998 ⟨_, _, _, _, _⟩ ⟨_, _, _, _, _⟩) rfl rfl rfl ?_) | (refine wl_neAgg G35 (eq35 9998 ⟨_, _, _, _, _⟩ ⟨_, _, _, _, _⟩) rfl rfl rfl ?_)); intro rb hrb; cases rb <;> (try simp only [Bool.not_true, Bool.not_false]))
    | ((with_reducible refine gAl ?_); (first | (refine al H Z35 rfl rfl ?_) | (refine al H Z29 rfl rfl ?_)); clear H; intro b1 w1 H)
    | ((with_reducible refine gRg ?_); refine wp_region_text rfl (by decide +kernel) ?_; replace H := H.drew)
    | ((with_reducible refine EndQ.intro ?_ ?_); (· kernel_rfl)))
  all_goals go_ret
  all_goals exact ⟨rfl, H⟩
set_option maxHeartbeats 4000000 in
theorem Move_no2 {w0 w : World} {D : Nat → Prop} {R : List Ent} {p : Nat} {af ah : Option Nat} {cf ch : Nat} {s : St} (H : Hp w0 D (eN 63 p af ah cf ch (s) :: eR af cf (s).fl :: eR ah ch (s).hd :: R) w) (i j : Int) (hpl : placeB s i = true) (hpl2 : placeB s j = false) :
    Calls Try.prog 21 #[.pointer (some ⟨p, 0, none⟩), .int .i64 i, .int .i64 j] w fun e w' => e = .returned (.int .i64 7) ∧ Hp w0 D (eN 63 p af ah cf ch (s) :: eR af cf (s).fl :: eR ah ch (s).hd :: R) w' := by
  have HPL := Lib.hid hpl
  have HPL2 := Lib.hid hpl2
  clear hpl hpl2
  try simp only [Pk.cells, netC, Pk.zero]
  go_enter Try.func21, Try.ntmps21
  go_wp2_with (first
    | (first | (go_at_call 42; refine (place_spec H _).mono ?_; rintro e w1 ⟨rfl, H1⟩; clear H; have H := H1; clear H1; rw [HPL.out]; (try simp only [Pk.cells, netC, Pk.zero])) | (go_at_call 42; refine (place_spec H _).mono ?_; rintro e w1 ⟨rfl, H1⟩; clear H; have H := H1; clear H1; rw [HPL2.out]; (try simp only [Pk.cells, netC, Pk.zero])))
    | ((with_reducible refine gLd ?_); refine eLd H rfl rfl ?_; first | (refine kLdB 0 rfl rfl (by first | exact T3 | exact T4 | exact T9 | exact T30 | exact T27 | exact T51 | exact T35 | exact T29 | exact T63 | exact T49) rfl ?_; intro rb hrb; cases rb <;> (first | (exfalso; simp at hrb; done) | ((try simp only [decide_eq_true_eq, decide_eq_false_iff_not, beq_iff_eq, beq_eq_false_iff_ne, ne_eq, bne_iff_ne, bne_eq_false_iff_eq, Bool.not_eq_true', Bool.not_eq_false', gt_iff_lt, ge_iff_le, Int.not_lt, Int.not_le, Decidable.not_not] at hrb); (try subst hrb); (try (exfalso; omega))))) | (refine kLd 0 rfl rfl (by first | exact T3 | exact T4 | exact T9 | exact T30 | exact T27 | exact T51 | exact T35 | exact T29 | exact T63 | exact T49) rfl ?_) | (refine kLdA 0 rfl rfl (by first | exact T3 | exact T4 | exact T9 | exact T30 | exact T27 | exact T51 | exact T35 | exact T29 | exact T63 | exact T49) (Nat.le_of_ble_eq_true rfl) (by simp only [Pk.cells, netC, Pk.zero, List.drop_succ_cons, List.drop_zero, List.take_succ_cons, List.take_zero, List.set_cons_zero, List.set_cons_succ]; rfl) ?_))
    | ((with_reducible refine gSt ?_); (first | (refine eSt H rfl rfl ⟨.int _ _, rfl, ?_⟩) | (refine eSt H rfl rfl ⟨.bool _, rfl, ?_⟩) | (refine eSt H rfl rfl ⟨.slice _ _ _, rfl, ?_⟩) | (refine eSt H rfl rfl ⟨.pointer _, rfl, ?_⟩) | (refine eSt H rfl rfl ⟨.string _, rfl, ?_⟩) | (refine eSt H rfl rfl ⟨.agg (List.toArray _), rfl, ?_⟩)); (first | (refine kSt 0 rfl rfl (by first | exact T3 | exact T4 | exact T9 | exact T30 | exact T27 | exact T51 | exact T35 | exact T29 | exact T63 | exact T49) rfl (Nat.le_of_ble_eq_true rfl) ?_) | (refine kStA 0 rfl rfl (by first | exact T3 | exact T4 | exact T9 | exact T30 | exact T27 | exact T51 | exact T35 | exact T29 | exact T63 | exact T49) rfl rfl (Nat.le_of_ble_eq_true rfl) ?_)); clear H; intro w1 H; simp only [List.set_cons_zero, List.set_cons_succ] at H; (try simp only [lay, List.take_zero, List.nil_append, List.length_cons, List.length_nil, Nat.zero_add, Nat.reduceAdd, List.drop_succ_cons, List.drop_zero, List.drop_nil, List.append_nil, List.take_succ_cons, List.cons_append] at H))
    | ((with_reducible refine gBx ?_); refine bxA H rfl rfl rfl ?_; clear H; intro b1 w1 H)
    | ((with_reducible refine gBs ?_); (first | (refine bs1 H rfl (by first | exact S27 | exact S51) rfl (Nat.le_of_ble_eq_true rfl) (Nat.le_of_ble_eq_true rfl) rfl ?_) | (refine wl_buildSlice0 rfl (by first | exact S27 | exact S51) H ?_)); clear H; intro b1 w1 H)
    | ((with_reducible refine gEq ?_); (first | (refine wl_cmp rfl rfl rfl rfl ?_) | (refine wl_scmp rfl rfl rfl rfl ?_)); intro rb hrb; cases rb <;> (first | (exfalso; simp at hrb; done) | ((try simp only [decide_eq_true_eq, decide_eq_false_iff_not, beq_iff_eq, beq_eq_false_iff_ne, ne_eq, bne_iff_ne, bne_eq_false_iff_eq, Bool.not_eq_true', Bool.not_eq_false', gt_iff_lt, ge_iff_le, Int.not_lt, Int.not_le, Decidable.not_not] at hrb); (try subst hrb); (try (exfalso; omega)))))
    | ((with_reducible refine gEq ?_); (first | (refine wl_eqAgg G35 (eq35 9998 ⟨_, _, _, _, _⟩ ⟨_, _, _, _, _⟩) rfl rfl rfl ?_) | (refine wl_neAgg G35 (eq35 9998 ⟨_, _, _, _, _⟩ ⟨_, _, _, _, _⟩) rfl rfl rfl ?_)); intro rb hrb; cases rb <;> (try simp only [Bool.not_true, Bool.not_false]))
    | ((with_reducible refine gAl ?_); (first | (refine al H Z35 rfl rfl ?_) | (refine al H Z29 rfl rfl ?_)); clear H; intro b1 w1 H)
    | ((with_reducible refine gRg ?_); refine wp_region_text rfl (by decide +kernel) ?_; replace H := H.drew)
    | ((with_reducible refine EndQ.intro ?_ ?_); (· kernel_rfl)))
  all_goals go_ret
  all_goals exact ⟨rfl, H⟩
theorem Move_spec {w0 w : World} {D : Nat → Prop} {R : List Ent} {p : Nat} {af ah : Option Nat} {cf ch : Nat} {s : St} (H : Hp w0 D (eN 63 p af ah cf ch (s) :: eR af cf (s).fl :: eR ah ch (s).hd :: R) w) (i j : Int) (hl : s.fl.length ≤ 100000) : Calls Try.prog 21 #[.pointer (some ⟨p, 0, none⟩), .int .i64 i, .int .i64 j] w fun e w' => ∃ af' cf', e = .returned (.int .i64 (s.move i j).2) ∧ Hp w0 D (eN 63 p af' ah cf' ch ((s.move i j).1) :: eR af' cf' ((s.move i j).1).fl :: eR ah ch ((s.move i j).1).hd :: R) w' := by
  by_cases hp : placeB s i = true
  · by_cases hp2 : placeB s j = true
    · obtain ⟨k, rfl, hk⟩ := place_nat hp
      obtain ⟨t, rfl, ht⟩ := place_nat hp2
      have e1 : s.move k t = ({ s with fl := (s.fl.eraseIdx k).insertIdx t (s.pk k) }, 0) := by
        unfold St.move
        rw [if_neg (by simp [hp, hp2])]
        rfl
      rw [e1]
      exact Move_ok H k t hk ht hl
    · have hp2 : placeB s j = false := by simpa using hp2
      have e1 : s.move i j = (s, 7) := by simp [St.move, hp2]
      rw [e1]
      exact (Move_no2 H i j hp hp2).mono fun e w' h => ⟨af, cf, h⟩
  · have hp : placeB s i = false := by simpa using hp
    have e1 : s.move i j = (s, 7) := by simp [St.move, hp]
    rw [e1]
    exact (Move_no1 H i j hp).mono fun e w' h => ⟨af, cf, h⟩
theorem Drop_at {w0 w : World} {D : Nat → Prop} {R : List Ent} {p : Nat} {af ah : Option Nat} {cf ch : Nat} {s : St} (H : Hp w0 D (eN 63 p af ah cf ch (s) :: eR af cf (s).fl :: eR ah ch (s).hd :: R) w) {i : Int} (hl : s.fl.length ≤ 100000) {s' : St} {y : Int} (h : s.drop i = (s', y)) :
    Calls Try.prog 19 #[.pointer (some ⟨p, 0, none⟩), .int .i64 i] w fun e w' => e = .returned (.int .i64 y) ∧ Hp w0 D (eN 63 p af ah cf ch (s') :: eR af cf (s').fl :: eR ah ch (s').hd :: R) w' := by
  have := Drop_spec H i hl
  rw [h] at this
  exact this
theorem Move_at {w0 w : World} {D : Nat → Prop} {R : List Ent} {p : Nat} {af ah : Option Nat} {cf ch : Nat} {s : St} (H : Hp w0 D (eN 63 p af ah cf ch (s) :: eR af cf (s).fl :: eR ah ch (s).hd :: R) w) {i j : Int} (hl : s.fl.length ≤ 100000) {s' : St} {y : Int} (h : s.move i j = (s', y)) :
    Calls Try.prog 21 #[.pointer (some ⟨p, 0, none⟩), .int .i64 i, .int .i64 j] w fun e w' => ∃ af' cf', e = .returned (.int .i64 y) ∧ Hp w0 D (eN 63 p af' ah cf' ch (s') :: eR af' cf' (s').fl :: eR ah ch (s').hd :: R) w' := by
  have := Move_spec H i j hl
  rw [h] at this
  exact this
theorem Hold_at {w0 w : World} {D : Nat → Prop} {R : List Ent} {p : Nat} {af ah : Option Nat} {cf ch : Nat} {s : St} (H : Hp w0 D (eN 63 p af ah cf ch (s) :: eR af cf (s).fl :: eR ah ch (s).hd :: R) w) {i n : Int} (hl : s.fl.length ≤ 100000) {s' : St} {y : Int} (h : s.hold i n = (s', y)) :
    Calls Try.prog 22 #[.pointer (some ⟨p, 0, none⟩), .int .i64 i, .int .i64 n] w fun e w' => e = .returned (.int .i64 y) ∧ Hp w0 D (eN 63 p af ah cf ch (s') :: eR af cf (s').fl :: eR ah ch (s').hd :: R) w' := by
  have := Hold_spec H i n hl
  rw [h] at this
  exact this
theorem Cut_at {w0 w : World} {D : Nat → Prop} {R : List Ent} {p : Nat} {af ah : Option Nat} {cf ch : Nat} {s : St} (H : Hp w0 D (eN 63 p af ah cf ch (s) :: eR af cf (s).fl :: eR ah ch (s).hd :: R) w) {a b : Int} {c : Bool}  {s' : St} {y : Int} (h : s.cutS a b c = (s', y)) :
    Calls Try.prog 24 #[.pointer (some ⟨p, 0, none⟩), .int .i64 a, .int .i64 b, .bool c] w fun e w' => e = .returned (.int .i64 y) ∧ Hp w0 D (eN 63 p af ah cf ch (s') :: eR af cf (s').fl :: eR ah ch (s').hd :: R) w' := by
  have := Cut_spec H a b c
  rw [h] at this
  exact this
end Go.Proofs.Ytajconlnacbmjaa
