import Derived.Test.YtajconlnacbmjaaW14
import Derived.Test.YtajconlnacbmjaaW12
import Derived.Test.YtajconlnacbmjaaW8
import Derived.WalkKit
import Derived.Lib.Hide
import Derived.WalkSpells
set_option linter.unusedVariables false
set_option linter.unusedSimpArgs false
namespace Go.Proofs.Ytajconlnacbmjaa
open Go.RowKit Go.Gx Go.Gx.Net
set_option maxRecDepth 100000
theorem rSend_at {w0 w : World} {D : Nat → Prop} {R : List Ent} {p : Nat} {af ah : Option Nat} {cf ch : Nat} {s : St} (H : Hp w0 D (eN 49 p af ah cf ch (s) :: eR af cf (s).fl :: eR ah ch (s).hd :: R) w) {a b : Int} {t : ByteArray} {s' : St} {x y : Int} (h : s.send a b t = (s', x, y)) :
    Calls Try.prog 15 #[.pointer (some ⟨p, 0, none⟩), .int .i64 a, .int .i64 b, .string t] w fun e w' => ∃ af' cf' ah' ch', e = .returned (.tuple #[.int .i64 x, .int .i64 y]) ∧ Hp w0 D (eN 49 p af' ah' cf' ch' (s') :: eR af' cf' (s').fl :: eR ah' ch' (s').hd :: R) w' := by
  have := rSend_spec H a b t
  rw [h] at this
  exact this
theorem Double_at {w0 w : World} {D : Nat → Prop} {R : List Ent} {p : Nat} {af ah : Option Nat} {cf ch : Nat} {s : St} (H : Hp w0 D (eN 63 p af ah cf ch (s) :: eR af cf (s).fl :: eR ah ch (s).hd :: R) w) {i : Int} {s' : St} {x y : Int} (h : s.double i = (s', x, y)) :
    Calls Try.prog 20 #[.pointer (some ⟨p, 0, none⟩), .int .i64 i] w fun e w' => ∃ af' cf', e = .returned (.tuple #[.int .i64 x, .int .i64 y]) ∧ Hp w0 D (eN 63 p af' ah cf' ch (s') :: eR af' cf' (s').fl :: eR ah ch (s').hd :: R) w' := by
  have := Double_spec H i
  rw [h] at this
  exact this
theorem rDouble_at {w0 w : World} {D : Nat → Prop} {R : List Ent} {p : Nat} {af ah : Option Nat} {cf ch : Nat} {s : St} (H : Hp w0 D (eN 49 p af ah cf ch (s) :: eR af cf (s).fl :: eR ah ch (s).hd :: R) w) {i : Int} {s' : St} {x y : Int} (h : s.double i = (s', x, y)) :
    Calls Try.prog 36 #[.pointer (some ⟨p, 0, none⟩), .int .i64 i] w fun e w' => ∃ af' cf', e = .returned (.tuple #[.int .i64 x, .int .i64 y]) ∧ Hp w0 D (eN 49 p af' ah cf' ch (s') :: eR af' cf' (s').fl :: eR ah ch (s').hd :: R) w' := by
  have := rDouble_spec H i
  rw [h] at this
  exact this
set_option maxHeartbeats 4000000 in
theorem does0 {w0 w : World} {D : Nat → Prop} {R : List Ent} {p q : Nat} {af ah bf bh : Option Nat} {cf ch df dh : Nat} {s : St} (H : Hp w0 D (eN 63 p af ah cf ch (s) :: eR af cf (s).fl :: eR ah ch (s).hd :: eN 49 q bf bh df dh (s) :: eR bf df (s).fl :: eR bh dh (s).hd :: R) w) (a b : Int) (t : ByteArray) (on : Bool) :
    Calls Try.prog 16 #[.pointer (some ⟨p, 0, none⟩), .pointer (some ⟨q, 0, none⟩), .agg (Ac.mk 0 a b t on).cells.toArray] w fun e w' => ∃ af' cf' ah' ch' bf' df' bh' dh', e = .returned (.bool true) ∧ Hp w0 D (eN 63 p af' ah' cf' ch' ((s.send a b t).1) :: eR af' cf' ((s.send a b t).1).fl :: eR ah' ch' ((s.send a b t).1).hd :: eN 49 q bf' bh' df' dh' ((s.send a b t).1) :: eR bf' df' ((s.send a b t).1).fl :: eR bh' dh' ((s.send a b t).1).hd :: R) w' := by
  try simp only [Pk.cells, netC, Pk.zero]
  simp only [Ac.cells]
  generalize hs : s.send a b t = r
  obtain ⟨s1, x1, e1⟩ := r
  have HS := Lib.hid hs
  clear hs
  go_enter Try.func16, Try.ntmps16
  go_wp2_with (first
    | (go_at_call 11; have H2 := H.swap (A := [_]) (B := [_, _, _]); simp only [List.cons_append, List.nil_append] at H2; refine (Send_at H2 HS.out).mono ?_; clear H2; rintro e w1 ⟨af1, cf1, ah1, ch1, rfl, H1⟩; clear H; have H := H1.swap (A := [_, _, _]) (B := [_]); clear H1; simp only [List.cons_append, List.nil_append] at H)
    | (go_at_call 15; have H2 := H.swap (A := [_, _, _, _]) (B := [_, _, _]); simp only [List.cons_append, List.nil_append] at H2; refine (rSend_at H2 HS.out).mono ?_; clear H2; rintro e w1 ⟨bf1, df1, bh1, dh1, rfl, H1⟩; clear H; have H := H1.swap (A := [_, _, _]) (B := [_, _, _, _]); clear H1; simp only [List.cons_append, List.nil_append] at H)
    | (go_at_call 12; (with_reducible refine (num_spec H _).mono ?_); rintro e w1 ⟨rfl, H1⟩; clear H; have H := H1; clear H1)
    | ((with_reducible refine gLd ?_); refine eLd H rfl rfl ?_; first | (refine kLdB 0 rfl rfl (by first | exact T3 | exact T4 | exact T9 | exact T30 | exact T27 | exact T51 | exact T35 | exact T29 | exact T63 | exact T49) rfl ?_; intro rb hrb; cases rb <;> (first | (exfalso; simp at hrb; done) | ((try simp only [decide_eq_true_eq, decide_eq_false_iff_not, beq_iff_eq, beq_eq_false_iff_ne, ne_eq, bne_iff_ne, bne_eq_false_iff_eq, Bool.not_eq_true', Bool.not_eq_false', gt_iff_lt, ge_iff_le, Int.not_lt, Int.not_le, Decidable.not_not] at hrb); (try subst hrb); (try (exfalso; omega))))) | (refine kLd 0 rfl rfl (by first | exact T3 | exact T4 | exact T9 | exact T30 | exact T27 | exact T51 | exact T35 | exact T29 | exact T63 | exact T49) rfl ?_) | (refine kLdA 0 rfl rfl (by first | exact T3 | exact T4 | exact T9 | exact T30 | exact T27 | exact T51 | exact T35 | exact T29 | exact T63 | exact T49) (Nat.le_of_ble_eq_true rfl) (by simp only [Pk.cells, netC, Pk.zero, List.drop_succ_cons, List.drop_zero, List.take_succ_cons, List.take_zero, List.set_cons_zero, List.set_cons_succ]; rfl) ?_))
    | ((with_reducible refine gSt ?_); (first | (refine eSt H rfl rfl ⟨.int _ _, rfl, ?_⟩) | (refine eSt H rfl rfl ⟨.bool _, rfl, ?_⟩) | (refine eSt H rfl rfl ⟨.slice _ _ _, rfl, ?_⟩) | (refine eSt H rfl rfl ⟨.pointer _, rfl, ?_⟩) | (refine eSt H rfl rfl ⟨.string _, rfl, ?_⟩) | (refine eSt H rfl rfl ⟨.agg (List.toArray _), rfl, ?_⟩)); (first | (refine kSt 0 rfl rfl (by first | exact T3 | exact T4 | exact T9 | exact T30 | exact T27 | exact T51 | exact T35 | exact T29 | exact T63 | exact T49) rfl (Nat.le_of_ble_eq_true rfl) ?_) | (refine kStA 0 rfl rfl (by first | exact T3 | exact T4 | exact T9 | exact T30 | exact T27 | exact T51 | exact T35 | exact T29 | exact T63 | exact T49) rfl rfl (Nat.le_of_ble_eq_true rfl) ?_)); clear H; intro w1 H; simp only [List.set_cons_zero, List.set_cons_succ] at H; (try simp only [lay, List.take_zero, List.nil_append, List.length_cons, List.length_nil, Nat.zero_add, Nat.reduceAdd, List.drop_succ_cons, List.drop_zero, List.drop_nil, List.append_nil, List.take_succ_cons, List.cons_append] at H))
    | ((with_reducible refine gBx ?_); refine bxA H rfl rfl rfl ?_; clear H; intro b1 w1 H)
    | ((with_reducible refine gBs ?_); (first | (refine bs1 H rfl (by first | exact S27 | exact S51) rfl (Nat.le_of_ble_eq_true rfl) (Nat.le_of_ble_eq_true rfl) rfl ?_) | (refine wl_buildSlice0 rfl (by first | exact S27 | exact S51) H ?_)); clear H; intro b1 w1 H)
    | ((with_reducible refine gEq ?_); (first | (refine wl_cmp rfl rfl rfl rfl ?_) | (refine wl_scmp rfl rfl rfl rfl ?_)); intro rb hrb; cases rb <;> (first | (exfalso; simp at hrb; done) | ((try simp only [decide_eq_true_eq, decide_eq_false_iff_not, beq_iff_eq, beq_eq_false_iff_ne, ne_eq, bne_iff_ne, bne_eq_false_iff_eq, Bool.not_eq_true', Bool.not_eq_false', gt_iff_lt, ge_iff_le, Int.not_lt, Int.not_le, Decidable.not_not] at hrb); (try subst hrb); (try (exfalso; omega)))))
    | ((with_reducible refine gEq ?_); (first | (refine wl_eqAgg G35 (eq35 9998 ⟨_, _, _, _, _⟩ ⟨_, _, _, _, _⟩) rfl rfl rfl ?_) | (refine wl_neAgg G35 (eq35 9998 ⟨_, _, _, _, _⟩ ⟨_, _, _, _, _⟩) rfl rfl rfl ?_)); intro rb hrb; cases rb <;> (try simp only [Bool.not_true, Bool.not_false]))
    | ((with_reducible refine gAl ?_); (first | (refine al H Z35 rfl rfl ?_) | (refine al H Z29 rfl rfl ?_)); clear H; intro b1 w1 H)
    | ((with_reducible refine gRg ?_); refine wp_region_text rfl (by decide +kernel) ?_; replace H := H.drew)
    | ((with_reducible refine EndQ.intro ?_ ?_); (· kernel_rfl)))
  all_goals go_ret
  all_goals exact ⟨af1, cf1, ah1, ch1, bf1, df1, bh1, dh1, rfl, H.drop⟩
set_option maxHeartbeats 4000000 in
theorem does3 {w0 w : World} {D : Nat → Prop} {R : List Ent} {p q : Nat} {af ah bf bh : Option Nat} {cf ch df dh : Nat} {s : St} (H : Hp w0 D (eN 63 p af ah cf ch (s) :: eR af cf (s).fl :: eR ah ch (s).hd :: eN 49 q bf bh df dh (s) :: eR bf df (s).fl :: eR bh dh (s).hd :: R) w) (a b : Int) (t : ByteArray) (on : Bool) :
    Calls Try.prog 16 #[.pointer (some ⟨p, 0, none⟩), .pointer (some ⟨q, 0, none⟩), .agg (Ac.mk 3 a b t on).cells.toArray] w fun e w' => ∃ af' cf' ah' ch' bf' df' bh' dh', e = .returned (.bool true) ∧ Hp w0 D (eN 63 p af' ah' cf' ch' ((s.double a).1) :: eR af' cf' ((s.double a).1).fl :: eR ah' ch' ((s.double a).1).hd :: eN 49 q bf' bh' df' dh' ((s.double a).1) :: eR bf' df' ((s.double a).1).fl :: eR bh' dh' ((s.double a).1).hd :: R) w' := by
  try simp only [Pk.cells, netC, Pk.zero]
  simp only [Ac.cells]
  generalize hs : s.double a = r
  obtain ⟨s1, x1, e1⟩ := r
  have HS := Lib.hid hs
  clear hs
  go_enter Try.func16, Try.ntmps16
  go_wp2_with (first
    | (go_at_call 20; have H2 := H.swap (A := [_]) (B := [_, _, _]); simp only [List.cons_append, List.nil_append] at H2; refine (Double_at H2 HS.out).mono ?_; clear H2; rintro e w1 ⟨af1, cf1, rfl, H1⟩; clear H; have H := H1.swap (A := [_, _, _]) (B := [_]); clear H1; simp only [List.cons_append, List.nil_append] at H)
    | (go_at_call 36; have H2 := H.swap (A := [_, _, _, _]) (B := [_, _, _]); simp only [List.cons_append, List.nil_append] at H2; refine (rDouble_at H2 HS.out).mono ?_; clear H2; rintro e w1 ⟨bf1, df1, rfl, H1⟩; clear H; have H := H1.swap (A := [_, _, _]) (B := [_, _, _, _]); clear H1; simp only [List.cons_append, List.nil_append] at H)
    | (go_at_call 12; (with_reducible refine (num_spec H _).mono ?_); rintro e w1 ⟨rfl, H1⟩; clear H; have H := H1; clear H1)
    | ((with_reducible refine gLd ?_); refine eLd H rfl rfl ?_; first | (refine kLdB 0 rfl rfl (by first | exact T3 | exact T4 | exact T9 | exact T30 | exact T27 | exact T51 | exact T35 | exact T29 | exact T63 | exact T49) rfl ?_; intro rb hrb; cases rb <;> (first | (exfalso; simp at hrb; done) | ((try simp only [decide_eq_true_eq, decide_eq_false_iff_not, beq_iff_eq, beq_eq_false_iff_ne, ne_eq, bne_iff_ne, bne_eq_false_iff_eq, Bool.not_eq_true', Bool.not_eq_false', gt_iff_lt, ge_iff_le, Int.not_lt, Int.not_le, Decidable.not_not] at hrb); (try subst hrb); (try (exfalso; omega))))) | (refine kLd 0 rfl rfl (by first | exact T3 | exact T4 | exact T9 | exact T30 | exact T27 | exact T51 | exact T35 | exact T29 | exact T63 | exact T49) rfl ?_) | (refine kLdA 0 rfl rfl (by first | exact T3 | exact T4 | exact T9 | exact T30 | exact T27 | exact T51 | exact T35 | exact T29 | exact T63 | exact T49) (Nat.le_of_ble_eq_true rfl) (by simp only [Pk.cells, netC, Pk.zero, List.drop_succ_cons, List.drop_zero, List.take_succ_cons, List.take_zero, List.set_cons_zero, List.set_cons_succ]; rfl) ?_))
    | ((with_reducible refine gSt ?_); (first | (refine eSt H rfl rfl ⟨.int _ _, rfl, ?_⟩) | (refine eSt H rfl rfl ⟨.bool _, rfl, ?_⟩) | (refine eSt H rfl rfl ⟨.slice _ _ _, rfl, ?_⟩) | (refine eSt H rfl rfl ⟨.pointer _, rfl, ?_⟩) | (refine eSt H rfl rfl ⟨.string _, rfl, ?_⟩) | (refine eSt H rfl rfl ⟨.agg (List.toArray _), rfl, ?_⟩)); (first | (refine kSt 0 rfl rfl (by first | exact T3 | exact T4 | exact T9 | exact T30 | exact T27 | exact T51 | exact T35 | exact T29 | exact T63 | exact T49) rfl (Nat.le_of_ble_eq_true rfl) ?_) | (refine kStA 0 rfl rfl (by first | exact T3 | exact T4 | exact T9 | exact T30 | exact T27 | exact T51 | exact T35 | exact T29 | exact T63 | exact T49) rfl rfl (Nat.le_of_ble_eq_true rfl) ?_)); clear H; intro w1 H; simp only [List.set_cons_zero, List.set_cons_succ] at H; (try simp only [lay, List.take_zero, List.nil_append, List.length_cons, List.length_nil, Nat.zero_add, Nat.reduceAdd, List.drop_succ_cons, List.drop_zero, List.drop_nil, List.append_nil, List.take_succ_cons, List.cons_append] at H))
    | ((with_reducible refine gBx ?_); refine bxA H rfl rfl rfl ?_; clear H; intro b1 w1 H)
    | ((with_reducible refine gBs ?_); (first | (refine bs1 H rfl (by first | exact S27 | exact S51) rfl (Nat.le_of_ble_eq_true rfl) (Nat.le_of_ble_eq_true rfl) rfl ?_) | (refine wl_buildSlice0 rfl (by first | exact S27 | exact S51) H ?_)); clear H; intro b1 w1 H)
    | ((with_reducible refine gEq ?_); (first | (refine wl_cmp rfl rfl rfl rfl ?_) | (refine wl_scmp rfl rfl rfl rfl ?_)); intro rb hrb; cases rb <;> (first | (exfalso; simp at hrb; done) | ((try simp only [decide_eq_true_eq, decide_eq_false_iff_not, beq_iff_eq, beq_eq_false_iff_ne, ne_eq, bne_iff_ne, bne_eq_false_iff_eq, Bool.not_eq_true', Bool.not_eq_false', gt_iff_lt, ge_iff_le, Int.not_lt, Int.not_le, Decidable.not_not] at hrb); (try subst hrb); (try (exfalso; omega)))))
    | ((with_reducible refine gEq ?_); (first | (refine wl_eqAgg G35 (eq35 9998 ⟨_, _, _, _, _⟩ ⟨_, _, _, _, _⟩) rfl rfl rfl ?_) | (refine wl_neAgg G35 (eq35 9998 ⟨_, _, _, _, _⟩ ⟨_, _, _, _, _⟩) rfl rfl rfl ?_)); intro rb hrb; cases rb <;> (try simp only [Bool.not_true, Bool.not_false]))
    | ((with_reducible refine gAl ?_); (first | (refine al H Z35 rfl rfl ?_) | (refine al H Z29 rfl rfl ?_)); clear H; intro b1 w1 H)
    | ((with_reducible refine gRg ?_); refine wp_region_text rfl (by decide +kernel) ?_; replace H := H.drew)
    | ((with_reducible refine EndQ.intro ?_ ?_); (· kernel_rfl)))
  all_goals go_ret
  all_goals exact ⟨af1, cf1, _, _, bf1, df1, _, _, rfl, H.drop⟩
end Go.Proofs.Ytajconlnacbmjaa
