/- The law: long, live. -/
import Derived.Test.YtjmkoojojbfgpaaW8
import Derived.Test.YtjmkoojojbfgpaaW9
import Derived.WalkKit
import Derived.Lib.Hide
import Derived.Deep.LoopGhost
import Derived.WalkSpells
set_option linter.unusedVariables false
set_option linter.unusedSimpArgs false
namespace Go.Proofs.Ytjmkoojojbfgpaa
open Go.RowKit Go.Gx Go.Gx.Ver
set_option maxRecDepth 100000
theorem Ask_at {W w : World} {E : Nat → Prop} {M : List (Nat × IntKind × List (Int × Value))} {R : List Ent} {p mb : Nat} {a : Option Nat} {cap : Nat} {t : Tb} (h : Hm W E ((mb, IntKind.u64, kvs (t).l) :: M) (eT p mb a cap (t) :: eL a cap (t).l :: R) w) (hk : t.ok) (i : Lt) (t' : Tb) (m : Lt) (f : Int) (b : Bool) (he : t.ask i = (t', m, f, b)) :
    Calls Try.prog 12 #[.pointer (some ⟨p, 0, none⟩), .agg i.cells.toArray] w fun e w' => ∃ a' cap', e = .returned (.tuple #[.agg m.cells.toArray, .int .i64 f, .bool b]) ∧ Hm W E ((mb, IntKind.u64, kvs t'.l) :: M) (eT p mb a' cap' t' :: eL a' cap' t'.l :: R) w' := by
  have := Ask_spec h hk i
  rw [he] at this; exact this
theorem New_at {W w : World} {E : Nat → Prop} {M : List (Nat × IntKind × List (Int × Value))} {R : List Ent} (h0 : Hm W E M R w) (n : Int) (h1 : 1 ≤ n) (h2 : n ≤ 64) (t : Tb) (ht : t = Tb.mk n []) :
    Calls Try.prog 10 #[.int .i64 n] w fun e w' => ∃ p mb, e = .returned (.tuple #[.pointer (some ⟨p, 0, none⟩), .int .i64 0]) ∧ Hm W E ((mb, IntKind.u64, kvs t.l) :: M) (eT p mb none 0 t :: eL none 0 t.l :: R) w' := by
  subst ht; exact New_ok h0 n h1 h2
theorem Room_at {w0 w : World} {D : Nat → Prop} {R : List Ent} {p mb : Nat} {a : Option Nat} {cap : Nat} {t : Tb} (H : Hp w0 D (eT p mb a cap (t) :: eL a cap (t).l :: R) w) (hk : t.ok) (r : Int) (h : t.most - (t.l.length : Int) = r) :
    Calls Try.prog 14 #[.pointer (some ⟨p, 0, none⟩)] w fun e w' => e = .returned (.int .i64 r) ∧ Hp w0 D (eT p mb a cap (t) :: eL a cap (t).l :: R) w' := by
  subst h; exact Room_spec H hk.lo hk.hi hk.le
def bx : ByteArray := ⟨#[120]⟩
theorem want_r (f c : Int) (x : ByteArray) (hf : f = 0 ∨ f = 1) (hx : x.size ≤ 64) : want ⟨4, f, c, x, false⟩ = some ⟨c, 2, x⟩ := by
  have h : lCheck ⟨4, f, c, x, false⟩ = 0 := lCheck_ok _ (show (1:Int) ≤ 4 by decide) (show (4:Int) ≤ 7 by decide) (by rcases hf with rfl | rfl <;> simp [lBad, kFrom, kText, kFake]) (by show (x.size : Int) ≤ 64; omega)
  unfold want; rw [if_pos h]; rfl
theorem want_a (c : Int) : want ⟨3, 0, c, bmt, false⟩ = some ⟨c, 1, bmt⟩ := by
  have h : lCheck ⟨3, 0, c, bmt, false⟩ = 0 := lCheck_ok _ (show (1:Int) ≤ 3 by decide) (show (3:Int) ≤ 7 by decide) (by simp [lBad, kFrom, kText, kFake, bmt]) (show (((0:Nat):Int)) ≤ 64 by decide)
  unfold want; rw [if_pos h]; rfl
theorem want_t (c : Int) : want ⟨5, 0, c, bmt, false⟩ = none := by
  unfold want; split <;> rfl
theorem x1 : Tb.ask ⟨1, []⟩ ⟨4, 0, 7, bx, false⟩ = (⟨1, [⟨7, 2, bx⟩]⟩, ⟨6, 0, 7, bx, false⟩, 0, true) := by
  unfold Tb.ask Tb.would; rw [want_r _ _ _ (.inl rfl) (by decide)]; rfl
theorem x2 : Tb.ask ⟨1, [⟨7, 2, bx⟩]⟩ ⟨3, 0, 7, bmt, false⟩ = (⟨1, [⟨7, 2, bx⟩]⟩, ⟨6, 0, 7, bx, false⟩, 0, true) := by
  unfold Tb.ask Tb.would; rw [want_a]; rfl
theorem x3 : Tb.ask ⟨1, [⟨7, 2, bx⟩]⟩ ⟨3, 0, 8, bmt, false⟩ = (⟨1, [⟨7, 2, bx⟩]⟩, ⟨7, 0, 8, bmt, false⟩, 0, true) := by
  unfold Tb.ask Tb.would; rw [want_a]; rfl
theorem x4 : Tb.ask ⟨1, [⟨7, 2, bx⟩]⟩ ⟨5, 0, 7, bmt, false⟩ = (⟨1, [⟨7, 2, bx⟩]⟩, .zero, 0, false) := by
  unfold Tb.ask Tb.would; rw [want_t]
theorem k0 : (Tb.mk 1 []).ok := ⟨by decide, by decide, by decide, by simp⟩
theorem k1 : (Tb.mk 1 [⟨7, 2, bx⟩]).ok := ⟨by decide, by decide, by decide, by simp; rfl⟩
set_option maxHeartbeats 4000000 in
theorem long_spec {w0 w : World} {D : Nat → Prop} {R : List Ent} {x : Option Addr} {cc : Nat} (H : Hp w0 D (R) w) (l : List Lt) (hX : RdA w0 D x (lts l)) :
    Calls Try.prog 8 #[.slice x l.length cc] w fun e w' => ∃ b : Bool, e = .returned (.bool b) ∧ (b = false → l.length ≤ 100) ∧ Hp w0 D R w' := by
  have HX := Lib.hid hX
  clear hX
  try simp only [Lt.cells, Vt.cells, Lt.zero, Vt.zero, kRow, eT, eL, bmt] at H
  try simp only [Lt.cells, Vt.cells, Lt.zero, Vt.zero, kRow, eT, eL, bmt]
  go_enter Try.func8, Try.ntmps8
  go_wp2_with (first
    | ((with_reducible refine gLd ?_); refine eLd H rfl rfl ?_; first | (refine kLdB 0 rfl rfl (by first | exact T3 | exact T4 | exact T9 | exact T23 | exact T22 | exact T26 | exact T27 | exact T44 | exact T49 | exact T66 | exact T32 | exact T37 | exact T76 | exact T77) rfl ?_; intro rb hrb; cases rb <;> (first | (exfalso; simp at hrb; done) | ((try simp only [decide_eq_true_eq, decide_eq_false_iff_not, beq_iff_eq, beq_eq_false_iff_ne, ne_eq, bne_iff_ne, bne_eq_false_iff_eq, Bool.not_eq_true', Bool.not_eq_false', gt_iff_lt, ge_iff_le, Int.not_lt, Int.not_le, Decidable.not_not] at hrb); (try subst hrb); (try (exfalso; omega))))) | (refine kLd 0 rfl rfl (by first | exact T3 | exact T4 | exact T9 | exact T23 | exact T22 | exact T26 | exact T27 | exact T44 | exact T49 | exact T66 | exact T32 | exact T37 | exact T76 | exact T77) rfl ?_) | (refine kLdA 0 rfl rfl (by first | exact T3 | exact T4 | exact T9 | exact T23 | exact T22 | exact T26 | exact T27 | exact T44 | exact T49 | exact T66 | exact T32 | exact T37 | exact T76 | exact T77) (Nat.le_of_ble_eq_true rfl) (by simp only [Lt.cells, Vt.cells, Lt.zero, Vt.zero, kRow, eT, eL, bmt, List.drop_succ_cons, List.drop_zero, List.take_succ_cons, List.take_zero, List.set_cons_zero, List.set_cons_succ]; rfl) ?_))
    | ((with_reducible refine gSt ?_); (first | (refine eSt H rfl rfl ⟨.int _ _, rfl, ?_⟩) | (refine eSt H rfl rfl ⟨.bool _, rfl, ?_⟩) | (refine eSt H rfl rfl ⟨.slice _ _ _, rfl, ?_⟩) | (refine eSt H rfl rfl ⟨.pointer _, rfl, ?_⟩) | (refine eSt H rfl rfl ⟨.string _, rfl, ?_⟩) | (refine eSt H rfl rfl ⟨.agg (List.toArray _), rfl, ?_⟩)); (first | (refine kSt 0 rfl rfl (by first | exact T3 | exact T4 | exact T9 | exact T23 | exact T22 | exact T26 | exact T27 | exact T44 | exact T49 | exact T66 | exact T32 | exact T37 | exact T76 | exact T77) rfl (Nat.le_of_ble_eq_true rfl) ?_) | (refine kStA 0 rfl rfl (by first | exact T3 | exact T4 | exact T9 | exact T23 | exact T22 | exact T26 | exact T27 | exact T44 | exact T49 | exact T66 | exact T32 | exact T37 | exact T76 | exact T77) rfl rfl (Nat.le_of_ble_eq_true rfl) ?_)); clear H; intro w1 H; simp only [List.set_cons_zero, List.set_cons_succ] at H; (try simp only [lay, List.take_zero, List.nil_append, List.length_cons, List.length_nil, Nat.zero_add, Nat.reduceAdd, List.drop_succ_cons, List.drop_zero, List.drop_nil, List.append_nil, List.take_succ_cons, List.cons_append] at H))
    | ((with_reducible refine gBx ?_); refine bxA H rfl rfl rfl ?_; clear H; intro b1 w1 H)
    | ((with_reducible refine gBs ?_); (first | (refine bs1 H rfl (by first | exact S22 | exact S44) rfl (Nat.le_of_ble_eq_true rfl) (Nat.le_of_ble_eq_true rfl) rfl ?_) | (refine wl_buildSlice0 rfl (by first | exact S22 | exact S44) H ?_)); clear H; intro b1 w1 H)
    | ((with_reducible refine gEq ?_); (first | (refine wl_cmp rfl rfl rfl rfl ?_) | (refine wl_scmp rfl rfl rfl rfl ?_)); intro rb hrb; cases rb <;> (first | (exfalso; simp at hrb; done) | ((try simp only [decide_eq_true_eq, decide_eq_false_iff_not, beq_iff_eq, beq_eq_false_iff_ne, ne_eq, bne_iff_ne, bne_eq_false_iff_eq, Bool.not_eq_true', Bool.not_eq_false', gt_iff_lt, ge_iff_le, Int.not_lt, Int.not_le, Decidable.not_not] at hrb); (try subst hrb); (try (exfalso; omega)))))
    | ((with_reducible refine gEq ?_); (first | (refine wl_eqAgg G32 (eq32 9998 ⟨_, _, _, _, _⟩ ⟨_, _, _, _, _⟩) rfl rfl rfl ?_) | (refine wl_neAgg G32 (eq32 9998 ⟨_, _, _, _, _⟩ ⟨_, _, _, _, _⟩) rfl rfl rfl ?_)); intro rb hrb; cases rb <;> (try simp only [Bool.not_true, Bool.not_false]))
    | ((with_reducible refine gEq ?_); (first | (refine wl_eqAgg G37 (eq37 9998 ⟨_, _, _⟩ ⟨_, _, _⟩) rfl rfl rfl ?_) | (refine wl_neAgg G37 (eq37 9998 ⟨_, _, _⟩ ⟨_, _, _⟩) rfl rfl rfl ?_)); intro rb hrb; cases rb <;> (try simp only [Bool.not_true, Bool.not_false]))
    | ((with_reducible refine gAl ?_); (first | (refine al H Z32 rfl rfl ?_) | (refine al H Z37 rfl rfl ?_) | (refine al H Z76 rfl rfl ?_) | (refine al H Z77 rfl rfl ?_)); clear H; intro b1 w1 H)
    | ((with_reducible refine gRg ?_); refine wp_region_text rfl (by decide +kernel) ?_; replace H := H.drew)
    | (refine EndQ.intro (by kernel_rfl) ?_))
  go_loopg [3, 4] l.length (fun n v3 v4 wr => ∃ (k : Nat) (s : Int), k + n = l.length ∧ k ≤ 101 ∧ v3 = .int .i64 s ∧ v4 = .int .i64 k ∧ Hp w0 D R wr)
  case atStart => exact ⟨0, 0, by omega, by omega, rfl, rfl, H⟩
  case round =>
    clear H
    obtain ⟨k, s, hkn, hk9, rfl, rfl, H⟩ := hrel
    by_cases hk : k < l.length ∧ k ≤ 100
    · obtain ⟨hk, hk2⟩ := hk
      have hg : 0 < gk := by omega
      have HKN := Lib.hid hkn
      clear hkn
      obtain ⟨⟨q1, q2, q3, q4, q5⟩, hp⟩ : ∃ q, l[k]? = some q := ⟨_, List.getElem?_eq_getElem hk⟩
      obtain ⟨b0, o0, rfl, hA⟩ := (HX.out.rd R).some_of (by rw [lts_length]; omega)
      have HP := Lib.hid hp
      have HA := Lib.hid hA
      clear hp hA
      go_wp2_with (first
    | ((with_reducible refine gLd ?_); refine wl_loadR (k := k * 5 + 3) (HA.out [] _ H) rfl rfl (by first | rfl | omega) T9 (lts_get HP.out rfl) ?_)
    | ((with_reducible refine gLd ?_); refine eLd H rfl rfl ?_; first | (refine kLdB 0 rfl rfl (by first | exact T3 | exact T4 | exact T9 | exact T23 | exact T22 | exact T26 | exact T27 | exact T44 | exact T49 | exact T66 | exact T32 | exact T37 | exact T76 | exact T77) rfl ?_; intro rb hrb; cases rb <;> (first | (exfalso; simp at hrb; done) | ((try simp only [decide_eq_true_eq, decide_eq_false_iff_not, beq_iff_eq, beq_eq_false_iff_ne, ne_eq, bne_iff_ne, bne_eq_false_iff_eq, Bool.not_eq_true', Bool.not_eq_false', gt_iff_lt, ge_iff_le, Int.not_lt, Int.not_le, Decidable.not_not] at hrb); (try subst hrb); (try (exfalso; omega))))) | (refine kLd 0 rfl rfl (by first | exact T3 | exact T4 | exact T9 | exact T23 | exact T22 | exact T26 | exact T27 | exact T44 | exact T49 | exact T66 | exact T32 | exact T37 | exact T76 | exact T77) rfl ?_) | (refine kLdA 0 rfl rfl (by first | exact T3 | exact T4 | exact T9 | exact T23 | exact T22 | exact T26 | exact T27 | exact T44 | exact T49 | exact T66 | exact T32 | exact T37 | exact T76 | exact T77) (Nat.le_of_ble_eq_true rfl) (by simp only [Lt.cells, Vt.cells, Lt.zero, Vt.zero, kRow, eT, eL, bmt, List.drop_succ_cons, List.drop_zero, List.take_succ_cons, List.take_zero, List.set_cons_zero, List.set_cons_succ]; rfl) ?_))
    | ((with_reducible refine gSt ?_); (first | (refine eSt H rfl rfl ⟨.int _ _, rfl, ?_⟩) | (refine eSt H rfl rfl ⟨.bool _, rfl, ?_⟩) | (refine eSt H rfl rfl ⟨.slice _ _ _, rfl, ?_⟩) | (refine eSt H rfl rfl ⟨.pointer _, rfl, ?_⟩) | (refine eSt H rfl rfl ⟨.string _, rfl, ?_⟩) | (refine eSt H rfl rfl ⟨.agg (List.toArray _), rfl, ?_⟩)); (first | (refine kSt 0 rfl rfl (by first | exact T3 | exact T4 | exact T9 | exact T23 | exact T22 | exact T26 | exact T27 | exact T44 | exact T49 | exact T66 | exact T32 | exact T37 | exact T76 | exact T77) rfl (Nat.le_of_ble_eq_true rfl) ?_) | (refine kStA 0 rfl rfl (by first | exact T3 | exact T4 | exact T9 | exact T23 | exact T22 | exact T26 | exact T27 | exact T44 | exact T49 | exact T66 | exact T32 | exact T37 | exact T76 | exact T77) rfl rfl (Nat.le_of_ble_eq_true rfl) ?_)); clear H; intro w1 H; simp only [List.set_cons_zero, List.set_cons_succ] at H; (try simp only [lay, List.take_zero, List.nil_append, List.length_cons, List.length_nil, Nat.zero_add, Nat.reduceAdd, List.drop_succ_cons, List.drop_zero, List.drop_nil, List.append_nil, List.take_succ_cons, List.cons_append] at H))
    | ((with_reducible refine gBx ?_); refine bxA H rfl rfl rfl ?_; clear H; intro b1 w1 H)
    | ((with_reducible refine gBs ?_); (first | (refine bs1 H rfl (by first | exact S22 | exact S44) rfl (Nat.le_of_ble_eq_true rfl) (Nat.le_of_ble_eq_true rfl) rfl ?_) | (refine wl_buildSlice0 rfl (by first | exact S22 | exact S44) H ?_)); clear H; intro b1 w1 H)
    | ((with_reducible refine gEq ?_); (first | (refine wl_cmp rfl rfl rfl rfl ?_) | (refine wl_scmp rfl rfl rfl rfl ?_)); intro rb hrb; cases rb <;> (first | (exfalso; simp at hrb; done) | ((try simp only [decide_eq_true_eq, decide_eq_false_iff_not, beq_iff_eq, beq_eq_false_iff_ne, ne_eq, bne_iff_ne, bne_eq_false_iff_eq, Bool.not_eq_true', Bool.not_eq_false', gt_iff_lt, ge_iff_le, Int.not_lt, Int.not_le, Decidable.not_not] at hrb); (try subst hrb); (try (exfalso; omega)))))
    | ((with_reducible refine gEq ?_); (first | (refine wl_eqAgg G32 (eq32 9998 ⟨_, _, _, _, _⟩ ⟨_, _, _, _, _⟩) rfl rfl rfl ?_) | (refine wl_neAgg G32 (eq32 9998 ⟨_, _, _, _, _⟩ ⟨_, _, _, _, _⟩) rfl rfl rfl ?_)); intro rb hrb; cases rb <;> (try simp only [Bool.not_true, Bool.not_false]))
    | ((with_reducible refine gEq ?_); (first | (refine wl_eqAgg G37 (eq37 9998 ⟨_, _, _⟩ ⟨_, _, _⟩) rfl rfl rfl ?_) | (refine wl_neAgg G37 (eq37 9998 ⟨_, _, _⟩ ⟨_, _, _⟩) rfl rfl rfl ?_)); intro rb hrb; cases rb <;> (try simp only [Bool.not_true, Bool.not_false]))
    | ((with_reducible refine gAl ?_); (first | (refine al H Z32 rfl rfl ?_) | (refine al H Z37 rfl rfl ?_) | (refine al H Z76 rfl rfl ?_) | (refine al H Z77 rfl rfl ?_)); clear H; intro b1 w1 H)
    | ((with_reducible refine gRg ?_); refine wp_region_text rfl (by decide +kernel) ?_; replace H := H.drew)
    | (refine EndQ.intro (by kernel_rfl) ?_))
      any_goals go_roundg (gk - 1)
      all_goals first
        | omega
        | (refine ⟨k + 1, _, ?_, ?_, rfl, ?_, H⟩; (· have := HKN.out; omega); (· omega); (· go_num))
    · have hk3 : ¬ k < l.length ∨ (k < l.length ∧ 100 < k) := by omega
      rcases hk3 with hk3 | ⟨hk3, hk4⟩
      all_goals go_wp2_with (first
    | ((with_reducible refine gLd ?_); refine eLd H rfl rfl ?_; first | (refine kLdB 0 rfl rfl (by first | exact T3 | exact T4 | exact T9 | exact T23 | exact T22 | exact T26 | exact T27 | exact T44 | exact T49 | exact T66 | exact T32 | exact T37 | exact T76 | exact T77) rfl ?_; intro rb hrb; cases rb <;> (first | (exfalso; simp at hrb; done) | ((try simp only [decide_eq_true_eq, decide_eq_false_iff_not, beq_iff_eq, beq_eq_false_iff_ne, ne_eq, bne_iff_ne, bne_eq_false_iff_eq, Bool.not_eq_true', Bool.not_eq_false', gt_iff_lt, ge_iff_le, Int.not_lt, Int.not_le, Decidable.not_not] at hrb); (try subst hrb); (try (exfalso; omega))))) | (refine kLd 0 rfl rfl (by first | exact T3 | exact T4 | exact T9 | exact T23 | exact T22 | exact T26 | exact T27 | exact T44 | exact T49 | exact T66 | exact T32 | exact T37 | exact T76 | exact T77) rfl ?_) | (refine kLdA 0 rfl rfl (by first | exact T3 | exact T4 | exact T9 | exact T23 | exact T22 | exact T26 | exact T27 | exact T44 | exact T49 | exact T66 | exact T32 | exact T37 | exact T76 | exact T77) (Nat.le_of_ble_eq_true rfl) (by simp only [Lt.cells, Vt.cells, Lt.zero, Vt.zero, kRow, eT, eL, bmt, List.drop_succ_cons, List.drop_zero, List.take_succ_cons, List.take_zero, List.set_cons_zero, List.set_cons_succ]; rfl) ?_))
    | ((with_reducible refine gSt ?_); (first | (refine eSt H rfl rfl ⟨.int _ _, rfl, ?_⟩) | (refine eSt H rfl rfl ⟨.bool _, rfl, ?_⟩) | (refine eSt H rfl rfl ⟨.slice _ _ _, rfl, ?_⟩) | (refine eSt H rfl rfl ⟨.pointer _, rfl, ?_⟩) | (refine eSt H rfl rfl ⟨.string _, rfl, ?_⟩) | (refine eSt H rfl rfl ⟨.agg (List.toArray _), rfl, ?_⟩)); (first | (refine kSt 0 rfl rfl (by first | exact T3 | exact T4 | exact T9 | exact T23 | exact T22 | exact T26 | exact T27 | exact T44 | exact T49 | exact T66 | exact T32 | exact T37 | exact T76 | exact T77) rfl (Nat.le_of_ble_eq_true rfl) ?_) | (refine kStA 0 rfl rfl (by first | exact T3 | exact T4 | exact T9 | exact T23 | exact T22 | exact T26 | exact T27 | exact T44 | exact T49 | exact T66 | exact T32 | exact T37 | exact T76 | exact T77) rfl rfl (Nat.le_of_ble_eq_true rfl) ?_)); clear H; intro w1 H; simp only [List.set_cons_zero, List.set_cons_succ] at H; (try simp only [lay, List.take_zero, List.nil_append, List.length_cons, List.length_nil, Nat.zero_add, Nat.reduceAdd, List.drop_succ_cons, List.drop_zero, List.drop_nil, List.append_nil, List.take_succ_cons, List.cons_append] at H))
    | ((with_reducible refine gBx ?_); refine bxA H rfl rfl rfl ?_; clear H; intro b1 w1 H)
    | ((with_reducible refine gBs ?_); (first | (refine bs1 H rfl (by first | exact S22 | exact S44) rfl (Nat.le_of_ble_eq_true rfl) (Nat.le_of_ble_eq_true rfl) rfl ?_) | (refine wl_buildSlice0 rfl (by first | exact S22 | exact S44) H ?_)); clear H; intro b1 w1 H)
    | ((with_reducible refine gEq ?_); (first | (refine wl_cmp rfl rfl rfl rfl ?_) | (refine wl_scmp rfl rfl rfl rfl ?_)); intro rb hrb; cases rb <;> (first | (exfalso; simp at hrb; done) | ((try simp only [decide_eq_true_eq, decide_eq_false_iff_not, beq_iff_eq, beq_eq_false_iff_ne, ne_eq, bne_iff_ne, bne_eq_false_iff_eq, Bool.not_eq_true', Bool.not_eq_false', gt_iff_lt, ge_iff_le, Int.not_lt, Int.not_le, Decidable.not_not] at hrb); (try subst hrb); (try (exfalso; omega)))))
    | ((with_reducible refine gEq ?_); (first | (refine wl_eqAgg G32 (eq32 9998 ⟨_, _, _, _, _⟩ ⟨_, _, _, _, _⟩) rfl rfl rfl ?_) | (refine wl_neAgg G32 (eq32 9998 ⟨_, _, _, _, _⟩ ⟨_, _, _, _, _⟩) rfl rfl rfl ?_)); intro rb hrb; cases rb <;> (try simp only [Bool.not_true, Bool.not_false]))
    | ((with_reducible refine gEq ?_); (first | (refine wl_eqAgg G37 (eq37 9998 ⟨_, _, _⟩ ⟨_, _, _⟩) rfl rfl rfl ?_) | (refine wl_neAgg G37 (eq37 9998 ⟨_, _, _⟩ ⟨_, _, _⟩) rfl rfl rfl ?_)); intro rb hrb; cases rb <;> (try simp only [Bool.not_true, Bool.not_false]))
    | ((with_reducible refine gAl ?_); (first | (refine al H Z32 rfl rfl ?_) | (refine al H Z37 rfl rfl ?_) | (refine al H Z76 rfl rfl ?_) | (refine al H Z77 rfl rfl ?_)); clear H; intro b1 w1 H)
    | ((with_reducible refine gRg ?_); refine wp_region_text rfl (by decide +kernel) ?_; replace H := H.drew)
    | (refine EndQ.intro (by kernel_rfl) ?_))
      all_goals go_ret
      all_goals (first | exact ⟨_, rfl, (fun h => by first | omega | (exfalso; simp at h; done) | (simp at h; omega)), H⟩ | trace_state)
end Go.Proofs.Ytjmkoojojbfgpaa
