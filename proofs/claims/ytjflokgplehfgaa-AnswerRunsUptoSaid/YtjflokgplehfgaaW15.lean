import Derived.Test.YtjflokgplehfgaaTab
import Derived.Test.YtjflokgplehfgaaQ3
import Derived.Deep.LoopGhost
import Derived.Lib.Hide
import Derived.WalkKit
import Derived.WalkSpells
set_option linter.unusedVariables false
set_option linter.unusedSimpArgs false
namespace Go.Proofs.Ytjflokgplehfgaa
open Go.RowKit Go.Gx Go.Gx.Ans
set_option maxRecDepth 100000

theorem outs_length (l : List Ot) : (outs l).length = l.length * 6 := by
  induction l with
  | nil => rfl
  | cons x l ih => simp only [outs, List.flatMap_cons, List.length_append, List.length_cons] at *; rw [ih]; simp [Ot.cells]; omega
theorem outs_drop (l : List Ot) : ∀ k, (outs l).drop (k * 6) = outs (l.drop k) := by
  induction l with
  | nil => intro k; simp [outs]
  | cons x l ih =>
    intro k
    cases k with
    | zero => simp
    | succ k =>
      have : outs (x :: l) = x.cells ++ outs l := by simp [outs]
      rw [this, List.drop_append, List.drop_succ_cons, ← ih k, List.drop_of_length_le (by simp [Ot.cells]; omega), List.nil_append]
      congr 1; simp [Ot.cells]; omega
theorem outs_at {l : List Ot} {k : Nat} {p : Ot} (h : l[k]? = some p) : ((outs l).drop (k * 6)).take 6 = p.cells := by
  rw [outs_drop]
  obtain ⟨hlt, rfl⟩ := List.getElem?_eq_some_iff.1 h
  rw [List.drop_eq_getElem_cons hlt]
  have : outs (l[k] :: l.drop (k + 1)) = l[k].cells ++ outs (l.drop (k + 1)) := List.flatMap_cons
  rw [this]; simp [Ot.cells]
end Go.Proofs.Ytjflokgplehfgaa
section
open Go.Proofs.Ytjflokgplehfgaa
open Go.RowKit Go.Gx Go.Gx.Ans
set_option maxRecDepth 100000
theorem Go.Gx.Hp.some_of {w0 w : World} {D : Nat → Prop} {L : List Ent} (H : Hp w0 D L w) {i : Nat} {x : Ent} (hi : L[i]? = some x) (h : 0 < x.xs.length) : ∃ b, x.a = some b := by
  have := H.ents i x hi
  unfold Ent.at at this
  cases hx : x.a with
  | none => rw [hx] at this; have h0 := this.1; rw [h0] at h; simp at h
  | some b => exact ⟨b, rfl⟩
end
namespace Go.Proofs.Ytjflokgplehfgaa
open Go.RowKit Go.Gx Go.Gx.Ans
set_option maxRecDepth 100000
set_option maxHeartbeats 4000000 in
theorem Outs_self {w0 w : World} {D : Nat → Prop} {R : List Ent} {a b : Option Nat} {l : List Ot} {c1 c2 n1 n2 : Nat} (hl : l.length ≤ 140737488355328) (H : Hp w0 D (⟨a, outs l, 40, n1⟩ :: ⟨b, outs l, 40, n2⟩ :: R) w)  :
    Calls Try.prog 15 #[.slice (adr a 0) l.length c1, .slice (adr b 0) l.length c2] w fun e w' => e = .returned (.bool true) ∧ Hp w0 D (⟨a, outs l, 40, n1⟩ :: ⟨b, outs l, 40, n2⟩ :: R) w' := by
  have hz := outs_length l
  try simp only [Sta.cells, Lt.cells, Ev.cells, Ot.cells, promise, signature, instead, token, inPh, proved, Lt.zero, kRow]
  go_enter Try.func15, Try.ntmps15
  go_wp2_with (first
    | ((with_reducible refine gLd ?_); refine eLd H rfl rfl ?_; first | (refine kLdB 0 rfl rfl (by first | exact T3 | exact T4 | exact T9 | exact T22 | exact T31 | exact T27 | exact T29 | exact T35 | exact T40 | exact T69 | exact T70) rfl ?_; intro rb hrb; cases rb <;> (first | (exfalso; simp at hrb; done) | ((try simp only [decide_eq_true_eq, decide_eq_false_iff_not, beq_iff_eq, beq_eq_false_iff_ne, ne_eq, bne_iff_ne, bne_eq_false_iff_eq, Bool.not_eq_true', Bool.not_eq_false', gt_iff_lt, ge_iff_le, Int.not_lt, Int.not_le, Decidable.not_not] at hrb); (try subst hrb); (try (exfalso; omega))))) | (refine kLd 0 rfl rfl (by first | exact T3 | exact T4 | exact T9 | exact T22 | exact T31 | exact T27 | exact T29 | exact T35 | exact T40 | exact T69 | exact T70) rfl ?_) | (refine kLdA 0 rfl rfl (by first | exact T3 | exact T4 | exact T9 | exact T22 | exact T31 | exact T27 | exact T29 | exact T35 | exact T40 | exact T69 | exact T70) (Nat.le_of_ble_eq_true rfl) (by simp only [Sta.cells, Lt.cells, Ev.cells, Ot.cells, promise, signature, instead, token, inPh, proved, Lt.zero, kRow, List.drop_succ_cons, List.drop_zero, List.take_succ_cons, List.take_zero, List.set_cons_zero, List.set_cons_succ]; rfl) ?_))
    | ((with_reducible refine gSt ?_); (first | (refine eSt H rfl rfl ⟨.int _ _, rfl, ?_⟩) | (refine eSt H rfl rfl ⟨.bool _, rfl, ?_⟩) | (refine eSt H rfl rfl ⟨.slice _ _ _, rfl, ?_⟩) | (refine eSt H rfl rfl ⟨.pointer _, rfl, ?_⟩) | (refine eSt H rfl rfl ⟨.string _, rfl, ?_⟩) | (refine eSt H rfl rfl ⟨.agg (List.toArray _), rfl, ?_⟩)); (first | (refine kSt 0 rfl rfl (by first | exact T3 | exact T4 | exact T9 | exact T22 | exact T31 | exact T27 | exact T29 | exact T35 | exact T40 | exact T69 | exact T70) rfl (Nat.le_of_ble_eq_true rfl) ?_) | (refine kStA 0 rfl rfl (by first | exact T3 | exact T4 | exact T9 | exact T22 | exact T31 | exact T27 | exact T29 | exact T35 | exact T40 | exact T69 | exact T70) rfl rfl (Nat.le_of_ble_eq_true rfl) ?_)); clear H; intro w1 H; simp only [List.set_cons_zero, List.set_cons_succ] at H; (try simp only [lay, List.take_zero, List.nil_append, List.length_cons, List.length_nil, Nat.zero_add, Nat.reduceAdd, List.drop_succ_cons, List.drop_zero, List.drop_nil, List.append_nil, List.take_succ_cons, List.cons_append] at H))
    | ((with_reducible refine gBx ?_); refine bxA H rfl rfl rfl ?_; clear H; intro b1 w1 H)
    | ((with_reducible refine gBs ?_); (first | (refine bs1 H rfl (by first | exact S31) rfl (Nat.le_of_ble_eq_true rfl) (Nat.le_of_ble_eq_true rfl) rfl ?_) | (refine wl_buildSlice0 rfl (by first | exact S31) H ?_)); clear H; intro b1 w1 H)
    | ((with_reducible refine gEq ?_); (first | (refine wl_cmp rfl rfl rfl rfl ?_) | (refine wl_scmp rfl rfl rfl rfl ?_)); intro rb hrb; cases rb <;> (first | (exfalso; simp at hrb; done) | ((try simp only [decide_eq_true_eq, decide_eq_false_iff_not, beq_iff_eq, beq_eq_false_iff_ne, ne_eq, bne_iff_ne, bne_eq_false_iff_eq, Bool.not_eq_true', Bool.not_eq_false', gt_iff_lt, ge_iff_le, Int.not_lt, Int.not_le, Decidable.not_not] at hrb); (try subst hrb); (try (exfalso; omega)))))
    | ((with_reducible refine gEq ?_); (first | (refine wl_eqAgg G27 (eq27 9998 ⟨_, _, _, _, _⟩ ⟨_, _, _, _, _⟩) rfl rfl rfl ?_) | (refine wl_neAgg G27 (eq27 9998 ⟨_, _, _, _, _⟩ ⟨_, _, _, _, _⟩) rfl rfl rfl ?_)); intro rb hrb; cases rb <;> (try simp only [Bool.not_true, Bool.not_false]))
    | ((with_reducible refine gEq ?_); (first | (refine wl_eqAgg G29 (eq29 9997 ⟨_, _, _, _, ⟨_, _, _, _, _⟩⟩ ⟨_, _, _, _, ⟨_, _, _, _, _⟩⟩) rfl rfl rfl ?_) | (refine wl_neAgg G29 (eq29 9997 ⟨_, _, _, _, ⟨_, _, _, _, _⟩⟩ ⟨_, _, _, _, ⟨_, _, _, _, _⟩⟩) rfl rfl rfl ?_)); intro rb hrb; cases rb <;> (try simp only [Bool.not_true, Bool.not_false]))
    | ((with_reducible refine gEq ?_); (first | (refine wl_eqAgg G40 (eq40 9997 ⟨_, ⟨_, _, _, _, _⟩⟩ ⟨_, ⟨_, _, _, _, _⟩⟩) rfl rfl rfl ?_) | (refine wl_neAgg G40 (eq40 9997 ⟨_, ⟨_, _, _, _, _⟩⟩ ⟨_, ⟨_, _, _, _, _⟩⟩) rfl rfl rfl ?_)); intro rb hrb; cases rb <;> (try simp only [Bool.not_true, Bool.not_false]))
    | ((with_reducible refine gAl ?_); (first | (refine al H Z27 rfl rfl ?_) | (refine al H Z29 rfl rfl ?_) | (refine al H Z69 rfl rfl ?_) | (refine al H Z70 rfl rfl ?_)); clear H; intro b1 w1 H)
    | ((with_reducible refine gRg ?_); refine wp_region_text rfl (by decide +kernel) ?_; replace H := H.drew)
    | (refine EndQ.intro (by kernel_rfl) ?_))
  go_loopg [5] l.length (fun n v wr => ∃ k : Nat, k + n = l.length ∧ v = .int .i64 k ∧ Hp w0 D (⟨a, outs l, 40, n1⟩ :: ⟨b, outs l, 40, n2⟩ :: R) wr)
  case atStart => exact ⟨0, by omega, rfl, H⟩
  case round =>
    clear H
    obtain ⟨k, hkn, rfl, H⟩ := hrel
    by_cases hk : k < l.length
    · have hg : 0 < gk := by omega
      have HK := Lib.hid hkn
      clear hkn
      obtain ⟨a1, rfl⟩ := H.some_of (i := 0) rfl (by rw [hz]; omega)
      obtain ⟨b1, rfl⟩ := H.some_of (i := 1) rfl (by rw [hz]; omega)
      obtain ⟨⟨q0, ⟨q1, q2, q3, q4, q5⟩⟩, hp⟩ : ∃ q, l[k]? = some q := ⟨_, List.getElem?_eq_getElem hk⟩
      go_wp2_with (first
    | (first | ((with_reducible refine gLd ?_); refine eLd H rfl rfl ?_; refine kLdA 0 rfl rfl T40 (by rw [hz]; omega) (outs_at hp) ?_; simp only [Ot.cells]) | ((with_reducible refine gLd ?_); refine eLd H rfl rfl ?_; refine kLdA 1 rfl rfl T40 (by rw [hz]; omega) (outs_at hp) ?_; simp only [Ot.cells]))
    | ((with_reducible refine gLd ?_); refine eLd H rfl rfl ?_; first | (refine kLdB 0 rfl rfl (by first | exact T3 | exact T4 | exact T9 | exact T22 | exact T31 | exact T27 | exact T29 | exact T35 | exact T40 | exact T69 | exact T70) rfl ?_; intro rb hrb; cases rb <;> (first | (exfalso; simp at hrb; done) | ((try simp only [decide_eq_true_eq, decide_eq_false_iff_not, beq_iff_eq, beq_eq_false_iff_ne, ne_eq, bne_iff_ne, bne_eq_false_iff_eq, Bool.not_eq_true', Bool.not_eq_false', gt_iff_lt, ge_iff_le, Int.not_lt, Int.not_le, Decidable.not_not] at hrb); (try subst hrb); (try (exfalso; omega))))) | (refine kLd 0 rfl rfl (by first | exact T3 | exact T4 | exact T9 | exact T22 | exact T31 | exact T27 | exact T29 | exact T35 | exact T40 | exact T69 | exact T70) rfl ?_) | (refine kLdA 0 rfl rfl (by first | exact T3 | exact T4 | exact T9 | exact T22 | exact T31 | exact T27 | exact T29 | exact T35 | exact T40 | exact T69 | exact T70) (Nat.le_of_ble_eq_true rfl) (by simp only [Sta.cells, Lt.cells, Ev.cells, Ot.cells, promise, signature, instead, token, inPh, proved, Lt.zero, kRow, List.drop_succ_cons, List.drop_zero, List.take_succ_cons, List.take_zero, List.set_cons_zero, List.set_cons_succ]; rfl) ?_))
    | ((with_reducible refine gSt ?_); (first | (refine eSt H rfl rfl ⟨.int _ _, rfl, ?_⟩) | (refine eSt H rfl rfl ⟨.bool _, rfl, ?_⟩) | (refine eSt H rfl rfl ⟨.slice _ _ _, rfl, ?_⟩) | (refine eSt H rfl rfl ⟨.pointer _, rfl, ?_⟩) | (refine eSt H rfl rfl ⟨.string _, rfl, ?_⟩) | (refine eSt H rfl rfl ⟨.agg (List.toArray _), rfl, ?_⟩)); (first | (refine kSt 0 rfl rfl (by first | exact T3 | exact T4 | exact T9 | exact T22 | exact T31 | exact T27 | exact T29 | exact T35 | exact T40 | exact T69 | exact T70) rfl (Nat.le_of_ble_eq_true rfl) ?_) | (refine kStA 0 rfl rfl (by first | exact T3 | exact T4 | exact T9 | exact T22 | exact T31 | exact T27 | exact T29 | exact T35 | exact T40 | exact T69 | exact T70) rfl rfl (Nat.le_of_ble_eq_true rfl) ?_)); clear H; intro w1 H; simp only [List.set_cons_zero, List.set_cons_succ] at H; (try simp only [lay, List.take_zero, List.nil_append, List.length_cons, List.length_nil, Nat.zero_add, Nat.reduceAdd, List.drop_succ_cons, List.drop_zero, List.drop_nil, List.append_nil, List.take_succ_cons, List.cons_append] at H))
    | ((with_reducible refine gBx ?_); refine bxA H rfl rfl rfl ?_; clear H; intro b1 w1 H)
    | ((with_reducible refine gBs ?_); (first | (refine bs1 H rfl (by first | exact S31) rfl (Nat.le_of_ble_eq_true rfl) (Nat.le_of_ble_eq_true rfl) rfl ?_) | (refine wl_buildSlice0 rfl (by first | exact S31) H ?_)); clear H; intro b1 w1 H)
    | ((with_reducible refine gEq ?_); (first | (refine wl_cmp rfl rfl rfl rfl ?_) | (refine wl_scmp rfl rfl rfl rfl ?_)); intro rb hrb; cases rb <;> (first | (exfalso; simp at hrb; done) | ((try simp only [decide_eq_true_eq, decide_eq_false_iff_not, beq_iff_eq, beq_eq_false_iff_ne, ne_eq, bne_iff_ne, bne_eq_false_iff_eq, Bool.not_eq_true', Bool.not_eq_false', gt_iff_lt, ge_iff_le, Int.not_lt, Int.not_le, Decidable.not_not] at hrb); (try subst hrb); (try (exfalso; omega)))))
    | ((with_reducible refine gEq ?_); (first | (refine wl_eqAgg G27 (eq27 9998 ⟨_, _, _, _, _⟩ ⟨_, _, _, _, _⟩) rfl rfl rfl ?_) | (refine wl_neAgg G27 (eq27 9998 ⟨_, _, _, _, _⟩ ⟨_, _, _, _, _⟩) rfl rfl rfl ?_)); intro rb hrb; cases rb <;> (try simp only [Bool.not_true, Bool.not_false]))
    | ((with_reducible refine gEq ?_); (first | (refine wl_eqAgg G29 (eq29 9997 ⟨_, _, _, _, ⟨_, _, _, _, _⟩⟩ ⟨_, _, _, _, ⟨_, _, _, _, _⟩⟩) rfl rfl rfl ?_) | (refine wl_neAgg G29 (eq29 9997 ⟨_, _, _, _, ⟨_, _, _, _, _⟩⟩ ⟨_, _, _, _, ⟨_, _, _, _, _⟩⟩) rfl rfl rfl ?_)); intro rb hrb; cases rb <;> (try simp only [Bool.not_true, Bool.not_false]))
    | ((with_reducible refine gEq ?_); (first | (refine wl_eqAgg G40 (eq40 9997 ⟨_, ⟨_, _, _, _, _⟩⟩ ⟨_, ⟨_, _, _, _, _⟩⟩) rfl rfl rfl ?_) | (refine wl_neAgg G40 (eq40 9997 ⟨_, ⟨_, _, _, _, _⟩⟩ ⟨_, ⟨_, _, _, _, _⟩⟩) rfl rfl rfl ?_)); intro rb hrb; cases rb <;> (try simp only [Bool.not_true, Bool.not_false]))
    | ((with_reducible refine gAl ?_); (first | (refine al H Z27 rfl rfl ?_) | (refine al H Z29 rfl rfl ?_) | (refine al H Z69 rfl rfl ?_) | (refine al H Z70 rfl rfl ?_)); clear H; intro b1 w1 H)
    | ((with_reducible refine gRg ?_); refine wp_region_text rfl (by decide +kernel) ?_; replace H := H.drew)
    | (refine EndQ.intro (by kernel_rfl) ?_))
      any_goals go_roundg (gk - 1)
      all_goals first
        | omega
        | exact ⟨k + 1, by have := HK.out; omega, by go_num, H⟩
        | (exfalso; rw [Ot.beq_iff.2 rfl] at hrb; cases hrb; done)
    · have hk2 : l.length ≤ k := by omega
      clear hkn hk
      go_wp2_with (first
    | ((with_reducible refine gLd ?_); refine eLd H rfl rfl ?_; first | (refine kLdB 0 rfl rfl (by first | exact T3 | exact T4 | exact T9 | exact T22 | exact T31 | exact T27 | exact T29 | exact T35 | exact T40 | exact T69 | exact T70) rfl ?_; intro rb hrb; cases rb <;> (first | (exfalso; simp at hrb; done) | ((try simp only [decide_eq_true_eq, decide_eq_false_iff_not, beq_iff_eq, beq_eq_false_iff_ne, ne_eq, bne_iff_ne, bne_eq_false_iff_eq, Bool.not_eq_true', Bool.not_eq_false', gt_iff_lt, ge_iff_le, Int.not_lt, Int.not_le, Decidable.not_not] at hrb); (try subst hrb); (try (exfalso; omega))))) | (refine kLd 0 rfl rfl (by first | exact T3 | exact T4 | exact T9 | exact T22 | exact T31 | exact T27 | exact T29 | exact T35 | exact T40 | exact T69 | exact T70) rfl ?_) | (refine kLdA 0 rfl rfl (by first | exact T3 | exact T4 | exact T9 | exact T22 | exact T31 | exact T27 | exact T29 | exact T35 | exact T40 | exact T69 | exact T70) (Nat.le_of_ble_eq_true rfl) (by simp only [Sta.cells, Lt.cells, Ev.cells, Ot.cells, promise, signature, instead, token, inPh, proved, Lt.zero, kRow, List.drop_succ_cons, List.drop_zero, List.take_succ_cons, List.take_zero, List.set_cons_zero, List.set_cons_succ]; rfl) ?_))
    | ((with_reducible refine gSt ?_); (first | (refine eSt H rfl rfl ⟨.int _ _, rfl, ?_⟩) | (refine eSt H rfl rfl ⟨.bool _, rfl, ?_⟩) | (refine eSt H rfl rfl ⟨.slice _ _ _, rfl, ?_⟩) | (refine eSt H rfl rfl ⟨.pointer _, rfl, ?_⟩) | (refine eSt H rfl rfl ⟨.string _, rfl, ?_⟩) | (refine eSt H rfl rfl ⟨.agg (List.toArray _), rfl, ?_⟩)); (first | (refine kSt 0 rfl rfl (by first | exact T3 | exact T4 | exact T9 | exact T22 | exact T31 | exact T27 | exact T29 | exact T35 | exact T40 | exact T69 | exact T70) rfl (Nat.le_of_ble_eq_true rfl) ?_) | (refine kStA 0 rfl rfl (by first | exact T3 | exact T4 | exact T9 | exact T22 | exact T31 | exact T27 | exact T29 | exact T35 | exact T40 | exact T69 | exact T70) rfl rfl (Nat.le_of_ble_eq_true rfl) ?_)); clear H; intro w1 H; simp only [List.set_cons_zero, List.set_cons_succ] at H; (try simp only [lay, List.take_zero, List.nil_append, List.length_cons, List.length_nil, Nat.zero_add, Nat.reduceAdd, List.drop_succ_cons, List.drop_zero, List.drop_nil, List.append_nil, List.take_succ_cons, List.cons_append] at H))
    | ((with_reducible refine gBx ?_); refine bxA H rfl rfl rfl ?_; clear H; intro b1 w1 H)
    | ((with_reducible refine gBs ?_); (first | (refine bs1 H rfl (by first | exact S31) rfl (Nat.le_of_ble_eq_true rfl) (Nat.le_of_ble_eq_true rfl) rfl ?_) | (refine wl_buildSlice0 rfl (by first | exact S31) H ?_)); clear H; intro b1 w1 H)
    | ((with_reducible refine gEq ?_); (first | (refine wl_cmp rfl rfl rfl rfl ?_) | (refine wl_scmp rfl rfl rfl rfl ?_)); intro rb hrb; cases rb <;> (first | (exfalso; simp at hrb; done) | ((try simp only [decide_eq_true_eq, decide_eq_false_iff_not, beq_iff_eq, beq_eq_false_iff_ne, ne_eq, bne_iff_ne, bne_eq_false_iff_eq, Bool.not_eq_true', Bool.not_eq_false', gt_iff_lt, ge_iff_le, Int.not_lt, Int.not_le, Decidable.not_not] at hrb); (try subst hrb); (try (exfalso; omega)))))
    | ((with_reducible refine gEq ?_); (first | (refine wl_eqAgg G27 (eq27 9998 ⟨_, _, _, _, _⟩ ⟨_, _, _, _, _⟩) rfl rfl rfl ?_) | (refine wl_neAgg G27 (eq27 9998 ⟨_, _, _, _, _⟩ ⟨_, _, _, _, _⟩) rfl rfl rfl ?_)); intro rb hrb; cases rb <;> (try simp only [Bool.not_true, Bool.not_false]))
    | ((with_reducible refine gEq ?_); (first | (refine wl_eqAgg G29 (eq29 9997 ⟨_, _, _, _, ⟨_, _, _, _, _⟩⟩ ⟨_, _, _, _, ⟨_, _, _, _, _⟩⟩) rfl rfl rfl ?_) | (refine wl_neAgg G29 (eq29 9997 ⟨_, _, _, _, ⟨_, _, _, _, _⟩⟩ ⟨_, _, _, _, ⟨_, _, _, _, _⟩⟩) rfl rfl rfl ?_)); intro rb hrb; cases rb <;> (try simp only [Bool.not_true, Bool.not_false]))
    | ((with_reducible refine gEq ?_); (first | (refine wl_eqAgg G40 (eq40 9997 ⟨_, ⟨_, _, _, _, _⟩⟩ ⟨_, ⟨_, _, _, _, _⟩⟩) rfl rfl rfl ?_) | (refine wl_neAgg G40 (eq40 9997 ⟨_, ⟨_, _, _, _, _⟩⟩ ⟨_, ⟨_, _, _, _, _⟩⟩) rfl rfl rfl ?_)); intro rb hrb; cases rb <;> (try simp only [Bool.not_true, Bool.not_false]))
    | ((with_reducible refine gAl ?_); (first | (refine al H Z27 rfl rfl ?_) | (refine al H Z29 rfl rfl ?_) | (refine al H Z69 rfl rfl ?_) | (refine al H Z70 rfl rfl ?_)); clear H; intro b1 w1 H)
    | ((with_reducible refine gRg ?_); refine wp_region_text rfl (by decide +kernel) ?_; replace H := H.drew)
    | (refine EndQ.intro (by kernel_rfl) ?_))
      all_goals go_ret
      all_goals exact ⟨rfl, H⟩
end Go.Proofs.Ytjflokgplehfgaa
