/- What functions of layer 2 compute. -/
import Derived.Test.YtfcmjddpoacenaaW2
import Derived.WalkKit
import Derived.Lib.Hide
import Derived.Deep.LoopGhost
import Derived.WalkSpells
set_option linter.unusedVariables false
set_option linter.unusedSimpArgs false
namespace Go.Proofs.Ytfcmjddpoacenaa
open Go.RowKit Go.Gx Go.Gx.Dsk
set_option maxRecDepth 100000
theorem tooLong_false {l : List ByteArray} (h : tooLong l = false) {k : Nat} {s : ByteArray} (hk : l[k]? = some s) : s.size ≤ 1024 := by
  have := List.any_eq_false.1 h s (List.mem_of_getElem? hk)
  simp only [decide_eq_true_eq] at this
  omega
theorem tooLong_none {l : List ByteArray} (h : ∀ j < l.length, ∀ s, l[j]? = some s → s.size ≤ 1024) : tooLong l = false := by
  refine List.any_eq_false.2 fun s hs => ?_
  obtain ⟨j, hj, rfl⟩ := List.mem_iff_getElem.1 hs
  have := h j hj _ (List.getElem?_eq_getElem hj)
  simp only [decide_eq_true_eq]
  omega
theorem szext {l : List ByteArray} {k : Nat} {s : ByteArray} (h : ∀ j < k, ∀ s, l[j]? = some s → s.size ≤ 1024) (hk : l[k]? = some s) (hs : s.size ≤ 1024) : ∀ j < k + 1, ∀ s, l[j]? = some s → s.size ≤ 1024 := by
  intro j hj s' h'
  by_cases e : j = k
  · subst e; rw [hk] at h'; cases h'; exact hs
  · exact h j (by omega) s' h'
set_option maxHeartbeats 4000000 in
theorem Load_ok {w0 w : World} {D : Nat → Prop} {R : List Ent} {x : Option Addr} {c : Nat} {l : List ByteArray} (H : Hp w0 D (R) w) (hX : Rd w0 D R x (strs l)) (h1 : 1 ≤ l.length) (h2 : l.length ≤ 4096) (h3 : tooLong l = false) :
    Calls Try.prog 14 #[.slice x l.length c] w fun e w' => ∃ p f b cf cb, e = .returned (.tuple #[.pointer (some ⟨p, 0, none⟩), .int .i64 0]) ∧ Hp w0 D (eD 72 p f b none cf cb 0 (Dk.made l) :: eS f cf (Dk.made l).first :: eS b cb (Dk.made l).now :: eW none 0 (Dk.made l).log :: R) w' := by
  have HX := Lib.hid hX
  have H3 := Lib.hid h3
  clear hX h3
  try simp only [dkC, Wr.cells, bmt, eD, eS, eW] at H
  go_enter Try.func14, Try.ntmps14
  go_wp2_with (first
    | ((with_reducible refine gLd ?_); refine eLd H rfl rfl ?_; first | (refine kLdB 0 rfl rfl (by first | exact T3 | exact T4 | exact T9 | exact T23 | exact T27 | exact T31 | exact T33 | exact T45 | exact T37 | exact T41 | exact T50 | exact T52 | exact T69 | exact T72) rfl ?_; intro rb hrb; cases rb <;> (first | (exfalso; simp at hrb; done) | ((try simp only [decide_eq_true_eq, decide_eq_false_iff_not, beq_iff_eq, beq_eq_false_iff_ne, ne_eq, bne_iff_ne, bne_eq_false_iff_eq, Bool.not_eq_true', Bool.not_eq_false', gt_iff_lt, ge_iff_le, Int.not_lt, Int.not_le, Decidable.not_not] at hrb); (try subst hrb); (try (exfalso; omega))))) | (refine kLd 0 rfl rfl (by first | exact T3 | exact T4 | exact T9 | exact T23 | exact T27 | exact T31 | exact T33 | exact T45 | exact T37 | exact T41 | exact T50 | exact T52 | exact T69 | exact T72) rfl ?_) | (refine kLdA 0 rfl rfl (by first | exact T3 | exact T4 | exact T9 | exact T23 | exact T27 | exact T31 | exact T33 | exact T45 | exact T37 | exact T41 | exact T50 | exact T52 | exact T69 | exact T72) (Nat.le_of_ble_eq_true rfl) (by simp only [dkC, Wr.cells, bmt, eD, eS, eW, List.drop_succ_cons, List.drop_zero, List.take_succ_cons, List.take_zero, List.set_cons_zero, List.set_cons_succ]; rfl) ?_))
    | ((with_reducible refine gSt ?_); (first | (refine eSt H rfl rfl ⟨.int _ _, rfl, ?_⟩) | (refine eSt H rfl rfl ⟨.bool _, rfl, ?_⟩) | (refine eSt H rfl rfl ⟨.slice _ _ _, rfl, ?_⟩) | (refine eSt H rfl rfl ⟨.pointer _, rfl, ?_⟩) | (refine eSt H rfl rfl ⟨.string _, rfl, ?_⟩) | (refine eSt H rfl rfl ⟨.agg (List.toArray _), rfl, ?_⟩)); (first | (refine kSt 0 rfl rfl (by first | exact T3 | exact T4 | exact T9 | exact T23 | exact T27 | exact T31 | exact T33 | exact T45 | exact T37 | exact T41 | exact T50 | exact T52 | exact T69 | exact T72) rfl (Nat.le_of_ble_eq_true rfl) ?_) | (refine kStA 0 rfl rfl (by first | exact T3 | exact T4 | exact T9 | exact T23 | exact T27 | exact T31 | exact T33 | exact T45 | exact T37 | exact T41 | exact T50 | exact T52 | exact T69 | exact T72) rfl rfl (Nat.le_of_ble_eq_true rfl) ?_)); clear H; intro w1 H; simp only [List.set_cons_zero, List.set_cons_succ] at H; (try simp only [lay, List.take_zero, List.nil_append, List.length_cons, List.length_nil, Nat.zero_add, Nat.reduceAdd, List.drop_succ_cons, List.drop_zero, List.drop_nil, List.append_nil, List.take_succ_cons, List.cons_append] at H))
    | ((with_reducible refine gBx ?_); refine bxA H rfl rfl rfl ?_; clear H; intro b1 w1 H)
    | ((with_reducible refine gBs ?_); (first | (refine bs1 H rfl (by first | exact S33 | exact S45 | exact S31) rfl (Nat.le_of_ble_eq_true rfl) (Nat.le_of_ble_eq_true rfl) rfl ?_) | (refine wl_buildSlice0 rfl (by first | exact S33 | exact S45 | exact S31) H ?_)); clear H; intro b1 w1 H)
    | ((with_reducible refine gEq ?_); (first | (refine wl_cmp rfl rfl rfl rfl ?_) | (refine wl_scmp rfl rfl rfl rfl ?_)); intro rb hrb; cases rb <;> (first | (exfalso; simp at hrb; done) | ((try simp only [decide_eq_true_eq, decide_eq_false_iff_not, beq_iff_eq, beq_eq_false_iff_ne, ne_eq, bne_iff_ne, bne_eq_false_iff_eq, Bool.not_eq_true', Bool.not_eq_false', gt_iff_lt, ge_iff_le, Int.not_lt, Int.not_le, Decidable.not_not] at hrb); (try subst hrb); (try (exfalso; omega)))))
    | ((with_reducible refine gEq ?_); (first | (refine wl_eqAgg G50 (eq50 9998 ⟨_, _⟩ ⟨_, _⟩) rfl rfl rfl ?_) | (refine wl_neAgg G50 (eq50 9998 ⟨_, _⟩ ⟨_, _⟩) rfl rfl rfl ?_)); intro rb hrb; cases rb <;> (try simp only [Bool.not_true, Bool.not_false]))
    | ((with_reducible refine gAl ?_); (first | (refine al H Z50 rfl rfl ?_) | (refine al H Z41 rfl rfl ?_)); clear H; intro b1 w1 H)
    | ((with_reducible refine gRg ?_); refine wp_region_text rfl (by decide +kernel) ?_; replace H := H.drew)
    | ((with_reducible refine EndQ.intro ?_ ?_); (· kernel_rfl)))
  go_loopg [16] l.length (fun n v wr => ∃ k : Nat, k + n = l.length ∧ v = .int .i64 k ∧ (∀ j < k, ∀ s, l[j]? = some s → s.size ≤ 1024) ∧ Hp w0 D R wr)
  case atStart => exact ⟨0, by omega, rfl, (fun j hj => absurd hj (Nat.not_lt_zero _)), H⟩
  case round =>
    clear H
    obtain ⟨k, hkn, rfl, hno, H⟩ := hrel
    have HN := Lib.hid hno
    clear hno
    by_cases hk : k < l.length
    · have hg : 0 < gk := by omega
      have HK := Lib.hid hkn
      clear hkn
      obtain ⟨b1, o1, rfl, hA⟩ := HX.out.some_of (by simp; omega)
      obtain ⟨s1, hp⟩ : ∃ q, l[k]? = some q := ⟨_, List.getElem?_eq_getElem hk⟩
      have HP := Lib.hid hp
      have HA := Lib.hid hA
      clear hp hA
      have hs1 := tooLong_false H3.out HP.out
      go_wp2_with (first
    | ((with_reducible refine gLd ?_); refine wl_loadR (k := k) (HA.out [] _ H) rfl rfl (by first | rfl | omega) T9 (strs_at HP.out) ?_)
    | ((with_reducible refine gLd ?_); refine eLd H rfl rfl ?_; first | (refine kLdB 0 rfl rfl (by first | exact T3 | exact T4 | exact T9 | exact T23 | exact T27 | exact T31 | exact T33 | exact T45 | exact T37 | exact T41 | exact T50 | exact T52 | exact T69 | exact T72) rfl ?_; intro rb hrb; cases rb <;> (first | (exfalso; simp at hrb; done) | ((try simp only [decide_eq_true_eq, decide_eq_false_iff_not, beq_iff_eq, beq_eq_false_iff_ne, ne_eq, bne_iff_ne, bne_eq_false_iff_eq, Bool.not_eq_true', Bool.not_eq_false', gt_iff_lt, ge_iff_le, Int.not_lt, Int.not_le, Decidable.not_not] at hrb); (try subst hrb); (try (exfalso; omega))))) | (refine kLd 0 rfl rfl (by first | exact T3 | exact T4 | exact T9 | exact T23 | exact T27 | exact T31 | exact T33 | exact T45 | exact T37 | exact T41 | exact T50 | exact T52 | exact T69 | exact T72) rfl ?_) | (refine kLdA 0 rfl rfl (by first | exact T3 | exact T4 | exact T9 | exact T23 | exact T27 | exact T31 | exact T33 | exact T45 | exact T37 | exact T41 | exact T50 | exact T52 | exact T69 | exact T72) (Nat.le_of_ble_eq_true rfl) (by simp only [dkC, Wr.cells, bmt, eD, eS, eW, List.drop_succ_cons, List.drop_zero, List.take_succ_cons, List.take_zero, List.set_cons_zero, List.set_cons_succ]; rfl) ?_))
    | ((with_reducible refine gSt ?_); (first | (refine eSt H rfl rfl ⟨.int _ _, rfl, ?_⟩) | (refine eSt H rfl rfl ⟨.bool _, rfl, ?_⟩) | (refine eSt H rfl rfl ⟨.slice _ _ _, rfl, ?_⟩) | (refine eSt H rfl rfl ⟨.pointer _, rfl, ?_⟩) | (refine eSt H rfl rfl ⟨.string _, rfl, ?_⟩) | (refine eSt H rfl rfl ⟨.agg (List.toArray _), rfl, ?_⟩)); (first | (refine kSt 0 rfl rfl (by first | exact T3 | exact T4 | exact T9 | exact T23 | exact T27 | exact T31 | exact T33 | exact T45 | exact T37 | exact T41 | exact T50 | exact T52 | exact T69 | exact T72) rfl (Nat.le_of_ble_eq_true rfl) ?_) | (refine kStA 0 rfl rfl (by first | exact T3 | exact T4 | exact T9 | exact T23 | exact T27 | exact T31 | exact T33 | exact T45 | exact T37 | exact T41 | exact T50 | exact T52 | exact T69 | exact T72) rfl rfl (Nat.le_of_ble_eq_true rfl) ?_)); clear H; intro w1 H; simp only [List.set_cons_zero, List.set_cons_succ] at H; (try simp only [lay, List.take_zero, List.nil_append, List.length_cons, List.length_nil, Nat.zero_add, Nat.reduceAdd, List.drop_succ_cons, List.drop_zero, List.drop_nil, List.append_nil, List.take_succ_cons, List.cons_append] at H))
    | ((with_reducible refine gBx ?_); refine bxA H rfl rfl rfl ?_; clear H; intro b1 w1 H)
    | ((with_reducible refine gBs ?_); (first | (refine bs1 H rfl (by first | exact S33 | exact S45 | exact S31) rfl (Nat.le_of_ble_eq_true rfl) (Nat.le_of_ble_eq_true rfl) rfl ?_) | (refine wl_buildSlice0 rfl (by first | exact S33 | exact S45 | exact S31) H ?_)); clear H; intro b1 w1 H)
    | ((with_reducible refine gEq ?_); (first | (refine wl_cmp rfl rfl rfl rfl ?_) | (refine wl_scmp rfl rfl rfl rfl ?_)); intro rb hrb; cases rb <;> (first | (exfalso; simp at hrb; done) | ((try simp only [decide_eq_true_eq, decide_eq_false_iff_not, beq_iff_eq, beq_eq_false_iff_ne, ne_eq, bne_iff_ne, bne_eq_false_iff_eq, Bool.not_eq_true', Bool.not_eq_false', gt_iff_lt, ge_iff_le, Int.not_lt, Int.not_le, Decidable.not_not] at hrb); (try subst hrb); (try (exfalso; omega)))))
    | ((with_reducible refine gEq ?_); (first | (refine wl_eqAgg G50 (eq50 9998 ⟨_, _⟩ ⟨_, _⟩) rfl rfl rfl ?_) | (refine wl_neAgg G50 (eq50 9998 ⟨_, _⟩ ⟨_, _⟩) rfl rfl rfl ?_)); intro rb hrb; cases rb <;> (try simp only [Bool.not_true, Bool.not_false]))
    | ((with_reducible refine gAl ?_); (first | (refine al H Z50 rfl rfl ?_) | (refine al H Z41 rfl rfl ?_)); clear H; intro b1 w1 H)
    | ((with_reducible refine gRg ?_); refine wp_region_text rfl (by decide +kernel) ?_; replace H := H.drew)
    | ((with_reducible refine EndQ.intro ?_ ?_); (· kernel_rfl)))
      any_goals go_roundg (gk - 1)
      all_goals first
        | omega
        | (refine ⟨k + 1, ?_, ?_, szext HN.out HP.out hs1, H⟩; (· have := HK.out; omega); (· go_num))
    · clear hkn
      go_wp2_with (first
    | (go_at_call 36; (first | refine (CloneS_spec H (HX.out.push []) (by omega)).mono ?_ | refine (CloneS_spec H (HX.out.push [_]) (by omega)).mono ?_); rintro e w1 ⟨a1, k1, rfl, H1⟩; clear H; have H := H1; clear H1; simp only [eS] at H)
    | ((with_reducible refine gLd ?_); refine eLd H rfl rfl ?_; first | (refine kLdB 0 rfl rfl (by first | exact T3 | exact T4 | exact T9 | exact T23 | exact T27 | exact T31 | exact T33 | exact T45 | exact T37 | exact T41 | exact T50 | exact T52 | exact T69 | exact T72) rfl ?_; intro rb hrb; cases rb <;> (first | (exfalso; simp at hrb; done) | ((try simp only [decide_eq_true_eq, decide_eq_false_iff_not, beq_iff_eq, beq_eq_false_iff_ne, ne_eq, bne_iff_ne, bne_eq_false_iff_eq, Bool.not_eq_true', Bool.not_eq_false', gt_iff_lt, ge_iff_le, Int.not_lt, Int.not_le, Decidable.not_not] at hrb); (try subst hrb); (try (exfalso; omega))))) | (refine kLdB 1 rfl rfl (by first | exact T3 | exact T4 | exact T9 | exact T23 | exact T27 | exact T31 | exact T33 | exact T45 | exact T37 | exact T41 | exact T50 | exact T52 | exact T69 | exact T72) rfl ?_; intro rb hrb; cases rb <;> (first | (exfalso; simp at hrb; done) | ((try simp only [decide_eq_true_eq, decide_eq_false_iff_not, beq_iff_eq, beq_eq_false_iff_ne, ne_eq, bne_iff_ne, bne_eq_false_iff_eq, Bool.not_eq_true', Bool.not_eq_false', gt_iff_lt, ge_iff_le, Int.not_lt, Int.not_le, Decidable.not_not] at hrb); (try subst hrb); (try (exfalso; omega))))) | (refine kLd 0 rfl rfl (by first | exact T3 | exact T4 | exact T9 | exact T23 | exact T27 | exact T31 | exact T33 | exact T45 | exact T37 | exact T41 | exact T50 | exact T52 | exact T69 | exact T72) rfl ?_) | (refine kLd 1 rfl rfl (by first | exact T3 | exact T4 | exact T9 | exact T23 | exact T27 | exact T31 | exact T33 | exact T45 | exact T37 | exact T41 | exact T50 | exact T52 | exact T69 | exact T72) rfl ?_) | (refine kLdA 0 rfl rfl (by first | exact T3 | exact T4 | exact T9 | exact T23 | exact T27 | exact T31 | exact T33 | exact T45 | exact T37 | exact T41 | exact T50 | exact T52 | exact T69 | exact T72) (Nat.le_of_ble_eq_true rfl) (by simp only [dkC, Wr.cells, bmt, eD, eS, eW, List.drop_succ_cons, List.drop_zero, List.take_succ_cons, List.take_zero, List.set_cons_zero, List.set_cons_succ]; rfl) ?_) | (refine kLdA 1 rfl rfl (by first | exact T3 | exact T4 | exact T9 | exact T23 | exact T27 | exact T31 | exact T33 | exact T45 | exact T37 | exact T41 | exact T50 | exact T52 | exact T69 | exact T72) (Nat.le_of_ble_eq_true rfl) (by simp only [dkC, Wr.cells, bmt, eD, eS, eW, List.drop_succ_cons, List.drop_zero, List.take_succ_cons, List.take_zero, List.set_cons_zero, List.set_cons_succ]; rfl) ?_))
    | ((with_reducible refine gSt ?_); (first | (refine eSt H rfl rfl ⟨.int _ _, rfl, ?_⟩) | (refine eSt H rfl rfl ⟨.bool _, rfl, ?_⟩) | (refine eSt H rfl rfl ⟨.slice _ _ _, rfl, ?_⟩) | (refine eSt H rfl rfl ⟨.pointer _, rfl, ?_⟩) | (refine eSt H rfl rfl ⟨.string _, rfl, ?_⟩) | (refine eSt H rfl rfl ⟨.agg (List.toArray _), rfl, ?_⟩)); (first | (refine kSt 0 rfl rfl (by first | exact T3 | exact T4 | exact T9 | exact T23 | exact T27 | exact T31 | exact T33 | exact T45 | exact T37 | exact T41 | exact T50 | exact T52 | exact T69 | exact T72) rfl (Nat.le_of_ble_eq_true rfl) ?_) | (refine kSt 1 rfl rfl (by first | exact T3 | exact T4 | exact T9 | exact T23 | exact T27 | exact T31 | exact T33 | exact T45 | exact T37 | exact T41 | exact T50 | exact T52 | exact T69 | exact T72) rfl (Nat.le_of_ble_eq_true rfl) ?_) | (refine kStA 0 rfl rfl (by first | exact T3 | exact T4 | exact T9 | exact T23 | exact T27 | exact T31 | exact T33 | exact T45 | exact T37 | exact T41 | exact T50 | exact T52 | exact T69 | exact T72) rfl rfl (Nat.le_of_ble_eq_true rfl) ?_) | (refine kStA 1 rfl rfl (by first | exact T3 | exact T4 | exact T9 | exact T23 | exact T27 | exact T31 | exact T33 | exact T45 | exact T37 | exact T41 | exact T50 | exact T52 | exact T69 | exact T72) rfl rfl (Nat.le_of_ble_eq_true rfl) ?_)); clear H; intro w1 H; simp only [List.set_cons_zero, List.set_cons_succ] at H; (try simp only [lay, List.take_zero, List.nil_append, List.length_cons, List.length_nil, Nat.zero_add, Nat.reduceAdd, List.drop_succ_cons, List.drop_zero, List.drop_nil, List.append_nil, List.take_succ_cons, List.cons_append] at H))
    | ((with_reducible refine gBx ?_); refine bxA H rfl rfl rfl ?_; clear H; intro b1 w1 H)
    | ((with_reducible refine gBs ?_); (first | (refine bs1 H rfl (by first | exact S33 | exact S45 | exact S31) rfl (Nat.le_of_ble_eq_true rfl) (Nat.le_of_ble_eq_true rfl) rfl ?_) | (refine wl_buildSlice0 rfl (by first | exact S33 | exact S45 | exact S31) H ?_)); clear H; intro b1 w1 H)
    | ((with_reducible refine gEq ?_); (first | (refine wl_cmp rfl rfl rfl rfl ?_) | (refine wl_scmp rfl rfl rfl rfl ?_)); intro rb hrb; cases rb <;> (first | (exfalso; simp at hrb; done) | ((try simp only [decide_eq_true_eq, decide_eq_false_iff_not, beq_iff_eq, beq_eq_false_iff_ne, ne_eq, bne_iff_ne, bne_eq_false_iff_eq, Bool.not_eq_true', Bool.not_eq_false', gt_iff_lt, ge_iff_le, Int.not_lt, Int.not_le, Decidable.not_not] at hrb); (try subst hrb); (try (exfalso; omega)))))
    | ((with_reducible refine gEq ?_); (first | (refine wl_eqAgg G50 (eq50 9998 ⟨_, _⟩ ⟨_, _⟩) rfl rfl rfl ?_) | (refine wl_neAgg G50 (eq50 9998 ⟨_, _⟩ ⟨_, _⟩) rfl rfl rfl ?_)); intro rb hrb; cases rb <;> (try simp only [Bool.not_true, Bool.not_false]))
    | ((with_reducible refine gAl ?_); (first | (refine al H Z50 rfl rfl ?_) | (refine al H Z41 rfl rfl ?_)); clear H; intro b1 w1 H)
    | ((with_reducible refine gRg ?_); refine wp_region_text rfl (by decide +kernel) ?_; replace H := H.drew)
    | ((with_reducible refine EndQ.intro ?_ ?_); (· kernel_rfl)))
      go_ret2
      exact ⟨_, _, _, _, _, rfl, (((((H.consNone 50)).swap (A := [_, _]) (B := [_])).swap (A := [_, _, _]) (B := [_])).swap (A := [_, _, _]) (B := [_]))⟩
set_option maxHeartbeats 4000000 in
theorem Load_long {w0 w : World} {D : Nat → Prop} {R : List Ent} {x : Option Addr} {c : Nat} {l : List ByteArray} (H : Hp w0 D (R) w) (hX : Rd w0 D R x (strs l)) (h1 : 1 ≤ l.length) (h2 : l.length ≤ 4096) (h3 : tooLong l = true) :
    Calls Try.prog 14 #[.slice x l.length c] w fun e w' => e = .returned (.tuple #[.pointer none, .int .i64 1]) ∧ Hp w0 D R w' := by
  have HX := Lib.hid hX
  have H3 := Lib.hid h3
  clear hX h3
  try simp only [dkC, Wr.cells, bmt, eD, eS, eW] at H
  go_enter Try.func14, Try.ntmps14
  go_wp2_with (first
    | ((with_reducible refine gLd ?_); refine eLd H rfl rfl ?_; first | (refine kLdB 0 rfl rfl (by first | exact T3 | exact T4 | exact T9 | exact T23 | exact T27 | exact T31 | exact T33 | exact T45 | exact T37 | exact T41 | exact T50 | exact T52 | exact T69 | exact T72) rfl ?_; intro rb hrb; cases rb <;> (first | (exfalso; simp at hrb; done) | ((try simp only [decide_eq_true_eq, decide_eq_false_iff_not, beq_iff_eq, beq_eq_false_iff_ne, ne_eq, bne_iff_ne, bne_eq_false_iff_eq, Bool.not_eq_true', Bool.not_eq_false', gt_iff_lt, ge_iff_le, Int.not_lt, Int.not_le, Decidable.not_not] at hrb); (try subst hrb); (try (exfalso; omega))))) | (refine kLd 0 rfl rfl (by first | exact T3 | exact T4 | exact T9 | exact T23 | exact T27 | exact T31 | exact T33 | exact T45 | exact T37 | exact T41 | exact T50 | exact T52 | exact T69 | exact T72) rfl ?_) | (refine kLdA 0 rfl rfl (by first | exact T3 | exact T4 | exact T9 | exact T23 | exact T27 | exact T31 | exact T33 | exact T45 | exact T37 | exact T41 | exact T50 | exact T52 | exact T69 | exact T72) (Nat.le_of_ble_eq_true rfl) (by simp only [dkC, Wr.cells, bmt, eD, eS, eW, List.drop_succ_cons, List.drop_zero, List.take_succ_cons, List.take_zero, List.set_cons_zero, List.set_cons_succ]; rfl) ?_))
    | ((with_reducible refine gSt ?_); (first | (refine eSt H rfl rfl ⟨.int _ _, rfl, ?_⟩) | (refine eSt H rfl rfl ⟨.bool _, rfl, ?_⟩) | (refine eSt H rfl rfl ⟨.slice _ _ _, rfl, ?_⟩) | (refine eSt H rfl rfl ⟨.pointer _, rfl, ?_⟩) | (refine eSt H rfl rfl ⟨.string _, rfl, ?_⟩) | (refine eSt H rfl rfl ⟨.agg (List.toArray _), rfl, ?_⟩)); (first | (refine kSt 0 rfl rfl (by first | exact T3 | exact T4 | exact T9 | exact T23 | exact T27 | exact T31 | exact T33 | exact T45 | exact T37 | exact T41 | exact T50 | exact T52 | exact T69 | exact T72) rfl (Nat.le_of_ble_eq_true rfl) ?_) | (refine kStA 0 rfl rfl (by first | exact T3 | exact T4 | exact T9 | exact T23 | exact T27 | exact T31 | exact T33 | exact T45 | exact T37 | exact T41 | exact T50 | exact T52 | exact T69 | exact T72) rfl rfl (Nat.le_of_ble_eq_true rfl) ?_)); clear H; intro w1 H; simp only [List.set_cons_zero, List.set_cons_succ] at H; (try simp only [lay, List.take_zero, List.nil_append, List.length_cons, List.length_nil, Nat.zero_add, Nat.reduceAdd, List.drop_succ_cons, List.drop_zero, List.drop_nil, List.append_nil, List.take_succ_cons, List.cons_append] at H))
    | ((with_reducible refine gBx ?_); refine bxA H rfl rfl rfl ?_; clear H; intro b1 w1 H)
    | ((with_reducible refine gBs ?_); (first | (refine bs1 H rfl (by first | exact S33 | exact S45 | exact S31) rfl (Nat.le_of_ble_eq_true rfl) (Nat.le_of_ble_eq_true rfl) rfl ?_) | (refine wl_buildSlice0 rfl (by first | exact S33 | exact S45 | exact S31) H ?_)); clear H; intro b1 w1 H)
    | ((with_reducible refine gEq ?_); (first | (refine wl_cmp rfl rfl rfl rfl ?_) | (refine wl_scmp rfl rfl rfl rfl ?_)); intro rb hrb; cases rb <;> (first | (exfalso; simp at hrb; done) | ((try simp only [decide_eq_true_eq, decide_eq_false_iff_not, beq_iff_eq, beq_eq_false_iff_ne, ne_eq, bne_iff_ne, bne_eq_false_iff_eq, Bool.not_eq_true', Bool.not_eq_false', gt_iff_lt, ge_iff_le, Int.not_lt, Int.not_le, Decidable.not_not] at hrb); (try subst hrb); (try (exfalso; omega)))))
    | ((with_reducible refine gEq ?_); (first | (refine wl_eqAgg G50 (eq50 9998 ⟨_, _⟩ ⟨_, _⟩) rfl rfl rfl ?_) | (refine wl_neAgg G50 (eq50 9998 ⟨_, _⟩ ⟨_, _⟩) rfl rfl rfl ?_)); intro rb hrb; cases rb <;> (try simp only [Bool.not_true, Bool.not_false]))
    | ((with_reducible refine gAl ?_); (first | (refine al H Z50 rfl rfl ?_) | (refine al H Z41 rfl rfl ?_)); clear H; intro b1 w1 H)
    | ((with_reducible refine gRg ?_); refine wp_region_text rfl (by decide +kernel) ?_; replace H := H.drew)
    | ((with_reducible refine EndQ.intro ?_ ?_); (· kernel_rfl)))
  go_loopg [16] l.length (fun n v wr => ∃ k : Nat, k + n = l.length ∧ v = .int .i64 k ∧ (∀ j < k, ∀ s, l[j]? = some s → s.size ≤ 1024) ∧ Hp w0 D R wr)
  case atStart => exact ⟨0, by omega, rfl, (fun j hj => absurd hj (Nat.not_lt_zero _)), H⟩
  case round =>
    clear H
    obtain ⟨k, hkn, rfl, hno, H⟩ := hrel
    have HN := Lib.hid hno
    clear hno
    by_cases hk : k < l.length
    · have hg : 0 < gk := by omega
      have HK := Lib.hid hkn
      clear hkn
      obtain ⟨b1, o1, rfl, hA⟩ := HX.out.some_of (by simp; omega)
      obtain ⟨s1, hp⟩ : ∃ q, l[k]? = some q := ⟨_, List.getElem?_eq_getElem hk⟩
      have HP := Lib.hid hp
      have HA := Lib.hid hA
      clear hp hA
      go_wp2_with (first
    | ((with_reducible refine gLd ?_); refine wl_loadR (k := k) (HA.out [] _ H) rfl rfl (by first | rfl | omega) T9 (strs_at HP.out) ?_)
    | ((with_reducible refine gLd ?_); refine eLd H rfl rfl ?_; first | (refine kLdB 0 rfl rfl (by first | exact T3 | exact T4 | exact T9 | exact T23 | exact T27 | exact T31 | exact T33 | exact T45 | exact T37 | exact T41 | exact T50 | exact T52 | exact T69 | exact T72) rfl ?_; intro rb hrb; cases rb <;> (first | (exfalso; simp at hrb; done) | ((try simp only [decide_eq_true_eq, decide_eq_false_iff_not, beq_iff_eq, beq_eq_false_iff_ne, ne_eq, bne_iff_ne, bne_eq_false_iff_eq, Bool.not_eq_true', Bool.not_eq_false', gt_iff_lt, ge_iff_le, Int.not_lt, Int.not_le, Decidable.not_not] at hrb); (try subst hrb); (try (exfalso; omega))))) | (refine kLd 0 rfl rfl (by first | exact T3 | exact T4 | exact T9 | exact T23 | exact T27 | exact T31 | exact T33 | exact T45 | exact T37 | exact T41 | exact T50 | exact T52 | exact T69 | exact T72) rfl ?_) | (refine kLdA 0 rfl rfl (by first | exact T3 | exact T4 | exact T9 | exact T23 | exact T27 | exact T31 | exact T33 | exact T45 | exact T37 | exact T41 | exact T50 | exact T52 | exact T69 | exact T72) (Nat.le_of_ble_eq_true rfl) (by simp only [dkC, Wr.cells, bmt, eD, eS, eW, List.drop_succ_cons, List.drop_zero, List.take_succ_cons, List.take_zero, List.set_cons_zero, List.set_cons_succ]; rfl) ?_))
    | ((with_reducible refine gSt ?_); (first | (refine eSt H rfl rfl ⟨.int _ _, rfl, ?_⟩) | (refine eSt H rfl rfl ⟨.bool _, rfl, ?_⟩) | (refine eSt H rfl rfl ⟨.slice _ _ _, rfl, ?_⟩) | (refine eSt H rfl rfl ⟨.pointer _, rfl, ?_⟩) | (refine eSt H rfl rfl ⟨.string _, rfl, ?_⟩) | (refine eSt H rfl rfl ⟨.agg (List.toArray _), rfl, ?_⟩)); (first | (refine kSt 0 rfl rfl (by first | exact T3 | exact T4 | exact T9 | exact T23 | exact T27 | exact T31 | exact T33 | exact T45 | exact T37 | exact T41 | exact T50 | exact T52 | exact T69 | exact T72) rfl (Nat.le_of_ble_eq_true rfl) ?_) | (refine kStA 0 rfl rfl (by first | exact T3 | exact T4 | exact T9 | exact T23 | exact T27 | exact T31 | exact T33 | exact T45 | exact T37 | exact T41 | exact T50 | exact T52 | exact T69 | exact T72) rfl rfl (Nat.le_of_ble_eq_true rfl) ?_)); clear H; intro w1 H; simp only [List.set_cons_zero, List.set_cons_succ] at H; (try simp only [lay, List.take_zero, List.nil_append, List.length_cons, List.length_nil, Nat.zero_add, Nat.reduceAdd, List.drop_succ_cons, List.drop_zero, List.drop_nil, List.append_nil, List.take_succ_cons, List.cons_append] at H))
    | ((with_reducible refine gBx ?_); refine bxA H rfl rfl rfl ?_; clear H; intro b1 w1 H)
    | ((with_reducible refine gBs ?_); (first | (refine bs1 H rfl (by first | exact S33 | exact S45 | exact S31) rfl (Nat.le_of_ble_eq_true rfl) (Nat.le_of_ble_eq_true rfl) rfl ?_) | (refine wl_buildSlice0 rfl (by first | exact S33 | exact S45 | exact S31) H ?_)); clear H; intro b1 w1 H)
    | ((with_reducible refine gEq ?_); (first | (refine wl_cmp rfl rfl rfl rfl ?_) | (refine wl_scmp rfl rfl rfl rfl ?_)); intro rb hrb; cases rb <;> (first | (exfalso; simp at hrb; done) | ((try simp only [decide_eq_true_eq, decide_eq_false_iff_not, beq_iff_eq, beq_eq_false_iff_ne, ne_eq, bne_iff_ne, bne_eq_false_iff_eq, Bool.not_eq_true', Bool.not_eq_false', gt_iff_lt, ge_iff_le, Int.not_lt, Int.not_le, Decidable.not_not] at hrb); (try subst hrb); (try (exfalso; omega)))))
    | ((with_reducible refine gEq ?_); (first | (refine wl_eqAgg G50 (eq50 9998 ⟨_, _⟩ ⟨_, _⟩) rfl rfl rfl ?_) | (refine wl_neAgg G50 (eq50 9998 ⟨_, _⟩ ⟨_, _⟩) rfl rfl rfl ?_)); intro rb hrb; cases rb <;> (try simp only [Bool.not_true, Bool.not_false]))
    | ((with_reducible refine gAl ?_); (first | (refine al H Z50 rfl rfl ?_) | (refine al H Z41 rfl rfl ?_)); clear H; intro b1 w1 H)
    | ((with_reducible refine gRg ?_); refine wp_region_text rfl (by decide +kernel) ?_; replace H := H.drew)
    | ((with_reducible refine EndQ.intro ?_ ?_); (· kernel_rfl)))
      any_goals go_roundg (gk - 1)
      all_goals first
        | omega
        | (refine ⟨k + 1, ?_, ?_, szext HN.out HP.out (by omega), H⟩; (· have := HK.out; omega); (· go_num))
        | (go_ret2; exact ⟨rfl, H⟩)
    · exfalso
      have := tooLong_none (l := l) (fun j hj => HN.out j (by omega))
      rw [H3.out] at this
      cases this
set_option maxHeartbeats 4000000 in
theorem Load_arg {w0 w : World} {D : Nat → Prop} {R : List Ent} {x : Option Addr} {c : Nat} {l : List ByteArray} (H : Hp w0 D (R) w) (h : l.length < 1 ∨ 4096 < l.length) :
    Calls Try.prog 14 #[.slice x l.length c] w fun e w' => e = .returned (.tuple #[.pointer none, .int .i64 2]) ∧ Hp w0 D R w' := by
  try simp only [dkC, Wr.cells, bmt, eD, eS, eW] at H
  rcases h with h | h
  all_goals go_enter Try.func14, Try.ntmps14
  all_goals go_wp2_with (first
    | ((with_reducible refine gLd ?_); refine eLd H rfl rfl ?_; first | (refine kLdB 0 rfl rfl (by first | exact T3 | exact T4 | exact T9 | exact T23 | exact T27 | exact T31 | exact T33 | exact T45 | exact T37 | exact T41 | exact T50 | exact T52 | exact T69 | exact T72) rfl ?_; intro rb hrb; cases rb <;> (first | (exfalso; simp at hrb; done) | ((try simp only [decide_eq_true_eq, decide_eq_false_iff_not, beq_iff_eq, beq_eq_false_iff_ne, ne_eq, bne_iff_ne, bne_eq_false_iff_eq, Bool.not_eq_true', Bool.not_eq_false', gt_iff_lt, ge_iff_le, Int.not_lt, Int.not_le, Decidable.not_not] at hrb); (try subst hrb); (try (exfalso; omega))))) | (refine kLd 0 rfl rfl (by first | exact T3 | exact T4 | exact T9 | exact T23 | exact T27 | exact T31 | exact T33 | exact T45 | exact T37 | exact T41 | exact T50 | exact T52 | exact T69 | exact T72) rfl ?_) | (refine kLdA 0 rfl rfl (by first | exact T3 | exact T4 | exact T9 | exact T23 | exact T27 | exact T31 | exact T33 | exact T45 | exact T37 | exact T41 | exact T50 | exact T52 | exact T69 | exact T72) (Nat.le_of_ble_eq_true rfl) (by simp only [dkC, Wr.cells, bmt, eD, eS, eW, List.drop_succ_cons, List.drop_zero, List.take_succ_cons, List.take_zero, List.set_cons_zero, List.set_cons_succ]; rfl) ?_))
    | ((with_reducible refine gSt ?_); (first | (refine eSt H rfl rfl ⟨.int _ _, rfl, ?_⟩) | (refine eSt H rfl rfl ⟨.bool _, rfl, ?_⟩) | (refine eSt H rfl rfl ⟨.slice _ _ _, rfl, ?_⟩) | (refine eSt H rfl rfl ⟨.pointer _, rfl, ?_⟩) | (refine eSt H rfl rfl ⟨.string _, rfl, ?_⟩) | (refine eSt H rfl rfl ⟨.agg (List.toArray _), rfl, ?_⟩)); (first | (refine kSt 0 rfl rfl (by first | exact T3 | exact T4 | exact T9 | exact T23 | exact T27 | exact T31 | exact T33 | exact T45 | exact T37 | exact T41 | exact T50 | exact T52 | exact T69 | exact T72) rfl (Nat.le_of_ble_eq_true rfl) ?_) | (refine kStA 0 rfl rfl (by first | exact T3 | exact T4 | exact T9 | exact T23 | exact T27 | exact T31 | exact T33 | exact T45 | exact T37 | exact T41 | exact T50 | exact T52 | exact T69 | exact T72) rfl rfl (Nat.le_of_ble_eq_true rfl) ?_)); clear H; intro w1 H; simp only [List.set_cons_zero, List.set_cons_succ] at H; (try simp only [lay, List.take_zero, List.nil_append, List.length_cons, List.length_nil, Nat.zero_add, Nat.reduceAdd, List.drop_succ_cons, List.drop_zero, List.drop_nil, List.append_nil, List.take_succ_cons, List.cons_append] at H))
    | ((with_reducible refine gBx ?_); refine bxA H rfl rfl rfl ?_; clear H; intro b1 w1 H)
    | ((with_reducible refine gBs ?_); (first | (refine bs1 H rfl (by first | exact S33 | exact S45 | exact S31) rfl (Nat.le_of_ble_eq_true rfl) (Nat.le_of_ble_eq_true rfl) rfl ?_) | (refine wl_buildSlice0 rfl (by first | exact S33 | exact S45 | exact S31) H ?_)); clear H; intro b1 w1 H)
    | ((with_reducible refine gEq ?_); (first | (refine wl_cmp rfl rfl rfl rfl ?_) | (refine wl_scmp rfl rfl rfl rfl ?_)); intro rb hrb; cases rb <;> (first | (exfalso; simp at hrb; done) | ((try simp only [decide_eq_true_eq, decide_eq_false_iff_not, beq_iff_eq, beq_eq_false_iff_ne, ne_eq, bne_iff_ne, bne_eq_false_iff_eq, Bool.not_eq_true', Bool.not_eq_false', gt_iff_lt, ge_iff_le, Int.not_lt, Int.not_le, Decidable.not_not] at hrb); (try subst hrb); (try (exfalso; omega)))))
    | ((with_reducible refine gEq ?_); (first | (refine wl_eqAgg G50 (eq50 9998 ⟨_, _⟩ ⟨_, _⟩) rfl rfl rfl ?_) | (refine wl_neAgg G50 (eq50 9998 ⟨_, _⟩ ⟨_, _⟩) rfl rfl rfl ?_)); intro rb hrb; cases rb <;> (try simp only [Bool.not_true, Bool.not_false]))
    | ((with_reducible refine gAl ?_); (first | (refine al H Z50 rfl rfl ?_) | (refine al H Z41 rfl rfl ?_)); clear H; intro b1 w1 H)
    | ((with_reducible refine gRg ?_); refine wp_region_text rfl (by decide +kernel) ?_; replace H := H.drew)
    | ((with_reducible refine EndQ.intro ?_ ?_); (· kernel_rfl)))
  all_goals go_ret2
  all_goals exact ⟨rfl, H⟩
theorem Load_at {w0 w : World} {D : Nat → Prop} {R : List Ent} {x : Option Addr} {c : Nat} {l : List ByteArray} {n : Nat} (H : Hp w0 D R w) (hn : n = l.length) (hX : Rd w0 D R x (strs l)) (h1 : 1 ≤ l.length) (h2 : l.length ≤ 4096) (h3 : tooLong l = false) : Calls Try.prog 14 #[.slice x n c] w fun e w' => ∃ p f b cf cb, e = .returned (.tuple #[.pointer (some ⟨p, 0, none⟩), .int .i64 0]) ∧ Hp w0 D (eD 72 p f b none cf cb 0 (Dk.made l) :: eS f cf (Dk.made l).first :: eS b cb (Dk.made l).now :: eW none 0 (Dk.made l).log :: R) w' := by
  subst hn
  exact Load_ok H hX h1 h2 h3
def Load_Post (w0 : World) (D : Nat → Prop) (R : List Ent) (l : List ByteArray) (e : Ending) (w' : World) : Prop :=
  (loadE l = 0 ∧ ∃ p f b cf cb, e = .returned (.tuple #[.pointer (some ⟨p, 0, none⟩), .int .i64 0]) ∧ Hp w0 D (eD 72 p f b none cf cb 0 (Dk.made l) :: eS f cf (Dk.made l).first :: eS b cb (Dk.made l).now :: eW none 0 (Dk.made l).log :: R) w') ∨ (¬ loadE l = 0 ∧ e = .returned (.tuple #[.pointer none, .int .i64 (loadE l)]) ∧ Hp w0 D R w')
theorem Load_spec {w0 w : World} {D : Nat → Prop} {R : List Ent} {x : Option Addr} {c : Nat} {l : List ByteArray} (H : Hp w0 D R w) (hX : Rd w0 D R x (strs l)) : Calls Try.prog 14 #[.slice x l.length c] w fun e w' => Load_Post w0 D R l e w' := by
  by_cases h : l.length < 1 ∨ 4096 < l.length
  · have e1 : loadE l = 2 := by unfold loadE; rw [if_pos h]
    refine (Load_arg H h).mono fun e w' hh => .inr ⟨by rw [e1]; decide, ?_⟩
    rw [e1]; exact hh
  · cases h3 : tooLong l with
    | true =>
      have e1 : loadE l = 1 := by unfold loadE; rw [if_neg h, if_pos h3]
      refine (Load_long H hX (by omega) (by omega) h3).mono fun e w' hh => .inr ⟨by rw [e1]; decide, ?_⟩
      rw [e1]; exact hh
    | false =>
      have e1 : loadE l = 0 := by unfold loadE; rw [if_neg h, if_neg (by simp [h3])]
      exact (Load_ok H hX (by omega) (by omega) h3).mono fun e w' hh => .inl ⟨e1, hh⟩
end Go.Proofs.Ytfcmjddpoacenaa
