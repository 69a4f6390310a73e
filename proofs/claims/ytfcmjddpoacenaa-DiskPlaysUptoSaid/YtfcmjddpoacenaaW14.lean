/- What functions of layer 2 compute. -/
import Derived.Test.YtfcmjddpoacenaaW12
import Derived.WalkKit
import Derived.Lib.Hide
import Derived.Deep.LoopGhost
import Derived.WalkSpells
set_option linter.unusedVariables false
set_option linter.unusedSimpArgs false
namespace Go.Proofs.Ytfcmjddpoacenaa
open Go.RowKit Go.Gx Go.Gx.Dsk
set_option maxRecDepth 100000
theorem pick_wr {l : List Wr} {k : Nat} {p : Wr} (h : l[k]? = some p) : pick true 2 (wrs l) (k * 2) = some (.agg p.cells.toArray) := by
  have hlt := (List.getElem?_eq_some_iff.1 h).1
  have := wrs_at h
  simp [pick, wrs_length, this]
  omega
theorem ok_cut {s : Dk} (h : s.ok) (n : Nat) : (s.cut n).ok := ⟨(playW_length _ _).symm, fun w hw => h.wr w (List.mem_of_mem_take hw), rfl⟩
theorem cut_cut (s : Dk) {n m : Nat} (h : m ≤ n) : (s.cut n).cut m = s.cut m := by
  simp [Dk.cut, List.take_take, Nat.min_eq_left h]
set_option maxHeartbeats 4000000 in
theorem WritesEq_spec {w0 w : World} {D : Nat → Prop} {R : List Ent} {x y : Option Addr} {c1 c2 : Nat} {l m : List Wr} (H : Hp w0 D (R) w) (hX : Rd w0 D R x (wrs l)) (hY : Rd w0 D R y (wrs m)) (hl : l.length ≤ 2000000) :
    Calls Try.prog 27 #[.slice x l.length c1, .slice y m.length c2] w fun e w' => e = .returned (.bool (lEq l m)) ∧ Hp w0 D R w' := by
  have HX := Lib.hid hX
  have HY := Lib.hid hY
  clear hX hY
  try simp only [dkC, Wr.cells, bmt, eD, eS, eW] at H
  by_cases hlen : l.length = m.length
  · have hlen' : (l.length : Int) = m.length := by omega
    go_enter Try.func27, Try.ntmps27
    go_wp2_with (first
    | ((with_reducible refine gLd ?_); refine eLd H rfl rfl ?_; first | (refine kLdB 0 rfl rfl (by first | exact T3 | exact T4 | exact T9 | exact T23 | exact T27 | exact T31 | exact T33 | exact T45 | exact T37 | exact T41 | exact T50 | exact T52 | exact T69 | exact T72) rfl ?_; intro rb hrb; cases rb <;> (first | (exfalso; simp at hrb; done) | ((try simp only [decide_eq_true_eq, decide_eq_false_iff_not, beq_iff_eq, beq_eq_false_iff_ne, ne_eq, bne_iff_ne, bne_eq_false_iff_eq, Bool.not_eq_true', Bool.not_eq_false', gt_iff_lt, ge_iff_le, Int.not_lt, Int.not_le, Decidable.not_not] at hrb); (try subst hrb); (try (exfalso; omega))))) | (refine kLd 0 rfl rfl (by first | exact T3 | exact T4 | exact T9 | exact T23 | exact T27 | exact T31 | exact T33 | exact T45 | exact T37 | exact T41 | exact T50 | exact T52 | exact T69 | exact T72) rfl ?_) | (refine kLdA 0 rfl rfl (by first | exact T3 | exact T4 | exact T9 | exact T23 | exact T27 | exact T31 | exact T33 | exact T45 | exact T37 | exact T41 | exact T50 | exact T52 | exact T69 | exact T72) (Nat.le_of_ble_eq_true rfl) (by simp only [dkC, Wr.cells, bmt, eD, eS, eW, List.drop_succ_cons, List.drop_zero, List.take_succ_cons, List.take_zero, List.set_cons_zero, List.set_cons_succ]; rfl) ?_))
    | ((with_reducible refine gSt ?_); (first | (refine eSt H rfl rfl ⟨.int _ _, rfl, ?_⟩) | (refine eSt H rfl rfl ⟨.bool _, rfl, ?_⟩) | (refine eSt H rfl rfl ⟨.slice _ _ _, rfl, ?_⟩) | (refine eSt H rfl rfl ⟨.pointer _, rfl, ?_⟩) | (refine eSt H rfl rfl ⟨.string _, rfl, ?_⟩) | (refine eSt H rfl rfl ⟨.agg (List.toArray _), rfl, ?_⟩)); (first | (refine kSt 0 rfl rfl (by first | exact T3 | exact T4 | exact T9 | exact T23 | exact T27 | exact T31 | exact T33 | exact T45 | exact T37 | exact T41 | exact T50 | exact T52 | exact T69 | exact T72) rfl (Nat.le_of_ble_eq_true rfl) ?_) | (refine kStA 0 rfl rfl (by first | exact T3 | exact T4 | exact T9 | exact T23 | exact T27 | exact T31 | exact T33 | exact T45 | exact T37 | exact T41 | exact T50 | exact T52 | exact T69 | exact T72) rfl rfl (Nat.le_of_ble_eq_true rfl) ?_)); clear H; intro w1 H; simp only [List.set_cons_zero, List.set_cons_succ] at H; (try simp only [lay, List.take_zero, List.nil_append, List.length_cons, List.length_nil, Nat.zero_add, Nat.reduceAdd, List.drop_succ_cons, List.drop_zero, List.drop_nil, List.append_nil, List.take_succ_cons, List.cons_append] at H))
    | ((with_reducible refine gBx ?_); refine bxA H rfl rfl rfl ?_; clear H; intro b1 w1 H)
    | ((with_reducible refine gBs ?_); (first | (refine bs1 H rfl (by first | exact S33 | exact S45 | exact S31) rfl (Nat.le_of_ble_eq_true rfl) (Nat.le_of_ble_eq_true rfl) rfl ?_) | (refine wl_buildSlice0 rfl (by first | exact S33 | exact S45 | exact S31) H ?_)); clear H; intro b1 w1 H)
    | ((with_reducible refine gEq ?_); (first | (refine wl_cmp rfl rfl rfl rfl ?_) | (refine wl_scmp rfl rfl rfl rfl ?_)); intro rb hrb; cases rb <;> (first | (exfalso; simp at hrb; done) | ((try simp only [decide_eq_true_eq, decide_eq_false_iff_not, beq_iff_eq, beq_eq_false_iff_ne, ne_eq, bne_iff_ne, bne_eq_false_iff_eq, Bool.not_eq_true', Bool.not_eq_false', gt_iff_lt, ge_iff_le, Int.not_lt, Int.not_le, Decidable.not_not] at hrb); (try subst hrb); (try (exfalso; omega)))))
    | ((with_reducible refine gEq ?_); (first | (refine wl_eqAgg G50 (eq50 9998 ⟨_, _⟩ ⟨_, _⟩) rfl rfl rfl ?_) | (refine wl_neAgg G50 (eq50 9998 ⟨_, _⟩ ⟨_, _⟩) rfl rfl rfl ?_)); intro rb hrb; cases rb <;> (try simp only [Bool.not_true, Bool.not_false]))
    | ((with_reducible refine gAl ?_); (first | (refine al H Z50 rfl rfl ?_) | (refine al H Z41 rfl rfl ?_)); clear H; intro b1 w1 H)
    | ((with_reducible refine gRg ?_); refine wp_region_text rfl (by decide +kernel) ?_; replace H := H.drew)
    | (refine EndQ.intro (by kernel_rfl) ?_))
    go_loopg [5] l.length (fun n v wr => ∃ k : Nat, k + n = l.length ∧ v = .int .i64 k ∧ (∀ j < k, l[j]? = m[j]?) ∧ Hp w0 D R wr)
    case atStart => exact ⟨0, by omega, rfl, (fun j hj => absurd hj (Nat.not_lt_zero _)), H⟩
    case round =>
      clear H
      obtain ⟨k, hkn, rfl, hno, H⟩ := hrel
      have HN := Lib.hid hno
      clear hno
      by_cases hk : k < l.length
      · have hg : 0 < gk := by omega
        have HK := Lib.hid hkn
        clear hkn
        obtain ⟨b1, o1, rfl, hA⟩ := HX.out.some_of (by rw [wrs_length]; omega)
        obtain ⟨b2, o2, rfl, hB⟩ := HY.out.some_of (by rw [wrs_length]; omega)
        have hk2 : k < m.length := by omega
        obtain ⟨⟨i1, s1⟩, hp⟩ : ∃ q, l[k]? = some q := ⟨_, List.getElem?_eq_getElem hk⟩
        obtain ⟨⟨i2, s2⟩, hq⟩ : ∃ q, m[k]? = some q := ⟨_, List.getElem?_eq_getElem hk2⟩
        have HP := Lib.hid hp
        have HQ := Lib.hid hq
        have HA := Lib.hid hA
        have HB := Lib.hid hB
        clear hp hq hA hB
        go_wp2_with (first
    | (first | ((with_reducible refine gLd ?_); refine wl_loadR (k := k * 2) (HA.out [] _ H) rfl rfl (by first | rfl | omega) T50 (pick_wr HP.out) ?_; simp only [Wr.cells]) | ((with_reducible refine gLd ?_); refine wl_loadR (k := k * 2) (HB.out [] _ H) rfl rfl (by first | rfl | omega) T50 (pick_wr HQ.out) ?_; simp only [Wr.cells]))
    | ((with_reducible refine gLd ?_); refine eLd H rfl rfl ?_; first | (refine kLdB 0 rfl rfl (by first | exact T3 | exact T4 | exact T9 | exact T23 | exact T27 | exact T31 | exact T33 | exact T45 | exact T37 | exact T41 | exact T50 | exact T52 | exact T69 | exact T72) rfl ?_; intro rb hrb; cases rb <;> (first | (exfalso; simp at hrb; done) | ((try simp only [decide_eq_true_eq, decide_eq_false_iff_not, beq_iff_eq, beq_eq_false_iff_ne, ne_eq, bne_iff_ne, bne_eq_false_iff_eq, Bool.not_eq_true', Bool.not_eq_false', gt_iff_lt, ge_iff_le, Int.not_lt, Int.not_le, Decidable.not_not] at hrb); (try subst hrb); (try (exfalso; omega))))) | (refine kLd 0 rfl rfl (by first | exact T3 | exact T4 | exact T9 | exact T23 | exact T27 | exact T31 | exact T33 | exact T45 | exact T37 | exact T41 | exact T50 | exact T52 | exact T69 | exact T72) rfl ?_) | (refine kLdA 0 rfl rfl (by first | exact T3 | exact T4 | exact T9 | exact T23 | exact T27 | exact T31 | exact T33 | exact T45 | exact T37 | exact T41 | exact T50 | exact T52 | exact T69 | exact T72) (Nat.le_of_ble_eq_true rfl) (by simp only [dkC, Wr.cells, bmt, eD, eS, eW, List.drop_succ_cons, List.drop_zero, List.take_succ_cons, List.take_zero, List.set_cons_zero, List.set_cons_succ]; rfl) ?_))
    | ((with_reducible refine gSt ?_); (first | (refine eSt H rfl rfl ⟨.int _ _, rfl, ?_⟩) | (refine eSt H rfl rfl ⟨.bool _, rfl, ?_⟩) | (refine eSt H rfl rfl ⟨.slice _ _ _, rfl, ?_⟩) | (refine eSt H rfl rfl ⟨.pointer _, rfl, ?_⟩) | (refine eSt H rfl rfl ⟨.string _, rfl, ?_⟩) | (refine eSt H rfl rfl ⟨.agg (List.toArray _), rfl, ?_⟩)); (first | (refine kSt 0 rfl rfl (by first | exact T3 | exact T4 | exact T9 | exact T23 | exact T27 | exact T31 | exact T33 | exact T45 | exact T37 | exact T41 | exact T50 | exact T52 | exact T69 | exact T72) rfl (Nat.le_of_ble_eq_true rfl) ?_) | (refine kStA 0 rfl rfl (by first | exact T3 | exact T4 | exact T9 | exact T23 | exact T27 | exact T31 | exact T33 | exact T45 | exact T37 | exact T41 | exact T50 | exact T52 | exact T69 | exact T72) rfl rfl (Nat.le_of_ble_eq_true rfl) ?_)); clear H; intro w1 H; simp only [List.set_cons_zero, List.set_cons_succ] at H; (try simp only [lay, List.take_zero, List.nil_append, List.length_cons, List.length_nil, Nat.zero_add, Nat.reduceAdd, List.drop_succ_cons, List.drop_zero, List.drop_nil, List.append_nil, List.take_succ_cons, List.cons_append] at H))
    | ((with_reducible refine gBx ?_); refine bxA H rfl rfl rfl ?_; clear H; intro b1 w1 H)
    | ((with_reducible refine gBs ?_); (first | (refine bs1 H rfl (by first | exact S33 | exact S45 | exact S31) rfl (Nat.le_of_ble_eq_true rfl) (Nat.le_of_ble_eq_true rfl) rfl ?_) | (refine wl_buildSlice0 rfl (by first | exact S33 | exact S45 | exact S31) H ?_)); clear H; intro b1 w1 H)
    | ((with_reducible refine gEq ?_); (first | (refine wl_cmp rfl rfl rfl rfl ?_) | (refine wl_scmp rfl rfl rfl rfl ?_)); intro rb hrb; cases rb <;> (first | (exfalso; simp at hrb; done) | ((try simp only [decide_eq_true_eq, decide_eq_false_iff_not, beq_iff_eq, beq_eq_false_iff_ne, ne_eq, bne_iff_ne, bne_eq_false_iff_eq, Bool.not_eq_true', Bool.not_eq_false', gt_iff_lt, ge_iff_le, Int.not_lt, Int.not_le, Decidable.not_not] at hrb); (try subst hrb); (try (exfalso; omega)))))
    | ((with_reducible refine gEq ?_); (first | (refine wl_eqAgg G50 (eq50 9998 ⟨_, _⟩ ⟨_, _⟩) rfl rfl rfl ?_) | (refine wl_neAgg G50 (eq50 9998 ⟨_, _⟩ ⟨_, _⟩) rfl rfl rfl ?_)); intro rb hrb; cases rb <;> (try simp only [Bool.not_true, Bool.not_false]))
    | ((with_reducible refine gAl ?_); (first | (refine al H Z50 rfl rfl ?_) | (refine al H Z41 rfl rfl ?_)); clear H; intro b1 w1 H)
    | ((with_reducible refine gRg ?_); refine wp_region_text rfl (by decide +kernel) ?_; replace H := H.drew)
    | (refine EndQ.intro (by kernel_rfl) ?_))
        any_goals go_roundg (gk - 1)
        all_goals first
          | omega
          | (refine ⟨k + 1, ?_, ?_, ?_, H⟩; (· have := HK.out; omega); (· go_num); (· exact pre_ext HN.out HP.out (by rw [HQ.out, Wr.beq_iff.1 hrb])))
          | (go_ret; exact ⟨congrArg (fun z => Ending.returned (Value.bool z)) (lEq_ne HP.out HQ.out (fun e => by rw [Wr.beq_iff.2 e] at hrb; cases hrb)).symm, H⟩)
      · have hk2 : l.length ≤ k := by omega
        clear hkn hk
        go_wp2_with (first
    | ((with_reducible refine gLd ?_); refine eLd H rfl rfl ?_; first | (refine kLdB 0 rfl rfl (by first | exact T3 | exact T4 | exact T9 | exact T23 | exact T27 | exact T31 | exact T33 | exact T45 | exact T37 | exact T41 | exact T50 | exact T52 | exact T69 | exact T72) rfl ?_; intro rb hrb; cases rb <;> (first | (exfalso; simp at hrb; done) | ((try simp only [decide_eq_true_eq, decide_eq_false_iff_not, beq_iff_eq, beq_eq_false_iff_ne, ne_eq, bne_iff_ne, bne_eq_false_iff_eq, Bool.not_eq_true', Bool.not_eq_false', gt_iff_lt, ge_iff_le, Int.not_lt, Int.not_le, Decidable.not_not] at hrb); (try subst hrb); (try (exfalso; omega))))) | (refine kLd 0 rfl rfl (by first | exact T3 | exact T4 | exact T9 | exact T23 | exact T27 | exact T31 | exact T33 | exact T45 | exact T37 | exact T41 | exact T50 | exact T52 | exact T69 | exact T72) rfl ?_) | (refine kLdA 0 rfl rfl (by first | exact T3 | exact T4 | exact T9 | exact T23 | exact T27 | exact T31 | exact T33 | exact T45 | exact T37 | exact T41 | exact T50 | exact T52 | exact T69 | exact T72) (Nat.le_of_ble_eq_true rfl) (by simp only [dkC, Wr.cells, bmt, eD, eS, eW, List.drop_succ_cons, List.drop_zero, List.take_succ_cons, List.take_zero, List.set_cons_zero, List.set_cons_succ]; rfl) ?_))
    | ((with_reducible refine gSt ?_); (first | (refine eSt H rfl rfl ⟨.int _ _, rfl, ?_⟩) | (refine eSt H rfl rfl ⟨.bool _, rfl, ?_⟩) | (refine eSt H rfl rfl ⟨.slice _ _ _, rfl, ?_⟩) | (refine eSt H rfl rfl ⟨.pointer _, rfl, ?_⟩) | (refine eSt H rfl rfl ⟨.string _, rfl, ?_⟩) | (refine eSt H rfl rfl ⟨.agg (List.toArray _), rfl, ?_⟩)); (first | (refine kSt 0 rfl rfl (by first | exact T3 | exact T4 | exact T9 | exact T23 | exact T27 | exact T31 | exact T33 | exact T45 | exact T37 | exact T41 | exact T50 | exact T52 | exact T69 | exact T72) rfl (Nat.le_of_ble_eq_true rfl) ?_) | (refine kStA 0 rfl rfl (by first | exact T3 | exact T4 | exact T9 | exact T23 | exact T27 | exact T31 | exact T33 | exact T45 | exact T37 | exact T41 | exact T50 | exact T52 | exact T69 | exact T72) rfl rfl (Nat.le_of_ble_eq_true rfl) ?_)); clear H; intro w1 H; simp only [List.set_cons_zero, List.set_cons_succ] at H; (try simp only [lay, List.take_zero, List.nil_append, List.length_cons, List.length_nil, Nat.zero_add, Nat.reduceAdd, List.drop_succ_cons, List.drop_zero, List.drop_nil, List.append_nil, List.take_succ_cons, List.cons_append] at H))
    | ((with_reducible refine gBx ?_); refine bxA H rfl rfl rfl ?_; clear H; intro b1 w1 H)
    | ((with_reducible refine gBs ?_); (first | (refine bs1 H rfl (by first | exact S33 | exact S45 | exact S31) rfl (Nat.le_of_ble_eq_true rfl) (Nat.le_of_ble_eq_true rfl) rfl ?_) | (refine wl_buildSlice0 rfl (by first | exact S33 | exact S45 | exact S31) H ?_)); clear H; intro b1 w1 H)
    | ((with_reducible refine gEq ?_); (first | (refine wl_cmp rfl rfl rfl rfl ?_) | (refine wl_scmp rfl rfl rfl rfl ?_)); intro rb hrb; cases rb <;> (first | (exfalso; simp at hrb; done) | ((try simp only [decide_eq_true_eq, decide_eq_false_iff_not, beq_iff_eq, beq_eq_false_iff_ne, ne_eq, bne_iff_ne, bne_eq_false_iff_eq, Bool.not_eq_true', Bool.not_eq_false', gt_iff_lt, ge_iff_le, Int.not_lt, Int.not_le, Decidable.not_not] at hrb); (try subst hrb); (try (exfalso; omega)))))
    | ((with_reducible refine gEq ?_); (first | (refine wl_eqAgg G50 (eq50 9998 ⟨_, _⟩ ⟨_, _⟩) rfl rfl rfl ?_) | (refine wl_neAgg G50 (eq50 9998 ⟨_, _⟩ ⟨_, _⟩) rfl rfl rfl ?_)); intro rb hrb; cases rb <;> (try simp only [Bool.not_true, Bool.not_false]))
    | ((with_reducible refine gAl ?_); (first | (refine al H Z50 rfl rfl ?_) | (refine al H Z41 rfl rfl ?_)); clear H; intro b1 w1 H)
    | ((with_reducible refine gRg ?_); refine wp_region_text rfl (by decide +kernel) ?_; replace H := H.drew)
    | (refine EndQ.intro (by kernel_rfl) ?_))
        all_goals go_ret
        all_goals exact ⟨congrArg (fun z => Ending.returned (Value.bool z)) (lEq_all hlen hk2 HN.out).symm, H⟩
  · have hlen' : ¬ (l.length : Int) = m.length := by omega
    go_enter Try.func27, Try.ntmps27
    go_wp2_with (first
    | ((with_reducible refine gLd ?_); refine eLd H rfl rfl ?_; first | (refine kLdB 0 rfl rfl (by first | exact T3 | exact T4 | exact T9 | exact T23 | exact T27 | exact T31 | exact T33 | exact T45 | exact T37 | exact T41 | exact T50 | exact T52 | exact T69 | exact T72) rfl ?_; intro rb hrb; cases rb <;> (first | (exfalso; simp at hrb; done) | ((try simp only [decide_eq_true_eq, decide_eq_false_iff_not, beq_iff_eq, beq_eq_false_iff_ne, ne_eq, bne_iff_ne, bne_eq_false_iff_eq, Bool.not_eq_true', Bool.not_eq_false', gt_iff_lt, ge_iff_le, Int.not_lt, Int.not_le, Decidable.not_not] at hrb); (try subst hrb); (try (exfalso; omega))))) | (refine kLd 0 rfl rfl (by first | exact T3 | exact T4 | exact T9 | exact T23 | exact T27 | exact T31 | exact T33 | exact T45 | exact T37 | exact T41 | exact T50 | exact T52 | exact T69 | exact T72) rfl ?_) | (refine kLdA 0 rfl rfl (by first | exact T3 | exact T4 | exact T9 | exact T23 | exact T27 | exact T31 | exact T33 | exact T45 | exact T37 | exact T41 | exact T50 | exact T52 | exact T69 | exact T72) (Nat.le_of_ble_eq_true rfl) (by simp only [dkC, Wr.cells, bmt, eD, eS, eW, List.drop_succ_cons, List.drop_zero, List.take_succ_cons, List.take_zero, List.set_cons_zero, List.set_cons_succ]; rfl) ?_))
    | ((with_reducible refine gSt ?_); (first | (refine eSt H rfl rfl ⟨.int _ _, rfl, ?_⟩) | (refine eSt H rfl rfl ⟨.bool _, rfl, ?_⟩) | (refine eSt H rfl rfl ⟨.slice _ _ _, rfl, ?_⟩) | (refine eSt H rfl rfl ⟨.pointer _, rfl, ?_⟩) | (refine eSt H rfl rfl ⟨.string _, rfl, ?_⟩) | (refine eSt H rfl rfl ⟨.agg (List.toArray _), rfl, ?_⟩)); (first | (refine kSt 0 rfl rfl (by first | exact T3 | exact T4 | exact T9 | exact T23 | exact T27 | exact T31 | exact T33 | exact T45 | exact T37 | exact T41 | exact T50 | exact T52 | exact T69 | exact T72) rfl (Nat.le_of_ble_eq_true rfl) ?_) | (refine kStA 0 rfl rfl (by first | exact T3 | exact T4 | exact T9 | exact T23 | exact T27 | exact T31 | exact T33 | exact T45 | exact T37 | exact T41 | exact T50 | exact T52 | exact T69 | exact T72) rfl rfl (Nat.le_of_ble_eq_true rfl) ?_)); clear H; intro w1 H; simp only [List.set_cons_zero, List.set_cons_succ] at H; (try simp only [lay, List.take_zero, List.nil_append, List.length_cons, List.length_nil, Nat.zero_add, Nat.reduceAdd, List.drop_succ_cons, List.drop_zero, List.drop_nil, List.append_nil, List.take_succ_cons, List.cons_append] at H))
    | ((with_reducible refine gBx ?_); refine bxA H rfl rfl rfl ?_; clear H; intro b1 w1 H)
    | ((with_reducible refine gBs ?_); (first | (refine bs1 H rfl (by first | exact S33 | exact S45 | exact S31) rfl (Nat.le_of_ble_eq_true rfl) (Nat.le_of_ble_eq_true rfl) rfl ?_) | (refine wl_buildSlice0 rfl (by first | exact S33 | exact S45 | exact S31) H ?_)); clear H; intro b1 w1 H)
    | ((with_reducible refine gEq ?_); (first | (refine wl_cmp rfl rfl rfl rfl ?_) | (refine wl_scmp rfl rfl rfl rfl ?_)); intro rb hrb; cases rb <;> (first | (exfalso; simp at hrb; done) | ((try simp only [decide_eq_true_eq, decide_eq_false_iff_not, beq_iff_eq, beq_eq_false_iff_ne, ne_eq, bne_iff_ne, bne_eq_false_iff_eq, Bool.not_eq_true', Bool.not_eq_false', gt_iff_lt, ge_iff_le, Int.not_lt, Int.not_le, Decidable.not_not] at hrb); (try subst hrb); (try (exfalso; omega)))))
    | ((with_reducible refine gEq ?_); (first | (refine wl_eqAgg G50 (eq50 9998 ⟨_, _⟩ ⟨_, _⟩) rfl rfl rfl ?_) | (refine wl_neAgg G50 (eq50 9998 ⟨_, _⟩ ⟨_, _⟩) rfl rfl rfl ?_)); intro rb hrb; cases rb <;> (try simp only [Bool.not_true, Bool.not_false]))
    | ((with_reducible refine gAl ?_); (first | (refine al H Z50 rfl rfl ?_) | (refine al H Z41 rfl rfl ?_)); clear H; intro b1 w1 H)
    | ((with_reducible refine gRg ?_); refine wp_region_text rfl (by decide +kernel) ?_; replace H := H.drew)
    | (refine EndQ.intro (by kernel_rfl) ?_))
    all_goals go_ret
    all_goals exact ⟨congrArg (fun z => Ending.returned (Value.bool z)) (lEq_len hlen).symm, H⟩
end Go.Proofs.Ytfcmjddpoacenaa
