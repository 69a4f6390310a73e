/- DiskAgain: what the law computes. -/
import Derived.Test.YtfcmjddpoacenaaW12
import Derived.WalkKit
import Derived.Lib.Hide
import Derived.Deep.LoopGhost
import Derived.WalkSpells
set_option linter.unusedVariables false
set_option linter.unusedSimpArgs false
namespace Go.Proofs.Ytfcmjddpoacenaa
open Go.RowKit Go.Gx Go.Gx.Dsk
set_option maxRecDepth 100000
set_option maxHeartbeats 40000000 in
theorem Again_spec {w0 w : World} {D : Nat → Prop} {R : List Ent} {x y : Option Addr} {c1 c2 : Nat} (H : Hp w0 D (R) w) (im : List ByteArray) (l : List Ac) (n : Int) (hX : RdA w0 D x (strs im)) (hY : RdA w0 D y (acs l)) (h1 : im.length ≤ 1100000) (h2 : l.length ≤ 1100000) :
    Calls Try.prog 5 #[.slice x im.length c1, .slice y l.length c2, .int .i64 n] w fun e w' => e = .returned (.bool true) ∧ ∃ L, Hp w0 D L w' := by
  have HX := Lib.hid hX
  have HY := Lib.hid hY
  clear hX hY
  try simp only [dkC, Wr.cells, bmt, eD, eS, eW] at H
  by_cases hE : loadE im = 0
  · have HE := Lib.hid hE
    clear hE
    go_enter Try.func5, Try.ntmps5
    go_wp2_with (first
    | (go_at_call 17; refine (long_spec H (HX.out.rd _) (HY.out.rd _) (by omega) (by omega)).mono ?_; rintro e w1 ⟨hb, rfl, hl2, H1⟩; clear H; have H := H1; clear H1; have HL2 := Lib.hid hl2; clear hl2; cases hb)
    | (go_at_call 10; ((with_reducible refine (live_spec H).mono ?_); rintro e w1 ⟨rfl, H1⟩; clear H; have H := H1; clear H1))
    | (go_at_call 21; refine (made_ok H im l HX.out HY.out (by omega) (by omega) HE.out).mono ?_; rintro e w1 ⟨s, p, f, b, lg, cf, cb, cl, hAt, rfl, H1⟩; have HAT := Lib.hid hAt; clear hAt; clear H; have H := H1; clear H1; have hsl : s.log.length ≤ 2000000 := by (have e2 := HAT.out.log; omega))
    | (go_at_call 22; ((with_reducible refine (Log_spec (s := s) H hsl).mono ?_); rintro e w1 ⟨lo, cl9, rfl, H1⟩; clear H; have H := H1; clear H1))
    | ((with_reducible refine gAp ?_); refine wl_appendC 0 (news := strs im) rfl H rfl rfl rfl S33 (by decide) (Or.inl rfl) rfl rfl (fun h => by have := congrArg List.length ((HX.out.rd R).nil h); simpa using this) ?_ (strs_one _) ((HX.out.rd R).news [_, _, _, _, _, _] H) ?_ ?_ ?_; (· simp); (· (unfold maxLen; omega)); (· omega); clear H; intro nw cn w1 H h0; clear h0; simp only [List.set_cons_zero, List.set_cons_succ, List.nil_append, Nat.mul_one] at H)
    | (go_at_call 13; ((with_reducible refine (num_spec H _).mono ?_); rintro e w1 ⟨rfl, H1⟩; clear H; have H := H1; clear H1))
    | ((with_reducible refine gLd ?_); refine eLd H rfl rfl ?_; first | (refine kLdB 0 rfl rfl (by first | exact T3 | exact T4 | exact T9 | exact T23 | exact T27 | exact T31 | exact T33 | exact T45 | exact T37 | exact T41 | exact T50 | exact T52 | exact T69 | exact T72) rfl ?_; intro rb hrb; cases rb <;> (first | (exfalso; simp at hrb; done) | ((try simp only [decide_eq_true_eq, decide_eq_false_iff_not, beq_iff_eq, beq_eq_false_iff_ne, ne_eq, bne_iff_ne, bne_eq_false_iff_eq, Bool.not_eq_true', Bool.not_eq_false', gt_iff_lt, ge_iff_le, Int.not_lt, Int.not_le, Decidable.not_not] at hrb); (try subst hrb); (try (exfalso; omega))))) | (refine kLd 0 rfl rfl (by first | exact T3 | exact T4 | exact T9 | exact T23 | exact T27 | exact T31 | exact T33 | exact T45 | exact T37 | exact T41 | exact T50 | exact T52 | exact T69 | exact T72) rfl ?_) | (refine kLdA 0 rfl rfl (by first | exact T3 | exact T4 | exact T9 | exact T23 | exact T27 | exact T31 | exact T33 | exact T45 | exact T37 | exact T41 | exact T50 | exact T52 | exact T69 | exact T72) (Nat.le_of_ble_eq_true rfl) (by simp only [dkC, Wr.cells, bmt, eD, eS, eW, List.drop_succ_cons, List.drop_zero, List.take_succ_cons, List.take_zero, List.set_cons_zero, List.set_cons_succ]; rfl) ?_))
    | ((with_reducible refine gSt ?_); (first | (refine eSt H rfl rfl ⟨.int _ _, rfl, ?_⟩) | (refine eSt H rfl rfl ⟨.bool _, rfl, ?_⟩) | (refine eSt H rfl rfl ⟨.slice _ _ _, rfl, ?_⟩) | (refine eSt H rfl rfl ⟨.pointer _, rfl, ?_⟩) | (refine eSt H rfl rfl ⟨.string _, rfl, ?_⟩) | (refine eSt H rfl rfl ⟨.agg (List.toArray _), rfl, ?_⟩)); (first | (refine kSt 0 rfl rfl (by first | exact T3 | exact T4 | exact T9 | exact T23 | exact T27 | exact T31 | exact T33 | exact T45 | exact T37 | exact T41 | exact T50 | exact T52 | exact T69 | exact T72) rfl (Nat.le_of_ble_eq_true rfl) ?_) | (refine kStA 0 rfl rfl (by first | exact T3 | exact T4 | exact T9 | exact T23 | exact T27 | exact T31 | exact T33 | exact T45 | exact T37 | exact T41 | exact T50 | exact T52 | exact T69 | exact T72) rfl rfl (Nat.le_of_ble_eq_true rfl) ?_)); clear H; intro w1 H; simp only [List.set_cons_zero, List.set_cons_succ] at H; (try simp only [lay, List.take_zero, List.nil_append, List.length_cons, List.length_nil, Nat.zero_add, Nat.reduceAdd, List.drop_succ_cons, List.drop_zero, List.drop_nil, List.append_nil, List.take_succ_cons, List.cons_append] at H))
    | ((with_reducible refine gBx ?_); refine bxA H rfl rfl rfl ?_; clear H; intro b1 w1 H)
    | ((with_reducible refine gBs ?_); (first | (refine bs1 H rfl (by first | exact S33 | exact S45 | exact S31) rfl (Nat.le_of_ble_eq_true rfl) (Nat.le_of_ble_eq_true rfl) rfl ?_) | (refine wl_buildSlice0 rfl (by first | exact S33 | exact S45 | exact S31) H ?_)); clear H; intro b1 w1 H)
    | ((with_reducible refine gEq ?_); (first | (refine wl_cmp rfl rfl rfl rfl ?_) | (refine wl_scmp rfl rfl rfl rfl ?_)); intro rb hrb; cases rb <;> (first | (exfalso; simp at hrb; done) | ((try simp only [decide_eq_true_eq, decide_eq_false_iff_not, beq_iff_eq, beq_eq_false_iff_ne, ne_eq, bne_iff_ne, bne_eq_false_iff_eq, Bool.not_eq_true', Bool.not_eq_false', gt_iff_lt, ge_iff_le, Int.not_lt, Int.not_le, Decidable.not_not] at hrb); (try subst hrb); (try (exfalso; omega)))))
    | ((with_reducible refine gEq ?_); (first | (refine wl_eqAgg G50 (eq50 9998 ⟨_, _⟩ ⟨_, _⟩) rfl rfl rfl ?_) | (refine wl_neAgg G50 (eq50 9998 ⟨_, _⟩ ⟨_, _⟩) rfl rfl rfl ?_)); intro rb hrb; cases rb <;> (try simp only [Bool.not_true, Bool.not_false]))
    | ((with_reducible refine gAl ?_); (first | (refine al H Z50 rfl rfl ?_) | (refine al H Z41 rfl rfl ?_)); clear H; intro b1 w1 H)
    | ((with_reducible refine gRg ?_); refine wp_region_text rfl (by decide +kernel) ?_; replace H := H.drew)
    | (refine EndQ.intro (by kernel_rfl) ?_))
    any_goals (go_ret; exact ⟨rfl, _, H⟩)
    have him : im = s.first := HAT.out.first.symm
    subst him
    have hil : s.first.length ≤ 1100000 := h1
    go_loopg [10] (s.log.length + 1) (fun m v wr => ∃ k : Nat, k + m = s.log.length + 1 ∧ k ≤ s.log.length + 1 ∧ v = .int .i64 k ∧ Hp w0 D (eD 72 p f b lg cf cb cl s :: eS f cf s.first :: eS b cb s.now :: eW lg cl s.log :: ⟨nw, strs (playW s.first (s.log.take (k))), 9, cn⟩ :: ⟨lo, wrs s.log, 50, cl9 * 2⟩ :: R) wr)
    case atStart => exact ⟨0, by omega, by omega, rfl, by have H2 := H.swap (A := [_, _]) (B := [_, _, _, _]); simpa [eS, eW, playW] using H2⟩
    case round =>
      clear H HL2
      obtain ⟨k, hkn, hk1, rfl, H⟩ := hrel
      have hln : (playW s.first (s.log.take k)).length = s.first.length := playW_length _ _
      have HLN := Lib.hid hln
      clear hln
      by_cases hk : k < s.log.length
      · have hg : 0 < gk := by omega
        have HKN := Lib.hid hkn
        clear hkn
        have hkl : k ≤ s.log.length := by omega
        have hsf : s.first.length ≤ 2000000 := by omega
        have hcl : (s.cut k).now.length ≤ 2000000 := by show (playW _ _).length ≤ _; rw [playW_length]; omega
        have hcw : (((s.cut k).log.length : Nat) : Int) = k := by simp [Dk.cut]; omega
        have HCW := Lib.hid hcw
        clear hcw
        obtain ⟨⟨i, t⟩, hp⟩ : ∃ q, s.log[k]? = some q := ⟨_, List.getElem?_eq_getElem hk⟩
        have hw := HAT.out.ok.wr _ (List.mem_of_getElem? hp)
        have hw1 : 0 ≤ i := hw.1
        have hw2 : i < s.first.length := hw.2
        clear hw
        obtain ⟨m, rfl⟩ : ∃ m : Nat, i = m := ⟨i.toNat, by omega⟩
        have hst := play_step (l := s.first) hp
        have HP := Lib.hid hp
        have HS := Lib.hid hst
        clear hp hst
        obtain ⟨lb2, rfl⟩ := H.some_of (i := 5) rfl (by rw [wrs_length]; omega)
        obtain ⟨nb2, rfl⟩ := H.some_of (i := 4) rfl (by simp [playW_length]; omega)
        by_cases hkn2 : (k : Int) = n
        · subst hkn2
          go_wp2_with (first
    | (go_at_call 23; ((with_reducible refine (Cut_at (s := s) H rfl rfl hkl hsl hsf HAT.out.ok).mono ?_); rintro e w1 ⟨p6, f6, b6, l6, cf6, cb6, cl6, rfl, H1⟩; clear H; have H := H1; clear H1))
    | (go_at_call 25; ((with_reducible refine (Image_at (s := s.cut k) H hcl rfl rfl).mono ?_); rintro e w1 ⟨a7, c7, rfl, H1⟩; clear H; have H := H1; clear H1))
    | (go_at_call 24; refine (Texts_at (l1 := (s.cut k).now) (l2 := playW s.first (s.log.take k)) H rfl HLN.out (lEq_true rfl) (Rd.ent H (i := 0) rfl) (Rd.ent H (i := 9) rfl) hcl).mono ?_; rintro e w1 ⟨rfl, H1⟩; clear H; have H := H1.drop; clear H1)
    | (go_at_call 26; ((with_reducible refine (Dead_at (s := s.cut k) H rfl).mono ?_); rintro e w1 ⟨rfl, H1⟩; clear H; have H := H1; clear H1))
    | (go_at_call 19; ((with_reducible refine (Writes_at (s := s.cut k) (c := k) H HCW.out).mono ?_); rintro e w1 ⟨rfl, H1⟩; clear H; have H := H1; clear H1))
    | ((with_reducible refine gLd ?_); refine eLd H rfl rfl ?_; (first | (refine kLd 5 rfl rfl T3 (wrs_get (j := 0) HP.out rfl) ?_) | (refine kLd 5 rfl rfl T9 (wrs_get (j := 1) HP.out rfl) ?_) | (refine kLd 9 rfl rfl T3 (wrs_get (j := 0) HP.out rfl) ?_) | (refine kLd 9 rfl rfl T9 (wrs_get (j := 1) HP.out rfl) ?_)))
    | ((with_reducible refine gSt ?_); refine eSt H rfl rfl ⟨.string _, rfl, ?_⟩; (first | (refine kSt 4 rfl rfl T9 rfl ?_ ?_; (· simp [playW_length]; omega)) | (refine kSt 8 rfl rfl T9 rfl ?_ ?_; (· simp [playW_length]; omega))); clear H; intro w1 H; simp only [List.set_cons_zero, List.set_cons_succ, strs_set] at H)
    | (go_at_call 13; ((with_reducible refine (num_spec H _).mono ?_); rintro e w1 ⟨rfl, H1⟩; clear H; have H := H1; clear H1))
    | ((with_reducible refine gLd ?_); refine eLd H rfl rfl ?_; first | (refine kLdB 0 rfl rfl (by first | exact T3 | exact T4 | exact T9 | exact T23 | exact T27 | exact T31 | exact T33 | exact T45 | exact T37 | exact T41 | exact T50 | exact T52 | exact T69 | exact T72) rfl ?_; intro rb hrb; cases rb <;> (first | (exfalso; simp at hrb; done) | ((try simp only [decide_eq_true_eq, decide_eq_false_iff_not, beq_iff_eq, beq_eq_false_iff_ne, ne_eq, bne_iff_ne, bne_eq_false_iff_eq, Bool.not_eq_true', Bool.not_eq_false', gt_iff_lt, ge_iff_le, Int.not_lt, Int.not_le, Decidable.not_not] at hrb); (try subst hrb); (try (exfalso; omega))))) | (refine kLd 0 rfl rfl (by first | exact T3 | exact T4 | exact T9 | exact T23 | exact T27 | exact T31 | exact T33 | exact T45 | exact T37 | exact T41 | exact T50 | exact T52 | exact T69 | exact T72) rfl ?_) | (refine kLdA 0 rfl rfl (by first | exact T3 | exact T4 | exact T9 | exact T23 | exact T27 | exact T31 | exact T33 | exact T45 | exact T37 | exact T41 | exact T50 | exact T52 | exact T69 | exact T72) (Nat.le_of_ble_eq_true rfl) (by simp only [dkC, Wr.cells, bmt, eD, eS, eW, List.drop_succ_cons, List.drop_zero, List.take_succ_cons, List.take_zero, List.set_cons_zero, List.set_cons_succ]; rfl) ?_))
    | ((with_reducible refine gSt ?_); (first | (refine eSt H rfl rfl ⟨.int _ _, rfl, ?_⟩) | (refine eSt H rfl rfl ⟨.bool _, rfl, ?_⟩) | (refine eSt H rfl rfl ⟨.slice _ _ _, rfl, ?_⟩) | (refine eSt H rfl rfl ⟨.pointer _, rfl, ?_⟩) | (refine eSt H rfl rfl ⟨.string _, rfl, ?_⟩) | (refine eSt H rfl rfl ⟨.agg (List.toArray _), rfl, ?_⟩)); (first | (refine kSt 0 rfl rfl (by first | exact T3 | exact T4 | exact T9 | exact T23 | exact T27 | exact T31 | exact T33 | exact T45 | exact T37 | exact T41 | exact T50 | exact T52 | exact T69 | exact T72) rfl (Nat.le_of_ble_eq_true rfl) ?_) | (refine kStA 0 rfl rfl (by first | exact T3 | exact T4 | exact T9 | exact T23 | exact T27 | exact T31 | exact T33 | exact T45 | exact T37 | exact T41 | exact T50 | exact T52 | exact T69 | exact T72) rfl rfl (Nat.le_of_ble_eq_true rfl) ?_)); clear H; intro w1 H; simp only [List.set_cons_zero, List.set_cons_succ] at H; (try simp only [lay, List.take_zero, List.nil_append, List.length_cons, List.length_nil, Nat.zero_add, Nat.reduceAdd, List.drop_succ_cons, List.drop_zero, List.drop_nil, List.append_nil, List.take_succ_cons, List.cons_append] at H))
    | ((with_reducible refine gBx ?_); refine bxA H rfl rfl rfl ?_; clear H; intro b1 w1 H)
    | ((with_reducible refine gBs ?_); (first | (refine bs1 H rfl (by first | exact S33 | exact S45 | exact S31) rfl (Nat.le_of_ble_eq_true rfl) (Nat.le_of_ble_eq_true rfl) rfl ?_) | (refine wl_buildSlice0 rfl (by first | exact S33 | exact S45 | exact S31) H ?_)); clear H; intro b1 w1 H)
    | ((with_reducible refine gEq ?_); (first | (refine wl_cmp rfl rfl rfl rfl ?_) | (refine wl_scmp rfl rfl rfl rfl ?_)); intro rb hrb; cases rb <;> (first | (exfalso; simp at hrb; done) | ((try simp only [decide_eq_true_eq, decide_eq_false_iff_not, beq_iff_eq, beq_eq_false_iff_ne, ne_eq, bne_iff_ne, bne_eq_false_iff_eq, Bool.not_eq_true', Bool.not_eq_false', gt_iff_lt, ge_iff_le, Int.not_lt, Int.not_le, Decidable.not_not] at hrb); (try subst hrb); (try (exfalso; omega)))))
    | ((with_reducible refine gEq ?_); (first | (refine wl_eqAgg G50 (eq50 9998 ⟨_, _⟩ ⟨_, _⟩) rfl rfl rfl ?_) | (refine wl_neAgg G50 (eq50 9998 ⟨_, _⟩ ⟨_, _⟩) rfl rfl rfl ?_)); intro rb hrb; cases rb <;> (try simp only [Bool.not_true, Bool.not_false]))
    | ((with_reducible refine gAl ?_); (first | (refine al H Z50 rfl rfl ?_) | (refine al H Z41 rfl rfl ?_)); clear H; intro b1 w1 H)
    | ((with_reducible refine gRg ?_); refine wp_region_text rfl (by decide +kernel) ?_; replace H := H.drew)
    | (refine EndQ.intro (by kernel_rfl) ?_))
          any_goals go_roundg (gk - 1)
          all_goals first
            | omega
            | (refine ⟨k + 1, ?_, ?_, ?_, ?_⟩; (· have := HKN.out; omega); (· omega); (· go_num); (· rw [HS.out] at H; exact H.dropL (A := [_, _, _, _])))
        · skip
          go_wp2_with (first
    | (go_at_call 23; ((with_reducible refine (Cut_at (s := s) H rfl rfl hkl hsl hsf HAT.out.ok).mono ?_); rintro e w1 ⟨p6, f6, b6, l6, cf6, cb6, cl6, rfl, H1⟩; clear H; have H := H1; clear H1))
    | (go_at_call 25; ((with_reducible refine (Image_at (s := s.cut k) H hcl rfl rfl).mono ?_); rintro e w1 ⟨a7, c7, rfl, H1⟩; clear H; have H := H1; clear H1))
    | (go_at_call 24; refine (Texts_at (l1 := (s.cut k).now) (l2 := playW s.first (s.log.take k)) H rfl HLN.out (lEq_true rfl) (Rd.ent H (i := 0) rfl) (Rd.ent H (i := 9) rfl) hcl).mono ?_; rintro e w1 ⟨rfl, H1⟩; clear H; have H := H1.drop; clear H1)
    | (go_at_call 26; ((with_reducible refine (Dead_at (s := s.cut k) H rfl).mono ?_); rintro e w1 ⟨rfl, H1⟩; clear H; have H := H1; clear H1))
    | (go_at_call 19; ((with_reducible refine (Writes_at (s := s.cut k) (c := k) H HCW.out).mono ?_); rintro e w1 ⟨rfl, H1⟩; clear H; have H := H1; clear H1))
    | ((with_reducible refine gLd ?_); refine eLd H rfl rfl ?_; (first | (refine kLd 5 rfl rfl T3 (wrs_get (j := 0) HP.out rfl) ?_) | (refine kLd 5 rfl rfl T9 (wrs_get (j := 1) HP.out rfl) ?_) | (refine kLd 9 rfl rfl T3 (wrs_get (j := 0) HP.out rfl) ?_) | (refine kLd 9 rfl rfl T9 (wrs_get (j := 1) HP.out rfl) ?_)))
    | ((with_reducible refine gSt ?_); refine eSt H rfl rfl ⟨.string _, rfl, ?_⟩; (first | (refine kSt 4 rfl rfl T9 rfl ?_ ?_; (· simp [playW_length]; omega)) | (refine kSt 8 rfl rfl T9 rfl ?_ ?_; (· simp [playW_length]; omega))); clear H; intro w1 H; simp only [List.set_cons_zero, List.set_cons_succ, strs_set] at H)
    | (go_at_call 13; ((with_reducible refine (num_spec H _).mono ?_); rintro e w1 ⟨rfl, H1⟩; clear H; have H := H1; clear H1))
    | ((with_reducible refine gLd ?_); refine eLd H rfl rfl ?_; first | (refine kLdB 0 rfl rfl (by first | exact T3 | exact T4 | exact T9 | exact T23 | exact T27 | exact T31 | exact T33 | exact T45 | exact T37 | exact T41 | exact T50 | exact T52 | exact T69 | exact T72) rfl ?_; intro rb hrb; cases rb <;> (first | (exfalso; simp at hrb; done) | ((try simp only [decide_eq_true_eq, decide_eq_false_iff_not, beq_iff_eq, beq_eq_false_iff_ne, ne_eq, bne_iff_ne, bne_eq_false_iff_eq, Bool.not_eq_true', Bool.not_eq_false', gt_iff_lt, ge_iff_le, Int.not_lt, Int.not_le, Decidable.not_not] at hrb); (try subst hrb); (try (exfalso; omega))))) | (refine kLd 0 rfl rfl (by first | exact T3 | exact T4 | exact T9 | exact T23 | exact T27 | exact T31 | exact T33 | exact T45 | exact T37 | exact T41 | exact T50 | exact T52 | exact T69 | exact T72) rfl ?_) | (refine kLdA 0 rfl rfl (by first | exact T3 | exact T4 | exact T9 | exact T23 | exact T27 | exact T31 | exact T33 | exact T45 | exact T37 | exact T41 | exact T50 | exact T52 | exact T69 | exact T72) (Nat.le_of_ble_eq_true rfl) (by simp only [dkC, Wr.cells, bmt, eD, eS, eW, List.drop_succ_cons, List.drop_zero, List.take_succ_cons, List.take_zero, List.set_cons_zero, List.set_cons_succ]; rfl) ?_))
    | ((with_reducible refine gSt ?_); (first | (refine eSt H rfl rfl ⟨.int _ _, rfl, ?_⟩) | (refine eSt H rfl rfl ⟨.bool _, rfl, ?_⟩) | (refine eSt H rfl rfl ⟨.slice _ _ _, rfl, ?_⟩) | (refine eSt H rfl rfl ⟨.pointer _, rfl, ?_⟩) | (refine eSt H rfl rfl ⟨.string _, rfl, ?_⟩) | (refine eSt H rfl rfl ⟨.agg (List.toArray _), rfl, ?_⟩)); (first | (refine kSt 0 rfl rfl (by first | exact T3 | exact T4 | exact T9 | exact T23 | exact T27 | exact T31 | exact T33 | exact T45 | exact T37 | exact T41 | exact T50 | exact T52 | exact T69 | exact T72) rfl (Nat.le_of_ble_eq_true rfl) ?_) | (refine kStA 0 rfl rfl (by first | exact T3 | exact T4 | exact T9 | exact T23 | exact T27 | exact T31 | exact T33 | exact T45 | exact T37 | exact T41 | exact T50 | exact T52 | exact T69 | exact T72) rfl rfl (Nat.le_of_ble_eq_true rfl) ?_)); clear H; intro w1 H; simp only [List.set_cons_zero, List.set_cons_succ] at H; (try simp only [lay, List.take_zero, List.nil_append, List.length_cons, List.length_nil, Nat.zero_add, Nat.reduceAdd, List.drop_succ_cons, List.drop_zero, List.drop_nil, List.append_nil, List.take_succ_cons, List.cons_append] at H))
    | ((with_reducible refine gBx ?_); refine bxA H rfl rfl rfl ?_; clear H; intro b1 w1 H)
    | ((with_reducible refine gBs ?_); (first | (refine bs1 H rfl (by first | exact S33 | exact S45 | exact S31) rfl (Nat.le_of_ble_eq_true rfl) (Nat.le_of_ble_eq_true rfl) rfl ?_) | (refine wl_buildSlice0 rfl (by first | exact S33 | exact S45 | exact S31) H ?_)); clear H; intro b1 w1 H)
    | ((with_reducible refine gEq ?_); (first | (refine wl_cmp rfl rfl rfl rfl ?_) | (refine wl_scmp rfl rfl rfl rfl ?_)); intro rb hrb; cases rb <;> (first | (exfalso; simp at hrb; done) | ((try simp only [decide_eq_true_eq, decide_eq_false_iff_not, beq_iff_eq, beq_eq_false_iff_ne, ne_eq, bne_iff_ne, bne_eq_false_iff_eq, Bool.not_eq_true', Bool.not_eq_false', gt_iff_lt, ge_iff_le, Int.not_lt, Int.not_le, Decidable.not_not] at hrb); (try subst hrb); (try (exfalso; omega)))))
    | ((with_reducible refine gEq ?_); (first | (refine wl_eqAgg G50 (eq50 9998 ⟨_, _⟩ ⟨_, _⟩) rfl rfl rfl ?_) | (refine wl_neAgg G50 (eq50 9998 ⟨_, _⟩ ⟨_, _⟩) rfl rfl rfl ?_)); intro rb hrb; cases rb <;> (try simp only [Bool.not_true, Bool.not_false]))
    | ((with_reducible refine gAl ?_); (first | (refine al H Z50 rfl rfl ?_) | (refine al H Z41 rfl rfl ?_)); clear H; intro b1 w1 H)
    | ((with_reducible refine gRg ?_); refine wp_region_text rfl (by decide +kernel) ?_; replace H := H.drew)
    | (refine EndQ.intro (by kernel_rfl) ?_))
          any_goals go_roundg (gk - 1)
          all_goals first
            | omega
            | (refine ⟨k + 1, ?_, ?_, ?_, ?_⟩; (· have := HKN.out; omega); (· omega); (· go_num); (· rw [HS.out] at H; exact H))
      · by_cases hk2 : k = s.log.length
        · have hg : 0 < gk := by omega
          have HKN := Lib.hid hkn
          clear hkn
          have hkl : k ≤ s.log.length := by omega
          have hsf : s.first.length ≤ 2000000 := by omega
          have hcl : (s.cut k).now.length ≤ 2000000 := by show (playW _ _).length ≤ _; rw [playW_length]; omega
          have hcw : (((s.cut k).log.length : Nat) : Int) = k := by simp [Dk.cut]; omega
          have HCW := Lib.hid hcw
          clear hcw
          have htk : s.log.take (k + 1) = s.log.take k := by rw [List.take_of_length_le (by omega), List.take_of_length_le (by omega)]
          have HTK := Lib.hid htk
          have hkz : (s.log.length : Int) = k := by omega
          clear htk hk hk1
          subst hk2
          by_cases hkn2 : ((s.log.length : Nat) : Int) = n
          · subst hkn2
            go_wp2_with (first
    | (go_at_call 23; ((with_reducible refine (Cut_at (s := s) H rfl rfl hkl hsl hsf HAT.out.ok).mono ?_); rintro e w1 ⟨p6, f6, b6, l6, cf6, cb6, cl6, rfl, H1⟩; clear H; have H := H1; clear H1))
    | (go_at_call 25; ((with_reducible refine (Image_at (s := s.cut s.log.length) H hcl rfl rfl).mono ?_); rintro e w1 ⟨a7, c7, rfl, H1⟩; clear H; have H := H1; clear H1))
    | (go_at_call 24; refine (Texts_at (l1 := (s.cut s.log.length).now) (l2 := playW s.first (s.log.take s.log.length)) H rfl HLN.out (lEq_true rfl) (Rd.ent H (i := 0) rfl) (Rd.ent H (i := 9) rfl) hcl).mono ?_; rintro e w1 ⟨rfl, H1⟩; clear H; have H := H1.drop; clear H1)
    | (go_at_call 26; ((with_reducible refine (Dead_at (s := s.cut s.log.length) H rfl).mono ?_); rintro e w1 ⟨rfl, H1⟩; clear H; have H := H1; clear H1))
    | (go_at_call 19; ((with_reducible refine (Writes_at (s := s.cut s.log.length) (c := (s.log.length : Nat)) H HCW.out).mono ?_); rintro e w1 ⟨rfl, H1⟩; clear H; have H := H1; clear H1))
    | ((with_reducible refine gLd ?_); refine eLd H rfl rfl ?_; (first | (refine kLd 5 rfl rfl T3 (wrs_get (j := 0) HP.out rfl) ?_) | (refine kLd 5 rfl rfl T9 (wrs_get (j := 1) HP.out rfl) ?_) | (refine kLd 9 rfl rfl T3 (wrs_get (j := 0) HP.out rfl) ?_) | (refine kLd 9 rfl rfl T9 (wrs_get (j := 1) HP.out rfl) ?_)))
    | ((with_reducible refine gSt ?_); refine eSt H rfl rfl ⟨.string _, rfl, ?_⟩; (first | (refine kSt 4 rfl rfl T9 rfl ?_ ?_; (· simp [playW_length]; omega)) | (refine kSt 8 rfl rfl T9 rfl ?_ ?_; (· simp [playW_length]; omega))); clear H; intro w1 H; simp only [List.set_cons_zero, List.set_cons_succ, strs_set] at H)
    | (go_at_call 13; ((with_reducible refine (num_spec H _).mono ?_); rintro e w1 ⟨rfl, H1⟩; clear H; have H := H1; clear H1))
    | ((with_reducible refine gLd ?_); refine eLd H rfl rfl ?_; first | (refine kLdB 0 rfl rfl (by first | exact T3 | exact T4 | exact T9 | exact T23 | exact T27 | exact T31 | exact T33 | exact T45 | exact T37 | exact T41 | exact T50 | exact T52 | exact T69 | exact T72) rfl ?_; intro rb hrb; cases rb <;> (first | (exfalso; simp at hrb; done) | ((try simp only [decide_eq_true_eq, decide_eq_false_iff_not, beq_iff_eq, beq_eq_false_iff_ne, ne_eq, bne_iff_ne, bne_eq_false_iff_eq, Bool.not_eq_true', Bool.not_eq_false', gt_iff_lt, ge_iff_le, Int.not_lt, Int.not_le, Decidable.not_not] at hrb); (try subst hrb); (try (exfalso; omega))))) | (refine kLd 0 rfl rfl (by first | exact T3 | exact T4 | exact T9 | exact T23 | exact T27 | exact T31 | exact T33 | exact T45 | exact T37 | exact T41 | exact T50 | exact T52 | exact T69 | exact T72) rfl ?_) | (refine kLdA 0 rfl rfl (by first | exact T3 | exact T4 | exact T9 | exact T23 | exact T27 | exact T31 | exact T33 | exact T45 | exact T37 | exact T41 | exact T50 | exact T52 | exact T69 | exact T72) (Nat.le_of_ble_eq_true rfl) (by simp only [dkC, Wr.cells, bmt, eD, eS, eW, List.drop_succ_cons, List.drop_zero, List.take_succ_cons, List.take_zero, List.set_cons_zero, List.set_cons_succ]; rfl) ?_))
    | ((with_reducible refine gSt ?_); (first | (refine eSt H rfl rfl ⟨.int _ _, rfl, ?_⟩) | (refine eSt H rfl rfl ⟨.bool _, rfl, ?_⟩) | (refine eSt H rfl rfl ⟨.slice _ _ _, rfl, ?_⟩) | (refine eSt H rfl rfl ⟨.pointer _, rfl, ?_⟩) | (refine eSt H rfl rfl ⟨.string _, rfl, ?_⟩) | (refine eSt H rfl rfl ⟨.agg (List.toArray _), rfl, ?_⟩)); (first | (refine kSt 0 rfl rfl (by first | exact T3 | exact T4 | exact T9 | exact T23 | exact T27 | exact T31 | exact T33 | exact T45 | exact T37 | exact T41 | exact T50 | exact T52 | exact T69 | exact T72) rfl (Nat.le_of_ble_eq_true rfl) ?_) | (refine kStA 0 rfl rfl (by first | exact T3 | exact T4 | exact T9 | exact T23 | exact T27 | exact T31 | exact T33 | exact T45 | exact T37 | exact T41 | exact T50 | exact T52 | exact T69 | exact T72) rfl rfl (Nat.le_of_ble_eq_true rfl) ?_)); clear H; intro w1 H; simp only [List.set_cons_zero, List.set_cons_succ] at H; (try simp only [lay, List.take_zero, List.nil_append, List.length_cons, List.length_nil, Nat.zero_add, Nat.reduceAdd, List.drop_succ_cons, List.drop_zero, List.drop_nil, List.append_nil, List.take_succ_cons, List.cons_append] at H))
    | ((with_reducible refine gBx ?_); refine bxA H rfl rfl rfl ?_; clear H; intro b1 w1 H)
    | ((with_reducible refine gBs ?_); (first | (refine bs1 H rfl (by first | exact S33 | exact S45 | exact S31) rfl (Nat.le_of_ble_eq_true rfl) (Nat.le_of_ble_eq_true rfl) rfl ?_) | (refine wl_buildSlice0 rfl (by first | exact S33 | exact S45 | exact S31) H ?_)); clear H; intro b1 w1 H)
    | ((with_reducible refine gEq ?_); (first | (refine wl_cmp rfl rfl rfl rfl ?_) | (refine wl_scmp rfl rfl rfl rfl ?_)); intro rb hrb; cases rb <;> (first | (exfalso; simp at hrb; done) | ((try simp only [decide_eq_true_eq, decide_eq_false_iff_not, beq_iff_eq, beq_eq_false_iff_ne, ne_eq, bne_iff_ne, bne_eq_false_iff_eq, Bool.not_eq_true', Bool.not_eq_false', gt_iff_lt, ge_iff_le, Int.not_lt, Int.not_le, Decidable.not_not] at hrb); (try subst hrb); (try (exfalso; omega)))))
    | ((with_reducible refine gEq ?_); (first | (refine wl_eqAgg G50 (eq50 9998 ⟨_, _⟩ ⟨_, _⟩) rfl rfl rfl ?_) | (refine wl_neAgg G50 (eq50 9998 ⟨_, _⟩ ⟨_, _⟩) rfl rfl rfl ?_)); intro rb hrb; cases rb <;> (try simp only [Bool.not_true, Bool.not_false]))
    | ((with_reducible refine gAl ?_); (first | (refine al H Z50 rfl rfl ?_) | (refine al H Z41 rfl rfl ?_)); clear H; intro b1 w1 H)
    | ((with_reducible refine gRg ?_); refine wp_region_text rfl (by decide +kernel) ?_; replace H := H.drew)
    | (refine EndQ.intro (by kernel_rfl) ?_))
            any_goals go_roundg (gk - 1)
            all_goals first
              | omega
              | (refine ⟨s.log.length + 1, ?_, ?_, ?_, ?_⟩; (· have := HKN.out; omega); (· omega); (· go_num); (· rw [HTK.out]; exact H.dropL (A := [_, _, _, _])))
          · skip
            go_wp2_with (first
    | (go_at_call 23; ((with_reducible refine (Cut_at (s := s) H rfl rfl hkl hsl hsf HAT.out.ok).mono ?_); rintro e w1 ⟨p6, f6, b6, l6, cf6, cb6, cl6, rfl, H1⟩; clear H; have H := H1; clear H1))
    | (go_at_call 25; ((with_reducible refine (Image_at (s := s.cut s.log.length) H hcl rfl rfl).mono ?_); rintro e w1 ⟨a7, c7, rfl, H1⟩; clear H; have H := H1; clear H1))
    | (go_at_call 24; refine (Texts_at (l1 := (s.cut s.log.length).now) (l2 := playW s.first (s.log.take s.log.length)) H rfl HLN.out (lEq_true rfl) (Rd.ent H (i := 0) rfl) (Rd.ent H (i := 9) rfl) hcl).mono ?_; rintro e w1 ⟨rfl, H1⟩; clear H; have H := H1.drop; clear H1)
    | (go_at_call 26; ((with_reducible refine (Dead_at (s := s.cut s.log.length) H rfl).mono ?_); rintro e w1 ⟨rfl, H1⟩; clear H; have H := H1; clear H1))
    | (go_at_call 19; ((with_reducible refine (Writes_at (s := s.cut s.log.length) (c := (s.log.length : Nat)) H HCW.out).mono ?_); rintro e w1 ⟨rfl, H1⟩; clear H; have H := H1; clear H1))
    | ((with_reducible refine gLd ?_); refine eLd H rfl rfl ?_; (first | (refine kLd 5 rfl rfl T3 (wrs_get (j := 0) HP.out rfl) ?_) | (refine kLd 5 rfl rfl T9 (wrs_get (j := 1) HP.out rfl) ?_) | (refine kLd 9 rfl rfl T3 (wrs_get (j := 0) HP.out rfl) ?_) | (refine kLd 9 rfl rfl T9 (wrs_get (j := 1) HP.out rfl) ?_)))
    | ((with_reducible refine gSt ?_); refine eSt H rfl rfl ⟨.string _, rfl, ?_⟩; (first | (refine kSt 4 rfl rfl T9 rfl ?_ ?_; (· simp [playW_length]; omega)) | (refine kSt 8 rfl rfl T9 rfl ?_ ?_; (· simp [playW_length]; omega))); clear H; intro w1 H; simp only [List.set_cons_zero, List.set_cons_succ, strs_set] at H)
    | (go_at_call 13; ((with_reducible refine (num_spec H _).mono ?_); rintro e w1 ⟨rfl, H1⟩; clear H; have H := H1; clear H1))
    | ((with_reducible refine gLd ?_); refine eLd H rfl rfl ?_; first | (refine kLdB 0 rfl rfl (by first | exact T3 | exact T4 | exact T9 | exact T23 | exact T27 | exact T31 | exact T33 | exact T45 | exact T37 | exact T41 | exact T50 | exact T52 | exact T69 | exact T72) rfl ?_; intro rb hrb; cases rb <;> (first | (exfalso; simp at hrb; done) | ((try simp only [decide_eq_true_eq, decide_eq_false_iff_not, beq_iff_eq, beq_eq_false_iff_ne, ne_eq, bne_iff_ne, bne_eq_false_iff_eq, Bool.not_eq_true', Bool.not_eq_false', gt_iff_lt, ge_iff_le, Int.not_lt, Int.not_le, Decidable.not_not] at hrb); (try subst hrb); (try (exfalso; omega))))) | (refine kLd 0 rfl rfl (by first | exact T3 | exact T4 | exact T9 | exact T23 | exact T27 | exact T31 | exact T33 | exact T45 | exact T37 | exact T41 | exact T50 | exact T52 | exact T69 | exact T72) rfl ?_) | (refine kLdA 0 rfl rfl (by first | exact T3 | exact T4 | exact T9 | exact T23 | exact T27 | exact T31 | exact T33 | exact T45 | exact T37 | exact T41 | exact T50 | exact T52 | exact T69 | exact T72) (Nat.le_of_ble_eq_true rfl) (by simp only [dkC, Wr.cells, bmt, eD, eS, eW, List.drop_succ_cons, List.drop_zero, List.take_succ_cons, List.take_zero, List.set_cons_zero, List.set_cons_succ]; rfl) ?_))
    | ((with_reducible refine gSt ?_); (first | (refine eSt H rfl rfl ⟨.int _ _, rfl, ?_⟩) | (refine eSt H rfl rfl ⟨.bool _, rfl, ?_⟩) | (refine eSt H rfl rfl ⟨.slice _ _ _, rfl, ?_⟩) | (refine eSt H rfl rfl ⟨.pointer _, rfl, ?_⟩) | (refine eSt H rfl rfl ⟨.string _, rfl, ?_⟩) | (refine eSt H rfl rfl ⟨.agg (List.toArray _), rfl, ?_⟩)); (first | (refine kSt 0 rfl rfl (by first | exact T3 | exact T4 | exact T9 | exact T23 | exact T27 | exact T31 | exact T33 | exact T45 | exact T37 | exact T41 | exact T50 | exact T52 | exact T69 | exact T72) rfl (Nat.le_of_ble_eq_true rfl) ?_) | (refine kStA 0 rfl rfl (by first | exact T3 | exact T4 | exact T9 | exact T23 | exact T27 | exact T31 | exact T33 | exact T45 | exact T37 | exact T41 | exact T50 | exact T52 | exact T69 | exact T72) rfl rfl (Nat.le_of_ble_eq_true rfl) ?_)); clear H; intro w1 H; simp only [List.set_cons_zero, List.set_cons_succ] at H; (try simp only [lay, List.take_zero, List.nil_append, List.length_cons, List.length_nil, Nat.zero_add, Nat.reduceAdd, List.drop_succ_cons, List.drop_zero, List.drop_nil, List.append_nil, List.take_succ_cons, List.cons_append] at H))
    | ((with_reducible refine gBx ?_); refine bxA H rfl rfl rfl ?_; clear H; intro b1 w1 H)
    | ((with_reducible refine gBs ?_); (first | (refine bs1 H rfl (by first | exact S33 | exact S45 | exact S31) rfl (Nat.le_of_ble_eq_true rfl) (Nat.le_of_ble_eq_true rfl) rfl ?_) | (refine wl_buildSlice0 rfl (by first | exact S33 | exact S45 | exact S31) H ?_)); clear H; intro b1 w1 H)
    | ((with_reducible refine gEq ?_); (first | (refine wl_cmp rfl rfl rfl rfl ?_) | (refine wl_scmp rfl rfl rfl rfl ?_)); intro rb hrb; cases rb <;> (first | (exfalso; simp at hrb; done) | ((try simp only [decide_eq_true_eq, decide_eq_false_iff_not, beq_iff_eq, beq_eq_false_iff_ne, ne_eq, bne_iff_ne, bne_eq_false_iff_eq, Bool.not_eq_true', Bool.not_eq_false', gt_iff_lt, ge_iff_le, Int.not_lt, Int.not_le, Decidable.not_not] at hrb); (try subst hrb); (try (exfalso; omega)))))
    | ((with_reducible refine gEq ?_); (first | (refine wl_eqAgg G50 (eq50 9998 ⟨_, _⟩ ⟨_, _⟩) rfl rfl rfl ?_) | (refine wl_neAgg G50 (eq50 9998 ⟨_, _⟩ ⟨_, _⟩) rfl rfl rfl ?_)); intro rb hrb; cases rb <;> (try simp only [Bool.not_true, Bool.not_false]))
    | ((with_reducible refine gAl ?_); (first | (refine al H Z50 rfl rfl ?_) | (refine al H Z41 rfl rfl ?_)); clear H; intro b1 w1 H)
    | ((with_reducible refine gRg ?_); refine wp_region_text rfl (by decide +kernel) ?_; replace H := H.drew)
    | (refine EndQ.intro (by kernel_rfl) ?_))
            any_goals go_roundg (gk - 1)
            all_goals first
              | omega
              | (refine ⟨s.log.length + 1, ?_, ?_, ?_, ?_⟩; (· have := HKN.out; omega); (· omega); (· go_num); (· rw [HTK.out]; exact H.dropL (A := [_, _, _, _])))
        · obtain rfl : k = s.log.length + 1 := by omega
          clear hkn hk hk1 hk2
          have hsf : s.first.length ≤ 2000000 := by omega
          have hsn : s.now.length ≤ 2000000 := by rw [← HAT.out.ok.len]; omega
          have hcl : (s.cut s.log.length).now.length ≤ 2000000 := by show (playW _ _).length ≤ _; rw [playW_length]; omega
          have hpl : s.now = playW s.first (s.log.take (s.log.length + 1)) := by rw [List.take_of_length_le (by omega)]; exact HAT.out.ok.play.symm
          have HPL := Lib.hid hpl
          clear hpl
          go_wp2_with (first
    | (go_at_call 23; ((with_reducible refine (Cut_at (s := s) H rfl rfl (Nat.le_refl _) hsl hsf HAT.out.ok).mono ?_); rintro e w1 ⟨p6, f6, b6, l6, cf6, cb6, cl6, rfl, H1⟩; clear H; have H := H1; clear H1))
    | (go_at_call 19; ((with_reducible refine (Writes_at (s := s) H rfl).mono ?_); rintro e w1 ⟨rfl, H1⟩; clear H; have H := H1; clear H1))
    | (go_at_call 25; replace H := H.swap (A := [_, _, _, _]) (B := [_, _, _, _]); simp only [List.cons_append, List.nil_append] at H; ((with_reducible refine (Image_at (s := s) H hsn rfl rfl).mono ?_); rintro e w1 ⟨a7, c7, rfl, H1⟩; clear H; have H := H1; clear H1))
    | (go_at_call 24; refine (Texts_at (l1 := s.now) (l2 := playW s.first (s.log.take (s.log.length + 1))) H rfl HLN.out (lEq_true HPL.out) (Rd.ent H (i := 0) rfl) (Rd.ent H (i := 9) rfl) hsn).mono ?_; rintro e w1 ⟨rfl, H1⟩; clear H; have H := H1.drop; clear H1)
    | (go_at_call 20; replace H := H.swap (A := [_, _, _, _]) (B := [_, _, _, _]); simp only [List.cons_append, List.nil_append] at H; refine (Same_spec (s := s.cut s.log.length) (s2 := s) H hcl).mono ?_; rintro e w1 ⟨rfl, H1⟩; clear H; have H := H1; clear H1; rw [lEq_true (cut_whole HAT.out.ok)])
    | (go_at_call 10; ((with_reducible refine (live_spec H).mono ?_); rintro e w1 ⟨rfl, H1⟩; clear H; have H := H1; clear H1))
    | (go_at_call 13; ((with_reducible refine (num_spec H _).mono ?_); rintro e w1 ⟨rfl, H1⟩; clear H; have H := H1; clear H1))
    | ((with_reducible refine gLd ?_); refine eLd H rfl rfl ?_; first | (refine kLdB 0 rfl rfl (by first | exact T3 | exact T4 | exact T9 | exact T23 | exact T27 | exact T31 | exact T33 | exact T45 | exact T37 | exact T41 | exact T50 | exact T52 | exact T69 | exact T72) rfl ?_; intro rb hrb; cases rb <;> (first | (exfalso; simp at hrb; done) | ((try simp only [decide_eq_true_eq, decide_eq_false_iff_not, beq_iff_eq, beq_eq_false_iff_ne, ne_eq, bne_iff_ne, bne_eq_false_iff_eq, Bool.not_eq_true', Bool.not_eq_false', gt_iff_lt, ge_iff_le, Int.not_lt, Int.not_le, Decidable.not_not] at hrb); (try subst hrb); (try (exfalso; omega))))) | (refine kLd 0 rfl rfl (by first | exact T3 | exact T4 | exact T9 | exact T23 | exact T27 | exact T31 | exact T33 | exact T45 | exact T37 | exact T41 | exact T50 | exact T52 | exact T69 | exact T72) rfl ?_) | (refine kLdA 0 rfl rfl (by first | exact T3 | exact T4 | exact T9 | exact T23 | exact T27 | exact T31 | exact T33 | exact T45 | exact T37 | exact T41 | exact T50 | exact T52 | exact T69 | exact T72) (Nat.le_of_ble_eq_true rfl) (by simp only [dkC, Wr.cells, bmt, eD, eS, eW, List.drop_succ_cons, List.drop_zero, List.take_succ_cons, List.take_zero, List.set_cons_zero, List.set_cons_succ]; rfl) ?_))
    | ((with_reducible refine gSt ?_); (first | (refine eSt H rfl rfl ⟨.int _ _, rfl, ?_⟩) | (refine eSt H rfl rfl ⟨.bool _, rfl, ?_⟩) | (refine eSt H rfl rfl ⟨.slice _ _ _, rfl, ?_⟩) | (refine eSt H rfl rfl ⟨.pointer _, rfl, ?_⟩) | (refine eSt H rfl rfl ⟨.string _, rfl, ?_⟩) | (refine eSt H rfl rfl ⟨.agg (List.toArray _), rfl, ?_⟩)); (first | (refine kSt 0 rfl rfl (by first | exact T3 | exact T4 | exact T9 | exact T23 | exact T27 | exact T31 | exact T33 | exact T45 | exact T37 | exact T41 | exact T50 | exact T52 | exact T69 | exact T72) rfl (Nat.le_of_ble_eq_true rfl) ?_) | (refine kStA 0 rfl rfl (by first | exact T3 | exact T4 | exact T9 | exact T23 | exact T27 | exact T31 | exact T33 | exact T45 | exact T37 | exact T41 | exact T50 | exact T52 | exact T69 | exact T72) rfl rfl (Nat.le_of_ble_eq_true rfl) ?_)); clear H; intro w1 H; simp only [List.set_cons_zero, List.set_cons_succ] at H; (try simp only [lay, List.take_zero, List.nil_append, List.length_cons, List.length_nil, Nat.zero_add, Nat.reduceAdd, List.drop_succ_cons, List.drop_zero, List.drop_nil, List.append_nil, List.take_succ_cons, List.cons_append] at H))
    | ((with_reducible refine gBx ?_); refine bxA H rfl rfl rfl ?_; clear H; intro b1 w1 H)
    | ((with_reducible refine gBs ?_); (first | (refine bs1 H rfl (by first | exact S33 | exact S45 | exact S31) rfl (Nat.le_of_ble_eq_true rfl) (Nat.le_of_ble_eq_true rfl) rfl ?_) | (refine wl_buildSlice0 rfl (by first | exact S33 | exact S45 | exact S31) H ?_)); clear H; intro b1 w1 H)
    | ((with_reducible refine gEq ?_); (first | (refine wl_cmp rfl rfl rfl rfl ?_) | (refine wl_scmp rfl rfl rfl rfl ?_)); intro rb hrb; cases rb <;> (first | (exfalso; simp at hrb; done) | ((try simp only [decide_eq_true_eq, decide_eq_false_iff_not, beq_iff_eq, beq_eq_false_iff_ne, ne_eq, bne_iff_ne, bne_eq_false_iff_eq, Bool.not_eq_true', Bool.not_eq_false', gt_iff_lt, ge_iff_le, Int.not_lt, Int.not_le, Decidable.not_not] at hrb); (try subst hrb); (try (exfalso; omega)))))
    | ((with_reducible refine gEq ?_); (first | (refine wl_eqAgg G50 (eq50 9998 ⟨_, _⟩ ⟨_, _⟩) rfl rfl rfl ?_) | (refine wl_neAgg G50 (eq50 9998 ⟨_, _⟩ ⟨_, _⟩) rfl rfl rfl ?_)); intro rb hrb; cases rb <;> (try simp only [Bool.not_true, Bool.not_false]))
    | ((with_reducible refine gAl ?_); (first | (refine al H Z50 rfl rfl ?_) | (refine al H Z41 rfl rfl ?_)); clear H; intro b1 w1 H)
    | ((with_reducible refine gRg ?_); refine wp_region_text rfl (by decide +kernel) ?_; replace H := H.drew)
    | (refine EndQ.intro (by kernel_rfl) ?_))
          all_goals go_ret
          all_goals exact ⟨rfl, _, H⟩
  · go_enter Try.func5, Try.ntmps5
    go_wp2_with (first
    | (go_at_call 17; refine (long_spec H (HX.out.rd _) (HY.out.rd _) (by omega) (by omega)).mono ?_; rintro e w1 ⟨hb, rfl, hl2, H1⟩; clear H; have H := H1; clear H1; have HL2 := Lib.hid hl2; clear hl2; cases hb)
    | (go_at_call 10; ((with_reducible refine (live_spec H).mono ?_); rintro e w1 ⟨rfl, H1⟩; clear H; have H := H1; clear H1))
    | (go_at_call 21; refine (made_no H im l HX.out hE).mono ?_; rintro e w1 ⟨rfl, H1⟩; clear H; have H := H1; clear H1)
    | (go_at_call 13; ((with_reducible refine (num_spec H _).mono ?_); rintro e w1 ⟨rfl, H1⟩; clear H; have H := H1; clear H1))
    | ((with_reducible refine gLd ?_); refine eLd H rfl rfl ?_; first | (refine kLdB 0 rfl rfl (by first | exact T3 | exact T4 | exact T9 | exact T23 | exact T27 | exact T31 | exact T33 | exact T45 | exact T37 | exact T41 | exact T50 | exact T52 | exact T69 | exact T72) rfl ?_; intro rb hrb; cases rb <;> (first | (exfalso; simp at hrb; done) | ((try simp only [decide_eq_true_eq, decide_eq_false_iff_not, beq_iff_eq, beq_eq_false_iff_ne, ne_eq, bne_iff_ne, bne_eq_false_iff_eq, Bool.not_eq_true', Bool.not_eq_false', gt_iff_lt, ge_iff_le, Int.not_lt, Int.not_le, Decidable.not_not] at hrb); (try subst hrb); (try (exfalso; omega))))) | (refine kLd 0 rfl rfl (by first | exact T3 | exact T4 | exact T9 | exact T23 | exact T27 | exact T31 | exact T33 | exact T45 | exact T37 | exact T41 | exact T50 | exact T52 | exact T69 | exact T72) rfl ?_) | (refine kLdA 0 rfl rfl (by first | exact T3 | exact T4 | exact T9 | exact T23 | exact T27 | exact T31 | exact T33 | exact T45 | exact T37 | exact T41 | exact T50 | exact T52 | exact T69 | exact T72) (Nat.le_of_ble_eq_true rfl) (by simp only [dkC, Wr.cells, bmt, eD, eS, eW, List.drop_succ_cons, List.drop_zero, List.take_succ_cons, List.take_zero, List.set_cons_zero, List.set_cons_succ]; rfl) ?_))
    | ((with_reducible refine gSt ?_); (first | (refine eSt H rfl rfl ⟨.int _ _, rfl, ?_⟩) | (refine eSt H rfl rfl ⟨.bool _, rfl, ?_⟩) | (refine eSt H rfl rfl ⟨.slice _ _ _, rfl, ?_⟩) | (refine eSt H rfl rfl ⟨.pointer _, rfl, ?_⟩) | (refine eSt H rfl rfl ⟨.string _, rfl, ?_⟩) | (refine eSt H rfl rfl ⟨.agg (List.toArray _), rfl, ?_⟩)); (first | (refine kSt 0 rfl rfl (by first | exact T3 | exact T4 | exact T9 | exact T23 | exact T27 | exact T31 | exact T33 | exact T45 | exact T37 | exact T41 | exact T50 | exact T52 | exact T69 | exact T72) rfl (Nat.le_of_ble_eq_true rfl) ?_) | (refine kStA 0 rfl rfl (by first | exact T3 | exact T4 | exact T9 | exact T23 | exact T27 | exact T31 | exact T33 | exact T45 | exact T37 | exact T41 | exact T50 | exact T52 | exact T69 | exact T72) rfl rfl (Nat.le_of_ble_eq_true rfl) ?_)); clear H; intro w1 H; simp only [List.set_cons_zero, List.set_cons_succ] at H; (try simp only [lay, List.take_zero, List.nil_append, List.length_cons, List.length_nil, Nat.zero_add, Nat.reduceAdd, List.drop_succ_cons, List.drop_zero, List.drop_nil, List.append_nil, List.take_succ_cons, List.cons_append] at H))
    | ((with_reducible refine gBx ?_); refine bxA H rfl rfl rfl ?_; clear H; intro b1 w1 H)
    | ((with_reducible refine gBs ?_); (first | (refine bs1 H rfl (by first | exact S33 | exact S45 | exact S31) rfl (Nat.le_of_ble_eq_true rfl) (Nat.le_of_ble_eq_true rfl) rfl ?_) | (refine wl_buildSlice0 rfl (by first | exact S33 | exact S45 | exact S31) H ?_)); clear H; intro b1 w1 H)
    | ((with_reducible refine gEq ?_); (first | (refine wl_cmp rfl rfl rfl rfl ?_) | (refine wl_scmp rfl rfl rfl rfl ?_)); intro rb hrb; cases rb <;> (first | (exfalso; simp at hrb; done) | ((try simp only [decide_eq_true_eq, decide_eq_false_iff_not, beq_iff_eq, beq_eq_false_iff_ne, ne_eq, bne_iff_ne, bne_eq_false_iff_eq, Bool.not_eq_true', Bool.not_eq_false', gt_iff_lt, ge_iff_le, Int.not_lt, Int.not_le, Decidable.not_not] at hrb); (try subst hrb); (try (exfalso; omega)))))
    | ((with_reducible refine gEq ?_); (first | (refine wl_eqAgg G50 (eq50 9998 ⟨_, _⟩ ⟨_, _⟩) rfl rfl rfl ?_) | (refine wl_neAgg G50 (eq50 9998 ⟨_, _⟩ ⟨_, _⟩) rfl rfl rfl ?_)); intro rb hrb; cases rb <;> (try simp only [Bool.not_true, Bool.not_false]))
    | ((with_reducible refine gAl ?_); (first | (refine al H Z50 rfl rfl ?_) | (refine al H Z41 rfl rfl ?_)); clear H; intro b1 w1 H)
    | ((with_reducible refine gRg ?_); refine wp_region_text rfl (by decide +kernel) ?_; replace H := H.drew)
    | (refine EndQ.intro (by kernel_rfl) ?_))
    all_goals go_ret
    all_goals exact ⟨rfl, _, H⟩
end Go.Proofs.Ytfcmjddpoacenaa
