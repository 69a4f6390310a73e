/- DiskArmed: what the law computes. -/
import Derived.Test.YtfcmjddpoacenaaW10
import Derived.WalkKit
import Derived.Lib.Hide
import Derived.Deep.LoopGhost
import Derived.WalkSpells
set_option linter.unusedVariables false
set_option linter.unusedSimpArgs false
namespace Go.Proofs.Ytfcmjddpoacenaa
open Go.RowKit Go.Gx Go.Gx.Dsk
set_option maxRecDepth 100000
theorem Load_okE {w0 w : World} {D : Nat → Prop} {R : List Ent} {x : Option Addr} {c : Nat} {l : List ByteArray} (H : Hp w0 D R w) (hX : Rd w0 D R x (strs l)) (hE : loadE l = 0) : Calls Try.prog 14 #[.slice x l.length c] w fun e w' => ∃ p f b cf cb, e = .returned (.tuple #[.pointer (some ⟨p, 0, none⟩), .int .i64 0]) ∧ Hp w0 D (eD 72 p f b none cf cb 0 (Dk.made l) :: eS f cf (Dk.made l).first :: eS b cb (Dk.made l).now :: eW none 0 (Dk.made l).log :: R) w' :=
  (Load_spec H hX).mono fun e w' h => by
    rcases h with ⟨_, h⟩ | ⟨h, _⟩
    · exact h
    · exact absurd hE h
theorem Load_noE {w0 w : World} {D : Nat → Prop} {R : List Ent} {x : Option Addr} {c : Nat} {l : List ByteArray} (H : Hp w0 D R w) (hX : Rd w0 D R x (strs l)) (hE : ¬ loadE l = 0) : Calls Try.prog 14 #[.slice x l.length c] w fun e w' => e = .returned (.tuple #[.pointer none, .int .i64 (loadE l)]) ∧ Hp w0 D R w' :=
  (Load_spec H hX).mono fun e w' h => by
    rcases h with ⟨h, _⟩ | ⟨_, h⟩
    · exact absurd h hE
    · exact h
set_option maxHeartbeats 40000000 in
theorem Armed_spec {w0 w : World} {D : Nat → Prop} {R : List Ent} {x y : Option Addr} {c1 c2 : Nat} (H : Hp w0 D (R) w) (im : List ByteArray) (l : List Ac) (n : Int) (hX : RdA w0 D x (strs im)) (hY : RdA w0 D y (acs l)) (h1 : im.length ≤ 2000000) (h2 : l.length ≤ 2000000) (hn9 : n ≤ 9223372036854775807) :
    Calls Try.prog 4 #[.slice x im.length c1, .slice y l.length c2, .int .i64 n] w fun e w' => e = .returned (.bool true) ∧ ∃ L, Hp w0 D L w' := by
  have HX := Lib.hid hX
  have HY := Lib.hid hY
  have HN9 := Lib.hid hn9
  clear hX hY hn9
  try simp only [dkC, Wr.cells, bmt, eD, eS, eW] at H
  by_cases hn : n < 0
  · go_enter Try.func4, Try.ntmps4
    go_wp2_with (first
    | (go_at_call 17; refine (long_spec H (HX.out.rd _) (HY.out.rd _) (by omega) (by omega)).mono ?_; rintro e w1 ⟨hb, rfl, hl2, H1⟩; clear H; have H := H1; clear H1; have HL2 := Lib.hid hl2; clear hl2; cases hb)
    | (go_at_call 10; ((with_reducible refine (live_spec H).mono ?_); rintro e w1 ⟨rfl, H1⟩; clear H; have H := H1; clear H1))
    | ((with_reducible refine gLd ?_); refine eLd H rfl rfl ?_; first | (refine kLdB 0 rfl rfl (by first | exact T3 | exact T4 | exact T9 | exact T23 | exact T27 | exact T31 | exact T33 | exact T45 | exact T37 | exact T41 | exact T50 | exact T52 | exact T69 | exact T72) rfl ?_; intro rb hrb; cases rb <;> (first | (exfalso; simp at hrb; done) | ((try simp only [decide_eq_true_eq, decide_eq_false_iff_not, beq_iff_eq, beq_eq_false_iff_ne, ne_eq, bne_iff_ne, bne_eq_false_iff_eq, Bool.not_eq_true', Bool.not_eq_false', gt_iff_lt, ge_iff_le, Int.not_lt, Int.not_le, Decidable.not_not] at hrb); (try subst hrb); (try (exfalso; omega))))) | (refine kLd 0 rfl rfl (by first | exact T3 | exact T4 | exact T9 | exact T23 | exact T27 | exact T31 | exact T33 | exact T45 | exact T37 | exact T41 | exact T50 | exact T52 | exact T69 | exact T72) rfl ?_) | (refine kLdA 0 rfl rfl (by first | exact T3 | exact T4 | exact T9 | exact T23 | exact T27 | exact T31 | exact T33 | exact T45 | exact T37 | exact T41 | exact T50 | exact T52 | exact T69 | exact T72) (Nat.le_of_ble_eq_true rfl) (by simp only [dkC, Wr.cells, bmt, eD, eS, eW, List.drop_succ_cons, List.drop_zero, List.take_succ_cons, List.take_zero, List.set_cons_zero, List.set_cons_succ]; rfl) ?_))
    | ((with_reducible refine gSt ?_); (first | (refine eSt H rfl rfl ⟨.int _ _, rfl, ?_⟩) | (refine eSt H rfl rfl ⟨.bool _, rfl, ?_⟩) | (refine eSt H rfl rfl ⟨.slice _ _ _, rfl, ?_⟩) | (refine eSt H rfl rfl ⟨.pointer _, rfl, ?_⟩) | (refine eSt H rfl rfl ⟨.string _, rfl, ?_⟩) | (refine eSt H rfl rfl ⟨.agg (List.toArray _), rfl, ?_⟩)); (first | (refine kSt 0 rfl rfl (by first | exact T3 | exact T4 | exact T9 | exact T23 | exact T27 | exact T31 | exact T33 | exact T45 | exact T37 | exact T41 | exact T50 | exact T52 | exact T69 | exact T72) rfl (Nat.le_of_ble_eq_true rfl) ?_) | (refine kStA 0 rfl rfl (by first | exact T3 | exact T4 | exact T9 | exact T23 | exact T27 | exact T31 | exact T33 | exact T45 | exact T37 | exact T41 | exact T50 | exact T52 | exact T69 | exact T72) rfl rfl (Nat.le_of_ble_eq_true rfl) ?_)); clear H; intro w1 H; simp only [List.set_cons_zero, List.set_cons_succ] at H; (try simp only [lay, List.take_zero, List.nil_append, List.length_cons, List.length_nil, Nat.zero_add, Nat.reduceAdd, List.drop_succ_cons, List.drop_zero, List.drop_nil, List.append_nil, List.take_succ_cons, List.cons_append] at H))
    | ((with_reducible refine gBx ?_); refine bxA H rfl rfl rfl ?_; clear H; intro b1 w1 H)
    | ((with_reducible refine gBs ?_); (first | (refine bs1 H rfl (by first | exact S33 | exact S45 | exact S31) rfl (Nat.le_of_ble_eq_true rfl) (Nat.le_of_ble_eq_true rfl) rfl ?_) | (refine wl_buildSlice0 rfl (by first | exact S33 | exact S45 | exact S31) H ?_)); clear H; intro b1 w1 H)
    | ((with_reducible refine gEq ?_); (first | (refine wl_cmp rfl rfl rfl rfl ?_) | (refine wl_scmp rfl rfl rfl rfl ?_)); intro rb hrb; cases rb <;> (first | (exfalso; simp at hrb; done) | ((try simp only [decide_eq_true_eq, decide_eq_false_iff_not, beq_iff_eq, beq_eq_false_iff_ne, ne_eq, bne_iff_ne, bne_eq_false_iff_eq, Bool.not_eq_true', Bool.not_eq_false', gt_iff_lt, ge_iff_le, Int.not_lt, Int.not_le, Decidable.not_not] at hrb); (try subst hrb); (try (exfalso; omega)))))
    | ((with_reducible refine gEq ?_); (first | (refine wl_eqAgg G50 (eq50 9998 ⟨_, _⟩ ⟨_, _⟩) rfl rfl rfl ?_) | (refine wl_neAgg G50 (eq50 9998 ⟨_, _⟩ ⟨_, _⟩) rfl rfl rfl ?_)); intro rb hrb; cases rb <;> (try simp only [Bool.not_true, Bool.not_false]))
    | ((with_reducible refine gAl ?_); (first | (refine al H Z50 rfl rfl ?_) | (refine al H Z41 rfl rfl ?_)); clear H; intro b1 w1 H)
    | ((with_reducible refine gRg ?_); refine wp_region_text rfl (by decide +kernel) ?_; replace H := H.drew)
    | (refine EndQ.intro (by kernel_rfl) ?_))
    all_goals go_ret
    all_goals exact ⟨rfl, _, H⟩
  · have hn0 : 0 ≤ n := by omega
    clear hn
    by_cases hE : loadE im = 0
    · have HE := Lib.hid hE
      clear hE
      go_enter Try.func4, Try.ntmps4
      go_wp2_with (first
    | (go_at_call 17; refine (long_spec H (HX.out.rd _) (HY.out.rd _) (by omega) (by omega)).mono ?_; rintro e w1 ⟨hb, rfl, hl2, H1⟩; clear H; have H := H1; clear H1; have HL2 := Lib.hid hl2; clear hl2; cases hb)
    | (go_at_call 10; ((with_reducible refine (live_spec H).mono ?_); rintro e w1 ⟨rfl, H1⟩; clear H; have H := H1; clear H1))
    | (go_at_call 14; first | (refine (Load_okE H (HX.out.rd R) HE.out).mono ?_; rintro e w1 ⟨p1, f1, b1, cf1, cb1, rfl, H1⟩; clear H; have H := H1; clear H1) | (refine (Load_okE H (HX.out.rd _) HE.out).mono ?_; rintro e w1 ⟨p2, f2, b2, cf2, cb2, rfl, H1⟩; clear H; have H := H1; clear H1))
    | (go_at_call 18; replace H := H.swap (A := [_, _, _, _]) (B := [_, _, _, _]); simp only [List.cons_append, List.nil_append] at H; refine (Arm_at H rfl rfl).mono ?_; rintro e w1 ⟨rfl, H1⟩; clear H; have H := H1; clear H1)
    | (go_at_call 13; ((with_reducible refine (num_spec H _).mono ?_); rintro e w1 ⟨rfl, H1⟩; clear H; have H := H1; clear H1))
    | ((with_reducible refine gLd ?_); refine eLd H rfl rfl ?_; first | (refine kLdB 0 rfl rfl (by first | exact T3 | exact T4 | exact T9 | exact T23 | exact T27 | exact T31 | exact T33 | exact T45 | exact T37 | exact T41 | exact T50 | exact T52 | exact T69 | exact T72) rfl ?_; intro rb hrb; cases rb <;> (first | (exfalso; simp at hrb; done) | ((try simp only [decide_eq_true_eq, decide_eq_false_iff_not, beq_iff_eq, beq_eq_false_iff_ne, ne_eq, bne_iff_ne, bne_eq_false_iff_eq, Bool.not_eq_true', Bool.not_eq_false', gt_iff_lt, ge_iff_le, Int.not_lt, Int.not_le, Decidable.not_not] at hrb); (try subst hrb); (try (exfalso; omega))))) | (refine kLd 0 rfl rfl (by first | exact T3 | exact T4 | exact T9 | exact T23 | exact T27 | exact T31 | exact T33 | exact T45 | exact T37 | exact T41 | exact T50 | exact T52 | exact T69 | exact T72) rfl ?_) | (refine kLdA 0 rfl rfl (by first | exact T3 | exact T4 | exact T9 | exact T23 | exact T27 | exact T31 | exact T33 | exact T45 | exact T37 | exact T41 | exact T50 | exact T52 | exact T69 | exact T72) (Nat.le_of_ble_eq_true rfl) (by simp only [dkC, Wr.cells, bmt, eD, eS, eW, List.drop_succ_cons, List.drop_zero, List.take_succ_cons, List.take_zero, List.set_cons_zero, List.set_cons_succ]; rfl) ?_))
    | ((with_reducible refine gSt ?_); (first | (refine eSt H rfl rfl ⟨.int _ _, rfl, ?_⟩) | (refine eSt H rfl rfl ⟨.bool _, rfl, ?_⟩) | (refine eSt H rfl rfl ⟨.slice _ _ _, rfl, ?_⟩) | (refine eSt H rfl rfl ⟨.pointer _, rfl, ?_⟩) | (refine eSt H rfl rfl ⟨.string _, rfl, ?_⟩) | (refine eSt H rfl rfl ⟨.agg (List.toArray _), rfl, ?_⟩)); (first | (refine kSt 0 rfl rfl (by first | exact T3 | exact T4 | exact T9 | exact T23 | exact T27 | exact T31 | exact T33 | exact T45 | exact T37 | exact T41 | exact T50 | exact T52 | exact T69 | exact T72) rfl (Nat.le_of_ble_eq_true rfl) ?_) | (refine kStA 0 rfl rfl (by first | exact T3 | exact T4 | exact T9 | exact T23 | exact T27 | exact T31 | exact T33 | exact T45 | exact T37 | exact T41 | exact T50 | exact T52 | exact T69 | exact T72) rfl rfl (Nat.le_of_ble_eq_true rfl) ?_)); clear H; intro w1 H; simp only [List.set_cons_zero, List.set_cons_succ] at H; (try simp only [lay, List.take_zero, List.nil_append, List.length_cons, List.length_nil, Nat.zero_add, Nat.reduceAdd, List.drop_succ_cons, List.drop_zero, List.drop_nil, List.append_nil, List.take_succ_cons, List.cons_append] at H))
    | ((with_reducible refine gBx ?_); refine bxA H rfl rfl rfl ?_; clear H; intro b1 w1 H)
    | ((with_reducible refine gBs ?_); (first | (refine bs1 H rfl (by first | exact S33 | exact S45 | exact S31) rfl (Nat.le_of_ble_eq_true rfl) (Nat.le_of_ble_eq_true rfl) rfl ?_) | (refine wl_buildSlice0 rfl (by first | exact S33 | exact S45 | exact S31) H ?_)); clear H; intro b1 w1 H)
    | ((with_reducible refine gEq ?_); (first | (refine wl_cmp rfl rfl rfl rfl ?_) | (refine wl_scmp rfl rfl rfl rfl ?_)); intro rb hrb; cases rb <;> (first | (exfalso; simp at hrb; done) | ((try simp only [decide_eq_true_eq, decide_eq_false_iff_not, beq_iff_eq, beq_eq_false_iff_ne, ne_eq, bne_iff_ne, bne_eq_false_iff_eq, Bool.not_eq_true', Bool.not_eq_false', gt_iff_lt, ge_iff_le, Int.not_lt, Int.not_le, Decidable.not_not] at hrb); (try subst hrb); (try (exfalso; omega)))))
    | ((with_reducible refine gEq ?_); (first | (refine wl_eqAgg G50 (eq50 9998 ⟨_, _⟩ ⟨_, _⟩) rfl rfl rfl ?_) | (refine wl_neAgg G50 (eq50 9998 ⟨_, _⟩ ⟨_, _⟩) rfl rfl rfl ?_)); intro rb hrb; cases rb <;> (try simp only [Bool.not_true, Bool.not_false]))
    | ((with_reducible refine gAl ?_); (first | (refine al H Z50 rfl rfl ?_) | (refine al H Z41 rfl rfl ?_)); clear H; intro b1 w1 H)
    | ((with_reducible refine gRg ?_); refine wp_region_text rfl (by decide +kernel) ?_; replace H := H.drew)
    | (refine EndQ.intro (by kernel_rfl) ?_))
      any_goals (go_ret; exact ⟨rfl, _, H⟩)
      have hl2 := HL2.out (by first | exact trivial | exact rfl)
      go_loopg [11] l.length (fun m v wr => ∃ (k : Nat) (d c : Dk) (ld lc : Option Nat) (cld clc : Nat), k + m = l.length ∧ v = .int .i64 k ∧ ArmI im n d c k ∧ Hp w0 D (eD 72 p1 f1 b1 ld cf1 cb1 cld (d) :: eS f1 cf1 (d).first :: eS b1 cb1 (d).now :: eW ld cld (d).log :: eD 72 p2 f2 b2 lc cf2 cb2 clc (c) :: eS f2 cf2 (c).first :: eS b2 cb2 (c).now :: eW lc clc (c).log :: R) wr)
      case atStart => exact ⟨0, _, _, _, _, _, _, by omega, rfl, ArmI.start hn0, H⟩
      case round =>
        clear H HL2
        obtain ⟨k, d, c, ld, lc, cld, clc, hkn, rfl, hI, H⟩ := hrel
        have HI := Lib.hid hI
        clear hI
        have hnl : d.now.length ≤ 2000000 := by have e1 := HI.out.no; have e2 := HI.out.len; rw [e1, e2]; omega
        by_cases hk : k < l.length
        · have hg : 0 < gk := by omega
          have HKN := Lib.hid hkn
          clear hkn
          obtain ⟨b0, o0, rfl, hA⟩ := (HY.out.rd R).some_of (by rw [acs_length]; omega)
          obtain ⟨⟨q1, i, t⟩, hp⟩ : ∃ q, l[k]? = some q := ⟨_, List.getElem?_eq_getElem hk⟩
          have HP := Lib.hid hp
          have HA := Lib.hid hA
          clear hp hA
          have hll : d.log.length ≤ 2000000 := by have e1 := HI.out.lo; have e2 := HI.out.kk; rw [e1]; omega
          have hlc : c.log.length ≤ 2000000 := by have e2 := HI.out.kk; omega
          have hle := HI.out.le
          by_cases hi0 : i < 0
          · obtain ⟨hw, hs⟩ := HI.out.out (i := i) (t := t) (.inl hi0)
            have HW := Lib.hid hw
            have HS := Lib.hid hs
            clear hw hs
            go_wp2_with (first
    | ((with_reducible refine gLd ?_); first | (refine wl_loadR (k := k * 3 + 1) (HA.out [_, _, _, _, _, _, _, _] _ H) rfl rfl (by first | rfl | omega) T3 (acs_get HP.out rfl) ?_) | (refine wl_loadR (k := k * 3 + 2) (HA.out [_, _, _, _, _, _, _, _] _ H) rfl rfl (by first | rfl | omega) T9 (acs_get HP.out rfl) ?_))
    | (go_at_call 15; ((with_reducible refine (Write_at (s := d) H HW.out HS.out hll).mono ?_); rintro e w1 ⟨ld2, cld2, rfl, H1⟩; clear H; have H := H1; clear H1))
    | (go_at_call 15; replace H := H.swap (A := [_, _, _, _]) (B := [_, _, _, _]); simp only [List.cons_append, List.nil_append] at H; ((with_reducible refine (Write_at (s := c) H HV.out rfl hlc).mono ?_); rintro e w1 ⟨lc2, clc2, rfl, H1⟩; clear H; have H := H1.swap (A := [_, _, _, _]) (B := [_, _, _, _]); clear H1; simp only [List.cons_append, List.nil_append] at H))
    | (go_at_call 19; replace H := H.swap (A := [_, _, _, _]) (B := [_, _, _, _]); simp only [List.cons_append, List.nil_append] at H; ((with_reducible refine (Writes_at (s := c) H rfl).mono ?_); rintro e w1 ⟨rfl, H1⟩; clear H; have H := H1.swap (A := [_, _, _, _]) (B := [_, _, _, _]); clear H1; simp only [List.cons_append, List.nil_append] at H))
    | (go_at_call 13; ((with_reducible refine (num_spec H _).mono ?_); rintro e w1 ⟨rfl, H1⟩; clear H; have H := H1; clear H1))
    | (go_at_call 10; ((with_reducible refine (live_spec H).mono ?_); rintro e w1 ⟨rfl, H1⟩; clear H; have H := H1; clear H1))
    | ((with_reducible refine gLd ?_); refine eLd H rfl rfl ?_; first | (refine kLdB 0 rfl rfl (by first | exact T3 | exact T4 | exact T9 | exact T23 | exact T27 | exact T31 | exact T33 | exact T45 | exact T37 | exact T41 | exact T50 | exact T52 | exact T69 | exact T72) rfl ?_; intro rb hrb; cases rb <;> (first | (exfalso; simp at hrb; done) | ((try simp only [decide_eq_true_eq, decide_eq_false_iff_not, beq_iff_eq, beq_eq_false_iff_ne, ne_eq, bne_iff_ne, bne_eq_false_iff_eq, Bool.not_eq_true', Bool.not_eq_false', gt_iff_lt, ge_iff_le, Int.not_lt, Int.not_le, Decidable.not_not] at hrb); (try subst hrb); (try (exfalso; omega))))) | (refine kLd 0 rfl rfl (by first | exact T3 | exact T4 | exact T9 | exact T23 | exact T27 | exact T31 | exact T33 | exact T45 | exact T37 | exact T41 | exact T50 | exact T52 | exact T69 | exact T72) rfl ?_) | (refine kLdA 0 rfl rfl (by first | exact T3 | exact T4 | exact T9 | exact T23 | exact T27 | exact T31 | exact T33 | exact T45 | exact T37 | exact T41 | exact T50 | exact T52 | exact T69 | exact T72) (Nat.le_of_ble_eq_true rfl) (by simp only [dkC, Wr.cells, bmt, eD, eS, eW, List.drop_succ_cons, List.drop_zero, List.take_succ_cons, List.take_zero, List.set_cons_zero, List.set_cons_succ]; rfl) ?_))
    | ((with_reducible refine gSt ?_); (first | (refine eSt H rfl rfl ⟨.int _ _, rfl, ?_⟩) | (refine eSt H rfl rfl ⟨.bool _, rfl, ?_⟩) | (refine eSt H rfl rfl ⟨.slice _ _ _, rfl, ?_⟩) | (refine eSt H rfl rfl ⟨.pointer _, rfl, ?_⟩) | (refine eSt H rfl rfl ⟨.string _, rfl, ?_⟩) | (refine eSt H rfl rfl ⟨.agg (List.toArray _), rfl, ?_⟩)); (first | (refine kSt 0 rfl rfl (by first | exact T3 | exact T4 | exact T9 | exact T23 | exact T27 | exact T31 | exact T33 | exact T45 | exact T37 | exact T41 | exact T50 | exact T52 | exact T69 | exact T72) rfl (Nat.le_of_ble_eq_true rfl) ?_) | (refine kStA 0 rfl rfl (by first | exact T3 | exact T4 | exact T9 | exact T23 | exact T27 | exact T31 | exact T33 | exact T45 | exact T37 | exact T41 | exact T50 | exact T52 | exact T69 | exact T72) rfl rfl (Nat.le_of_ble_eq_true rfl) ?_)); clear H; intro w1 H; simp only [List.set_cons_zero, List.set_cons_succ] at H; (try simp only [lay, List.take_zero, List.nil_append, List.length_cons, List.length_nil, Nat.zero_add, Nat.reduceAdd, List.drop_succ_cons, List.drop_zero, List.drop_nil, List.append_nil, List.take_succ_cons, List.cons_append] at H))
    | ((with_reducible refine gBx ?_); refine bxA H rfl rfl rfl ?_; clear H; intro b1 w1 H)
    | ((with_reducible refine gBs ?_); (first | (refine bs1 H rfl (by first | exact S33 | exact S45 | exact S31) rfl (Nat.le_of_ble_eq_true rfl) (Nat.le_of_ble_eq_true rfl) rfl ?_) | (refine wl_buildSlice0 rfl (by first | exact S33 | exact S45 | exact S31) H ?_)); clear H; intro b1 w1 H)
    | ((with_reducible refine gEq ?_); (first | (refine wl_cmp rfl rfl rfl rfl ?_) | (refine wl_scmp rfl rfl rfl rfl ?_)); intro rb hrb; cases rb <;> (first | (exfalso; simp at hrb; done) | ((try simp only [decide_eq_true_eq, decide_eq_false_iff_not, beq_iff_eq, beq_eq_false_iff_ne, ne_eq, bne_iff_ne, bne_eq_false_iff_eq, Bool.not_eq_true', Bool.not_eq_false', gt_iff_lt, ge_iff_le, Int.not_lt, Int.not_le, Decidable.not_not] at hrb); (try subst hrb); (try (exfalso; omega)))))
    | ((with_reducible refine gEq ?_); (first | (refine wl_eqAgg G50 (eq50 9998 ⟨_, _⟩ ⟨_, _⟩) rfl rfl rfl ?_) | (refine wl_neAgg G50 (eq50 9998 ⟨_, _⟩ ⟨_, _⟩) rfl rfl rfl ?_)); intro rb hrb; cases rb <;> (try simp only [Bool.not_true, Bool.not_false]))
    | ((with_reducible refine gAl ?_); (first | (refine al H Z50 rfl rfl ?_) | (refine al H Z41 rfl rfl ?_)); clear H; intro b1 w1 H)
    | ((with_reducible refine gRg ?_); refine wp_region_text rfl (by decide +kernel) ?_; replace H := H.drew)
    | (refine EndQ.intro (by kernel_rfl) ?_))
            any_goals go_roundg (gk - 1)
            all_goals first
              | omega
              | (refine ⟨k + 1, d, c, _, _, _, _, ?_, ?_, HI.out.mono, H⟩; (· have := HKN.out; omega); (· go_num))
          · by_cases hi1 : (im.length : Int) ≤ i
            · obtain ⟨hw, hs⟩ := HI.out.out (i := i) (t := t) (.inr hi1)
              have HW := Lib.hid hw
              have HS := Lib.hid hs
              clear hw hs
              have hi2 : 0 ≤ i := by omega
              clear hi0
              go_wp2_with (first
    | ((with_reducible refine gLd ?_); first | (refine wl_loadR (k := k * 3 + 1) (HA.out [_, _, _, _, _, _, _, _] _ H) rfl rfl (by first | rfl | omega) T3 (acs_get HP.out rfl) ?_) | (refine wl_loadR (k := k * 3 + 2) (HA.out [_, _, _, _, _, _, _, _] _ H) rfl rfl (by first | rfl | omega) T9 (acs_get HP.out rfl) ?_))
    | (go_at_call 15; ((with_reducible refine (Write_at (s := d) H HW.out HS.out hll).mono ?_); rintro e w1 ⟨ld2, cld2, rfl, H1⟩; clear H; have H := H1; clear H1))
    | (go_at_call 15; replace H := H.swap (A := [_, _, _, _]) (B := [_, _, _, _]); simp only [List.cons_append, List.nil_append] at H; ((with_reducible refine (Write_at (s := c) H HV.out rfl hlc).mono ?_); rintro e w1 ⟨lc2, clc2, rfl, H1⟩; clear H; have H := H1.swap (A := [_, _, _, _]) (B := [_, _, _, _]); clear H1; simp only [List.cons_append, List.nil_append] at H))
    | (go_at_call 19; replace H := H.swap (A := [_, _, _, _]) (B := [_, _, _, _]); simp only [List.cons_append, List.nil_append] at H; ((with_reducible refine (Writes_at (s := c) H rfl).mono ?_); rintro e w1 ⟨rfl, H1⟩; clear H; have H := H1.swap (A := [_, _, _, _]) (B := [_, _, _, _]); clear H1; simp only [List.cons_append, List.nil_append] at H))
    | (go_at_call 13; ((with_reducible refine (num_spec H _).mono ?_); rintro e w1 ⟨rfl, H1⟩; clear H; have H := H1; clear H1))
    | (go_at_call 10; ((with_reducible refine (live_spec H).mono ?_); rintro e w1 ⟨rfl, H1⟩; clear H; have H := H1; clear H1))
    | ((with_reducible refine gLd ?_); refine eLd H rfl rfl ?_; first | (refine kLdB 0 rfl rfl (by first | exact T3 | exact T4 | exact T9 | exact T23 | exact T27 | exact T31 | exact T33 | exact T45 | exact T37 | exact T41 | exact T50 | exact T52 | exact T69 | exact T72) rfl ?_; intro rb hrb; cases rb <;> (first | (exfalso; simp at hrb; done) | ((try simp only [decide_eq_true_eq, decide_eq_false_iff_not, beq_iff_eq, beq_eq_false_iff_ne, ne_eq, bne_iff_ne, bne_eq_false_iff_eq, Bool.not_eq_true', Bool.not_eq_false', gt_iff_lt, ge_iff_le, Int.not_lt, Int.not_le, Decidable.not_not] at hrb); (try subst hrb); (try (exfalso; omega))))) | (refine kLd 0 rfl rfl (by first | exact T3 | exact T4 | exact T9 | exact T23 | exact T27 | exact T31 | exact T33 | exact T45 | exact T37 | exact T41 | exact T50 | exact T52 | exact T69 | exact T72) rfl ?_) | (refine kLdA 0 rfl rfl (by first | exact T3 | exact T4 | exact T9 | exact T23 | exact T27 | exact T31 | exact T33 | exact T45 | exact T37 | exact T41 | exact T50 | exact T52 | exact T69 | exact T72) (Nat.le_of_ble_eq_true rfl) (by simp only [dkC, Wr.cells, bmt, eD, eS, eW, List.drop_succ_cons, List.drop_zero, List.take_succ_cons, List.take_zero, List.set_cons_zero, List.set_cons_succ]; rfl) ?_))
    | ((with_reducible refine gSt ?_); (first | (refine eSt H rfl rfl ⟨.int _ _, rfl, ?_⟩) | (refine eSt H rfl rfl ⟨.bool _, rfl, ?_⟩) | (refine eSt H rfl rfl ⟨.slice _ _ _, rfl, ?_⟩) | (refine eSt H rfl rfl ⟨.pointer _, rfl, ?_⟩) | (refine eSt H rfl rfl ⟨.string _, rfl, ?_⟩) | (refine eSt H rfl rfl ⟨.agg (List.toArray _), rfl, ?_⟩)); (first | (refine kSt 0 rfl rfl (by first | exact T3 | exact T4 | exact T9 | exact T23 | exact T27 | exact T31 | exact T33 | exact T45 | exact T37 | exact T41 | exact T50 | exact T52 | exact T69 | exact T72) rfl (Nat.le_of_ble_eq_true rfl) ?_) | (refine kStA 0 rfl rfl (by first | exact T3 | exact T4 | exact T9 | exact T23 | exact T27 | exact T31 | exact T33 | exact T45 | exact T37 | exact T41 | exact T50 | exact T52 | exact T69 | exact T72) rfl rfl (Nat.le_of_ble_eq_true rfl) ?_)); clear H; intro w1 H; simp only [List.set_cons_zero, List.set_cons_succ] at H; (try simp only [lay, List.take_zero, List.nil_append, List.length_cons, List.length_nil, Nat.zero_add, Nat.reduceAdd, List.drop_succ_cons, List.drop_zero, List.drop_nil, List.append_nil, List.take_succ_cons, List.cons_append] at H))
    | ((with_reducible refine gBx ?_); refine bxA H rfl rfl rfl ?_; clear H; intro b1 w1 H)
    | ((with_reducible refine gBs ?_); (first | (refine bs1 H rfl (by first | exact S33 | exact S45 | exact S31) rfl (Nat.le_of_ble_eq_true rfl) (Nat.le_of_ble_eq_true rfl) rfl ?_) | (refine wl_buildSlice0 rfl (by first | exact S33 | exact S45 | exact S31) H ?_)); clear H; intro b1 w1 H)
    | ((with_reducible refine gEq ?_); (first | (refine wl_cmp rfl rfl rfl rfl ?_) | (refine wl_scmp rfl rfl rfl rfl ?_)); intro rb hrb; cases rb <;> (first | (exfalso; simp at hrb; done) | ((try simp only [decide_eq_true_eq, decide_eq_false_iff_not, beq_iff_eq, beq_eq_false_iff_ne, ne_eq, bne_iff_ne, bne_eq_false_iff_eq, Bool.not_eq_true', Bool.not_eq_false', gt_iff_lt, ge_iff_le, Int.not_lt, Int.not_le, Decidable.not_not] at hrb); (try subst hrb); (try (exfalso; omega)))))
    | ((with_reducible refine gEq ?_); (first | (refine wl_eqAgg G50 (eq50 9998 ⟨_, _⟩ ⟨_, _⟩) rfl rfl rfl ?_) | (refine wl_neAgg G50 (eq50 9998 ⟨_, _⟩ ⟨_, _⟩) rfl rfl rfl ?_)); intro rb hrb; cases rb <;> (try simp only [Bool.not_true, Bool.not_false]))
    | ((with_reducible refine gAl ?_); (first | (refine al H Z50 rfl rfl ?_) | (refine al H Z41 rfl rfl ?_)); clear H; intro b1 w1 H)
    | ((with_reducible refine gRg ?_); refine wp_region_text rfl (by decide +kernel) ?_; replace H := H.drew)
    | (refine EndQ.intro (by kernel_rfl) ?_))
              any_goals go_roundg (gk - 1)
              all_goals first
                | omega
                | (refine ⟨k + 1, d, c, _, _, _, _, ?_, ?_, HI.out.mono, H⟩; (· have := HKN.out; omega); (· go_num))
            · have hi2 : 0 ≤ i := by omega
              have hi3 : i < im.length := by omega
              clear hi0 hi1
              by_cases hs : 1024 < (t.size : Int)
              · obtain ⟨hw, hs'⟩ := HI.out.long (t := t) hi2 hi3 (by omega)
                have HW := Lib.hid hw
                have HS := Lib.hid hs'
                clear hw hs'
                go_wp2_with (first
    | ((with_reducible refine gLd ?_); first | (refine wl_loadR (k := k * 3 + 1) (HA.out [_, _, _, _, _, _, _, _] _ H) rfl rfl (by first | rfl | omega) T3 (acs_get HP.out rfl) ?_) | (refine wl_loadR (k := k * 3 + 2) (HA.out [_, _, _, _, _, _, _, _] _ H) rfl rfl (by first | rfl | omega) T9 (acs_get HP.out rfl) ?_))
    | (go_at_call 15; ((with_reducible refine (Write_at (s := d) H HW.out HS.out hll).mono ?_); rintro e w1 ⟨ld2, cld2, rfl, H1⟩; clear H; have H := H1; clear H1))
    | (go_at_call 15; replace H := H.swap (A := [_, _, _, _]) (B := [_, _, _, _]); simp only [List.cons_append, List.nil_append] at H; ((with_reducible refine (Write_at (s := c) H HV.out rfl hlc).mono ?_); rintro e w1 ⟨lc2, clc2, rfl, H1⟩; clear H; have H := H1.swap (A := [_, _, _, _]) (B := [_, _, _, _]); clear H1; simp only [List.cons_append, List.nil_append] at H))
    | (go_at_call 19; replace H := H.swap (A := [_, _, _, _]) (B := [_, _, _, _]); simp only [List.cons_append, List.nil_append] at H; ((with_reducible refine (Writes_at (s := c) H rfl).mono ?_); rintro e w1 ⟨rfl, H1⟩; clear H; have H := H1.swap (A := [_, _, _, _]) (B := [_, _, _, _]); clear H1; simp only [List.cons_append, List.nil_append] at H))
    | (go_at_call 13; ((with_reducible refine (num_spec H _).mono ?_); rintro e w1 ⟨rfl, H1⟩; clear H; have H := H1; clear H1))
    | (go_at_call 10; ((with_reducible refine (live_spec H).mono ?_); rintro e w1 ⟨rfl, H1⟩; clear H; have H := H1; clear H1))
    | ((with_reducible refine gLd ?_); refine eLd H rfl rfl ?_; first | (refine kLdB 0 rfl rfl (by first | exact T3 | exact T4 | exact T9 | exact T23 | exact T27 | exact T31 | exact T33 | exact T45 | exact T37 | exact T41 | exact T50 | exact T52 | exact T69 | exact T72) rfl ?_; intro rb hrb; cases rb <;> (first | (exfalso; simp at hrb; done) | ((try simp only [decide_eq_true_eq, decide_eq_false_iff_not, beq_iff_eq, beq_eq_false_iff_ne, ne_eq, bne_iff_ne, bne_eq_false_iff_eq, Bool.not_eq_true', Bool.not_eq_false', gt_iff_lt, ge_iff_le, Int.not_lt, Int.not_le, Decidable.not_not] at hrb); (try subst hrb); (try (exfalso; omega))))) | (refine kLd 0 rfl rfl (by first | exact T3 | exact T4 | exact T9 | exact T23 | exact T27 | exact T31 | exact T33 | exact T45 | exact T37 | exact T41 | exact T50 | exact T52 | exact T69 | exact T72) rfl ?_) | (refine kLdA 0 rfl rfl (by first | exact T3 | exact T4 | exact T9 | exact T23 | exact T27 | exact T31 | exact T33 | exact T45 | exact T37 | exact T41 | exact T50 | exact T52 | exact T69 | exact T72) (Nat.le_of_ble_eq_true rfl) (by simp only [dkC, Wr.cells, bmt, eD, eS, eW, List.drop_succ_cons, List.drop_zero, List.take_succ_cons, List.take_zero, List.set_cons_zero, List.set_cons_succ]; rfl) ?_))
    | ((with_reducible refine gSt ?_); (first | (refine eSt H rfl rfl ⟨.int _ _, rfl, ?_⟩) | (refine eSt H rfl rfl ⟨.bool _, rfl, ?_⟩) | (refine eSt H rfl rfl ⟨.slice _ _ _, rfl, ?_⟩) | (refine eSt H rfl rfl ⟨.pointer _, rfl, ?_⟩) | (refine eSt H rfl rfl ⟨.string _, rfl, ?_⟩) | (refine eSt H rfl rfl ⟨.agg (List.toArray _), rfl, ?_⟩)); (first | (refine kSt 0 rfl rfl (by first | exact T3 | exact T4 | exact T9 | exact T23 | exact T27 | exact T31 | exact T33 | exact T45 | exact T37 | exact T41 | exact T50 | exact T52 | exact T69 | exact T72) rfl (Nat.le_of_ble_eq_true rfl) ?_) | (refine kStA 0 rfl rfl (by first | exact T3 | exact T4 | exact T9 | exact T23 | exact T27 | exact T31 | exact T33 | exact T45 | exact T37 | exact T41 | exact T50 | exact T52 | exact T69 | exact T72) rfl rfl (Nat.le_of_ble_eq_true rfl) ?_)); clear H; intro w1 H; simp only [List.set_cons_zero, List.set_cons_succ] at H; (try simp only [lay, List.take_zero, List.nil_append, List.length_cons, List.length_nil, Nat.zero_add, Nat.reduceAdd, List.drop_succ_cons, List.drop_zero, List.drop_nil, List.append_nil, List.take_succ_cons, List.cons_append] at H))
    | ((with_reducible refine gBx ?_); refine bxA H rfl rfl rfl ?_; clear H; intro b1 w1 H)
    | ((with_reducible refine gBs ?_); (first | (refine bs1 H rfl (by first | exact S33 | exact S45 | exact S31) rfl (Nat.le_of_ble_eq_true rfl) (Nat.le_of_ble_eq_true rfl) rfl ?_) | (refine wl_buildSlice0 rfl (by first | exact S33 | exact S45 | exact S31) H ?_)); clear H; intro b1 w1 H)
    | ((with_reducible refine gEq ?_); (first | (refine wl_cmp rfl rfl rfl rfl ?_) | (refine wl_scmp rfl rfl rfl rfl ?_)); intro rb hrb; cases rb <;> (first | (exfalso; simp at hrb; done) | ((try simp only [decide_eq_true_eq, decide_eq_false_iff_not, beq_iff_eq, beq_eq_false_iff_ne, ne_eq, bne_iff_ne, bne_eq_false_iff_eq, Bool.not_eq_true', Bool.not_eq_false', gt_iff_lt, ge_iff_le, Int.not_lt, Int.not_le, Decidable.not_not] at hrb); (try subst hrb); (try (exfalso; omega)))))
    | ((with_reducible refine gEq ?_); (first | (refine wl_eqAgg G50 (eq50 9998 ⟨_, _⟩ ⟨_, _⟩) rfl rfl rfl ?_) | (refine wl_neAgg G50 (eq50 9998 ⟨_, _⟩ ⟨_, _⟩) rfl rfl rfl ?_)); intro rb hrb; cases rb <;> (try simp only [Bool.not_true, Bool.not_false]))
    | ((with_reducible refine gAl ?_); (first | (refine al H Z50 rfl rfl ?_) | (refine al H Z41 rfl rfl ?_)); clear H; intro b1 w1 H)
    | ((with_reducible refine gRg ?_); refine wp_region_text rfl (by decide +kernel) ?_; replace H := H.drew)
    | (refine EndQ.intro (by kernel_rfl) ?_))
                any_goals go_roundg (gk - 1)
                all_goals first
                  | omega
                  | (refine ⟨k + 1, d, c, _, _, _, _, ?_, ?_, HI.out.mono, H⟩; (· have := HKN.out; omega); (· go_num))
              · have hs2 : (t.size : Int) ≤ 1024 := by omega
                clear hs
                by_cases hf : (c.log.length : Int) < n
                · obtain ⟨hw, hv, hI2⟩ := HI.out.go (t := t) hi2 hi3 (by omega) hf HN9.out
                  have HW := Lib.hid hw
                  have HV := Lib.hid hv
                  have HI2 := Lib.hid hI2
                  clear hw hv hI2
                  go_wp2_with (first
    | ((with_reducible refine gLd ?_); first | (refine wl_loadR (k := k * 3 + 1) (HA.out [_, _, _, _, _, _, _, _] _ H) rfl rfl (by first | rfl | omega) T3 (acs_get HP.out rfl) ?_) | (refine wl_loadR (k := k * 3 + 2) (HA.out [_, _, _, _, _, _, _, _] _ H) rfl rfl (by first | rfl | omega) T9 (acs_get HP.out rfl) ?_))
    | (go_at_call 15; ((with_reducible refine (Write_at (s := d) H HW.out rfl hll).mono ?_); rintro e w1 ⟨ld2, cld2, rfl, H1⟩; clear H; have H := H1; clear H1))
    | (go_at_call 15; replace H := H.swap (A := [_, _, _, _]) (B := [_, _, _, _]); simp only [List.cons_append, List.nil_append] at H; ((with_reducible refine (Write_at (s := c) H HV.out rfl hlc).mono ?_); rintro e w1 ⟨lc2, clc2, rfl, H1⟩; clear H; have H := H1.swap (A := [_, _, _, _]) (B := [_, _, _, _]); clear H1; simp only [List.cons_append, List.nil_append] at H))
    | (go_at_call 19; replace H := H.swap (A := [_, _, _, _]) (B := [_, _, _, _]); simp only [List.cons_append, List.nil_append] at H; ((with_reducible refine (Writes_at (s := c) H rfl).mono ?_); rintro e w1 ⟨rfl, H1⟩; clear H; have H := H1.swap (A := [_, _, _, _]) (B := [_, _, _, _]); clear H1; simp only [List.cons_append, List.nil_append] at H))
    | (go_at_call 13; ((with_reducible refine (num_spec H _).mono ?_); rintro e w1 ⟨rfl, H1⟩; clear H; have H := H1; clear H1))
    | (go_at_call 10; ((with_reducible refine (live_spec H).mono ?_); rintro e w1 ⟨rfl, H1⟩; clear H; have H := H1; clear H1))
    | ((with_reducible refine gLd ?_); refine eLd H rfl rfl ?_; first | (refine kLdB 0 rfl rfl (by first | exact T3 | exact T4 | exact T9 | exact T23 | exact T27 | exact T31 | exact T33 | exact T45 | exact T37 | exact T41 | exact T50 | exact T52 | exact T69 | exact T72) rfl ?_; intro rb hrb; cases rb <;> (first | (exfalso; simp at hrb; done) | ((try simp only [decide_eq_true_eq, decide_eq_false_iff_not, beq_iff_eq, beq_eq_false_iff_ne, ne_eq, bne_iff_ne, bne_eq_false_iff_eq, Bool.not_eq_true', Bool.not_eq_false', gt_iff_lt, ge_iff_le, Int.not_lt, Int.not_le, Decidable.not_not] at hrb); (try subst hrb); (try (exfalso; omega))))) | (refine kLd 0 rfl rfl (by first | exact T3 | exact T4 | exact T9 | exact T23 | exact T27 | exact T31 | exact T33 | exact T45 | exact T37 | exact T41 | exact T50 | exact T52 | exact T69 | exact T72) rfl ?_) | (refine kLdA 0 rfl rfl (by first | exact T3 | exact T4 | exact T9 | exact T23 | exact T27 | exact T31 | exact T33 | exact T45 | exact T37 | exact T41 | exact T50 | exact T52 | exact T69 | exact T72) (Nat.le_of_ble_eq_true rfl) (by simp only [dkC, Wr.cells, bmt, eD, eS, eW, List.drop_succ_cons, List.drop_zero, List.take_succ_cons, List.take_zero, List.set_cons_zero, List.set_cons_succ]; rfl) ?_))
    | ((with_reducible refine gSt ?_); (first | (refine eSt H rfl rfl ⟨.int _ _, rfl, ?_⟩) | (refine eSt H rfl rfl ⟨.bool _, rfl, ?_⟩) | (refine eSt H rfl rfl ⟨.slice _ _ _, rfl, ?_⟩) | (refine eSt H rfl rfl ⟨.pointer _, rfl, ?_⟩) | (refine eSt H rfl rfl ⟨.string _, rfl, ?_⟩) | (refine eSt H rfl rfl ⟨.agg (List.toArray _), rfl, ?_⟩)); (first | (refine kSt 0 rfl rfl (by first | exact T3 | exact T4 | exact T9 | exact T23 | exact T27 | exact T31 | exact T33 | exact T45 | exact T37 | exact T41 | exact T50 | exact T52 | exact T69 | exact T72) rfl (Nat.le_of_ble_eq_true rfl) ?_) | (refine kStA 0 rfl rfl (by first | exact T3 | exact T4 | exact T9 | exact T23 | exact T27 | exact T31 | exact T33 | exact T45 | exact T37 | exact T41 | exact T50 | exact T52 | exact T69 | exact T72) rfl rfl (Nat.le_of_ble_eq_true rfl) ?_)); clear H; intro w1 H; simp only [List.set_cons_zero, List.set_cons_succ] at H; (try simp only [lay, List.take_zero, List.nil_append, List.length_cons, List.length_nil, Nat.zero_add, Nat.reduceAdd, List.drop_succ_cons, List.drop_zero, List.drop_nil, List.append_nil, List.take_succ_cons, List.cons_append] at H))
    | ((with_reducible refine gBx ?_); refine bxA H rfl rfl rfl ?_; clear H; intro b1 w1 H)
    | ((with_reducible refine gBs ?_); (first | (refine bs1 H rfl (by first | exact S33 | exact S45 | exact S31) rfl (Nat.le_of_ble_eq_true rfl) (Nat.le_of_ble_eq_true rfl) rfl ?_) | (refine wl_buildSlice0 rfl (by first | exact S33 | exact S45 | exact S31) H ?_)); clear H; intro b1 w1 H)
    | ((with_reducible refine gEq ?_); (first | (refine wl_cmp rfl rfl rfl rfl ?_) | (refine wl_scmp rfl rfl rfl rfl ?_)); intro rb hrb; cases rb <;> (first | (exfalso; simp at hrb; done) | ((try simp only [decide_eq_true_eq, decide_eq_false_iff_not, beq_iff_eq, beq_eq_false_iff_ne, ne_eq, bne_iff_ne, bne_eq_false_iff_eq, Bool.not_eq_true', Bool.not_eq_false', gt_iff_lt, ge_iff_le, Int.not_lt, Int.not_le, Decidable.not_not] at hrb); (try subst hrb); (try (exfalso; omega)))))
    | ((with_reducible refine gEq ?_); (first | (refine wl_eqAgg G50 (eq50 9998 ⟨_, _⟩ ⟨_, _⟩) rfl rfl rfl ?_) | (refine wl_neAgg G50 (eq50 9998 ⟨_, _⟩ ⟨_, _⟩) rfl rfl rfl ?_)); intro rb hrb; cases rb <;> (try simp only [Bool.not_true, Bool.not_false]))
    | ((with_reducible refine gAl ?_); (first | (refine al H Z50 rfl rfl ?_) | (refine al H Z41 rfl rfl ?_)); clear H; intro b1 w1 H)
    | ((with_reducible refine gRg ?_); refine wp_region_text rfl (by decide +kernel) ?_; replace H := H.drew)
    | (refine EndQ.intro (by kernel_rfl) ?_))
                  any_goals go_roundg (gk - 1)
                  all_goals first
                    | omega
                    | (refine ⟨k + 1, (d.write i t), (c.write i t), _, _, _, _, ?_, ?_, HI2.out, H⟩; (· have := HKN.out; omega); (· go_num))
                · have hf2 : (c.log.length : Int) = n := by omega
                  obtain ⟨hw, hI2⟩ := HI.out.full (t := t) hi2 hi3 (by omega) hf2
                  have HW := Lib.hid hw
                  have HI2 := Lib.hid hI2
                  have hf3 : n ≤ (c.log.length : Int) := by omega
                  clear hw hI2 hf hf2
                  go_wp2_with (first
    | ((with_reducible refine gLd ?_); first | (refine wl_loadR (k := k * 3 + 1) (HA.out [_, _, _, _, _, _, _, _] _ H) rfl rfl (by first | rfl | omega) T3 (acs_get HP.out rfl) ?_) | (refine wl_loadR (k := k * 3 + 2) (HA.out [_, _, _, _, _, _, _, _] _ H) rfl rfl (by first | rfl | omega) T9 (acs_get HP.out rfl) ?_))
    | (go_at_call 15; ((with_reducible refine (Write_at (s := d) H HW.out rfl hll).mono ?_); rintro e w1 ⟨ld2, cld2, rfl, H1⟩; clear H; have H := H1; clear H1))
    | (go_at_call 15; replace H := H.swap (A := [_, _, _, _]) (B := [_, _, _, _]); simp only [List.cons_append, List.nil_append] at H; ((with_reducible refine (Write_at (s := c) H HV.out rfl hlc).mono ?_); rintro e w1 ⟨lc2, clc2, rfl, H1⟩; clear H; have H := H1.swap (A := [_, _, _, _]) (B := [_, _, _, _]); clear H1; simp only [List.cons_append, List.nil_append] at H))
    | (go_at_call 19; replace H := H.swap (A := [_, _, _, _]) (B := [_, _, _, _]); simp only [List.cons_append, List.nil_append] at H; ((with_reducible refine (Writes_at (s := c) H rfl).mono ?_); rintro e w1 ⟨rfl, H1⟩; clear H; have H := H1.swap (A := [_, _, _, _]) (B := [_, _, _, _]); clear H1; simp only [List.cons_append, List.nil_append] at H))
    | (go_at_call 13; ((with_reducible refine (num_spec H _).mono ?_); rintro e w1 ⟨rfl, H1⟩; clear H; have H := H1; clear H1))
    | (go_at_call 10; ((with_reducible refine (live_spec H).mono ?_); rintro e w1 ⟨rfl, H1⟩; clear H; have H := H1; clear H1))
    | ((with_reducible refine gLd ?_); refine eLd H rfl rfl ?_; first | (refine kLdB 0 rfl rfl (by first | exact T3 | exact T4 | exact T9 | exact T23 | exact T27 | exact T31 | exact T33 | exact T45 | exact T37 | exact T41 | exact T50 | exact T52 | exact T69 | exact T72) rfl ?_; intro rb hrb; cases rb <;> (first | (exfalso; simp at hrb; done) | ((try simp only [decide_eq_true_eq, decide_eq_false_iff_not, beq_iff_eq, beq_eq_false_iff_ne, ne_eq, bne_iff_ne, bne_eq_false_iff_eq, Bool.not_eq_true', Bool.not_eq_false', gt_iff_lt, ge_iff_le, Int.not_lt, Int.not_le, Decidable.not_not] at hrb); (try subst hrb); (try (exfalso; omega))))) | (refine kLd 0 rfl rfl (by first | exact T3 | exact T4 | exact T9 | exact T23 | exact T27 | exact T31 | exact T33 | exact T45 | exact T37 | exact T41 | exact T50 | exact T52 | exact T69 | exact T72) rfl ?_) | (refine kLdA 0 rfl rfl (by first | exact T3 | exact T4 | exact T9 | exact T23 | exact T27 | exact T31 | exact T33 | exact T45 | exact T37 | exact T41 | exact T50 | exact T52 | exact T69 | exact T72) (Nat.le_of_ble_eq_true rfl) (by simp only [dkC, Wr.cells, bmt, eD, eS, eW, List.drop_succ_cons, List.drop_zero, List.take_succ_cons, List.take_zero, List.set_cons_zero, List.set_cons_succ]; rfl) ?_))
    | ((with_reducible refine gSt ?_); (first | (refine eSt H rfl rfl ⟨.int _ _, rfl, ?_⟩) | (refine eSt H rfl rfl ⟨.bool _, rfl, ?_⟩) | (refine eSt H rfl rfl ⟨.slice _ _ _, rfl, ?_⟩) | (refine eSt H rfl rfl ⟨.pointer _, rfl, ?_⟩) | (refine eSt H rfl rfl ⟨.string _, rfl, ?_⟩) | (refine eSt H rfl rfl ⟨.agg (List.toArray _), rfl, ?_⟩)); (first | (refine kSt 0 rfl rfl (by first | exact T3 | exact T4 | exact T9 | exact T23 | exact T27 | exact T31 | exact T33 | exact T45 | exact T37 | exact T41 | exact T50 | exact T52 | exact T69 | exact T72) rfl (Nat.le_of_ble_eq_true rfl) ?_) | (refine kStA 0 rfl rfl (by first | exact T3 | exact T4 | exact T9 | exact T23 | exact T27 | exact T31 | exact T33 | exact T45 | exact T37 | exact T41 | exact T50 | exact T52 | exact T69 | exact T72) rfl rfl (Nat.le_of_ble_eq_true rfl) ?_)); clear H; intro w1 H; simp only [List.set_cons_zero, List.set_cons_succ] at H; (try simp only [lay, List.take_zero, List.nil_append, List.length_cons, List.length_nil, Nat.zero_add, Nat.reduceAdd, List.drop_succ_cons, List.drop_zero, List.drop_nil, List.append_nil, List.take_succ_cons, List.cons_append] at H))
    | ((with_reducible refine gBx ?_); refine bxA H rfl rfl rfl ?_; clear H; intro b1 w1 H)
    | ((with_reducible refine gBs ?_); (first | (refine bs1 H rfl (by first | exact S33 | exact S45 | exact S31) rfl (Nat.le_of_ble_eq_true rfl) (Nat.le_of_ble_eq_true rfl) rfl ?_) | (refine wl_buildSlice0 rfl (by first | exact S33 | exact S45 | exact S31) H ?_)); clear H; intro b1 w1 H)
    | ((with_reducible refine gEq ?_); (first | (refine wl_cmp rfl rfl rfl rfl ?_) | (refine wl_scmp rfl rfl rfl rfl ?_)); intro rb hrb; cases rb <;> (first | (exfalso; simp at hrb; done) | ((try simp only [decide_eq_true_eq, decide_eq_false_iff_not, beq_iff_eq, beq_eq_false_iff_ne, ne_eq, bne_iff_ne, bne_eq_false_iff_eq, Bool.not_eq_true', Bool.not_eq_false', gt_iff_lt, ge_iff_le, Int.not_lt, Int.not_le, Decidable.not_not] at hrb); (try subst hrb); (try (exfalso; omega)))))
    | ((with_reducible refine gEq ?_); (first | (refine wl_eqAgg G50 (eq50 9998 ⟨_, _⟩ ⟨_, _⟩) rfl rfl rfl ?_) | (refine wl_neAgg G50 (eq50 9998 ⟨_, _⟩ ⟨_, _⟩) rfl rfl rfl ?_)); intro rb hrb; cases rb <;> (try simp only [Bool.not_true, Bool.not_false]))
    | ((with_reducible refine gAl ?_); (first | (refine al H Z50 rfl rfl ?_) | (refine al H Z41 rfl rfl ?_)); clear H; intro b1 w1 H)
    | ((with_reducible refine gRg ?_); refine wp_region_text rfl (by decide +kernel) ?_; replace H := H.drew)
    | (refine EndQ.intro (by kernel_rfl) ?_))
                  any_goals go_roundg (gk - 1)
                  all_goals first
                    | omega
                    | (refine ⟨k + 1, (d.write i t), c, _, _, _, _, ?_, ?_, HI2.out, H⟩; (· have := HKN.out; omega); (· go_num))
        · clear hkn
          go_wp2_with (first
    | (go_at_call 20; refine (Same_spec H hnl).mono ?_; rintro e w1 ⟨rfl, H1⟩; clear H; have H := H1; clear H1; rw [lEq_true HI.out.no])
    | (go_at_call 10; ((with_reducible refine (live_spec H).mono ?_); rintro e w1 ⟨rfl, H1⟩; clear H; have H := H1; clear H1))
    | ((with_reducible refine gLd ?_); refine eLd H rfl rfl ?_; first | (refine kLdB 0 rfl rfl (by first | exact T3 | exact T4 | exact T9 | exact T23 | exact T27 | exact T31 | exact T33 | exact T45 | exact T37 | exact T41 | exact T50 | exact T52 | exact T69 | exact T72) rfl ?_; intro rb hrb; cases rb <;> (first | (exfalso; simp at hrb; done) | ((try simp only [decide_eq_true_eq, decide_eq_false_iff_not, beq_iff_eq, beq_eq_false_iff_ne, ne_eq, bne_iff_ne, bne_eq_false_iff_eq, Bool.not_eq_true', Bool.not_eq_false', gt_iff_lt, ge_iff_le, Int.not_lt, Int.not_le, Decidable.not_not] at hrb); (try subst hrb); (try (exfalso; omega))))) | (refine kLd 0 rfl rfl (by first | exact T3 | exact T4 | exact T9 | exact T23 | exact T27 | exact T31 | exact T33 | exact T45 | exact T37 | exact T41 | exact T50 | exact T52 | exact T69 | exact T72) rfl ?_) | (refine kLdA 0 rfl rfl (by first | exact T3 | exact T4 | exact T9 | exact T23 | exact T27 | exact T31 | exact T33 | exact T45 | exact T37 | exact T41 | exact T50 | exact T52 | exact T69 | exact T72) (Nat.le_of_ble_eq_true rfl) (by simp only [dkC, Wr.cells, bmt, eD, eS, eW, List.drop_succ_cons, List.drop_zero, List.take_succ_cons, List.take_zero, List.set_cons_zero, List.set_cons_succ]; rfl) ?_))
    | ((with_reducible refine gSt ?_); (first | (refine eSt H rfl rfl ⟨.int _ _, rfl, ?_⟩) | (refine eSt H rfl rfl ⟨.bool _, rfl, ?_⟩) | (refine eSt H rfl rfl ⟨.slice _ _ _, rfl, ?_⟩) | (refine eSt H rfl rfl ⟨.pointer _, rfl, ?_⟩) | (refine eSt H rfl rfl ⟨.string _, rfl, ?_⟩) | (refine eSt H rfl rfl ⟨.agg (List.toArray _), rfl, ?_⟩)); (first | (refine kSt 0 rfl rfl (by first | exact T3 | exact T4 | exact T9 | exact T23 | exact T27 | exact T31 | exact T33 | exact T45 | exact T37 | exact T41 | exact T50 | exact T52 | exact T69 | exact T72) rfl (Nat.le_of_ble_eq_true rfl) ?_) | (refine kStA 0 rfl rfl (by first | exact T3 | exact T4 | exact T9 | exact T23 | exact T27 | exact T31 | exact T33 | exact T45 | exact T37 | exact T41 | exact T50 | exact T52 | exact T69 | exact T72) rfl rfl (Nat.le_of_ble_eq_true rfl) ?_)); clear H; intro w1 H; simp only [List.set_cons_zero, List.set_cons_succ] at H; (try simp only [lay, List.take_zero, List.nil_append, List.length_cons, List.length_nil, Nat.zero_add, Nat.reduceAdd, List.drop_succ_cons, List.drop_zero, List.drop_nil, List.append_nil, List.take_succ_cons, List.cons_append] at H))
    | ((with_reducible refine gBx ?_); refine bxA H rfl rfl rfl ?_; clear H; intro b1 w1 H)
    | ((with_reducible refine gBs ?_); (first | (refine bs1 H rfl (by first | exact S33 | exact S45 | exact S31) rfl (Nat.le_of_ble_eq_true rfl) (Nat.le_of_ble_eq_true rfl) rfl ?_) | (refine wl_buildSlice0 rfl (by first | exact S33 | exact S45 | exact S31) H ?_)); clear H; intro b1 w1 H)
    | ((with_reducible refine gEq ?_); (first | (refine wl_cmp rfl rfl rfl rfl ?_) | (refine wl_scmp rfl rfl rfl rfl ?_)); intro rb hrb; cases rb <;> (first | (exfalso; simp at hrb; done) | ((try simp only [decide_eq_true_eq, decide_eq_false_iff_not, beq_iff_eq, beq_eq_false_iff_ne, ne_eq, bne_iff_ne, bne_eq_false_iff_eq, Bool.not_eq_true', Bool.not_eq_false', gt_iff_lt, ge_iff_le, Int.not_lt, Int.not_le, Decidable.not_not] at hrb); (try subst hrb); (try (exfalso; omega)))))
    | ((with_reducible refine gEq ?_); (first | (refine wl_eqAgg G50 (eq50 9998 ⟨_, _⟩ ⟨_, _⟩) rfl rfl rfl ?_) | (refine wl_neAgg G50 (eq50 9998 ⟨_, _⟩ ⟨_, _⟩) rfl rfl rfl ?_)); intro rb hrb; cases rb <;> (try simp only [Bool.not_true, Bool.not_false]))
    | ((with_reducible refine gAl ?_); (first | (refine al H Z50 rfl rfl ?_) | (refine al H Z41 rfl rfl ?_)); clear H; intro b1 w1 H)
    | ((with_reducible refine gRg ?_); refine wp_region_text rfl (by decide +kernel) ?_; replace H := H.drew)
    | (refine EndQ.intro (by kernel_rfl) ?_))
          all_goals go_ret
          all_goals exact ⟨rfl, _, H⟩
    · go_enter Try.func4, Try.ntmps4
      go_wp2_with (first
    | (go_at_call 17; refine (long_spec H (HX.out.rd _) (HY.out.rd _) (by omega) (by omega)).mono ?_; rintro e w1 ⟨hb, rfl, hl2, H1⟩; clear H; have H := H1; clear H1; have HL2 := Lib.hid hl2; clear hl2; cases hb)
    | (go_at_call 10; ((with_reducible refine (live_spec H).mono ?_); rintro e w1 ⟨rfl, H1⟩; clear H; have H := H1; clear H1))
    | (go_at_call 14; ((with_reducible refine (Load_noE H (HX.out.rd _) hE).mono ?_); rintro e w1 ⟨rfl, H1⟩; clear H; have H := H1; clear H1))
    | (go_at_call 13; ((with_reducible refine (num_spec H _).mono ?_); rintro e w1 ⟨rfl, H1⟩; clear H; have H := H1; clear H1))
    | ((with_reducible refine gLd ?_); refine eLd H rfl rfl ?_; first | (refine kLdB 0 rfl rfl (by first | exact T3 | exact T4 | exact T9 | exact T23 | exact T27 | exact T31 | exact T33 | exact T45 | exact T37 | exact T41 | exact T50 | exact T52 | exact T69 | exact T72) rfl ?_; intro rb hrb; cases rb <;> (first | (exfalso; simp at hrb; done) | ((try simp only [decide_eq_true_eq, decide_eq_false_iff_not, beq_iff_eq, beq_eq_false_iff_ne, ne_eq, bne_iff_ne, bne_eq_false_iff_eq, Bool.not_eq_true', Bool.not_eq_false', gt_iff_lt, ge_iff_le, Int.not_lt, Int.not_le, Decidable.not_not] at hrb); (try subst hrb); (try (exfalso; omega))))) | (refine kLd 0 rfl rfl (by first | exact T3 | exact T4 | exact T9 | exact T23 | exact T27 | exact T31 | exact T33 | exact T45 | exact T37 | exact T41 | exact T50 | exact T52 | exact T69 | exact T72) rfl ?_) | (refine kLdA 0 rfl rfl (by first | exact T3 | exact T4 | exact T9 | exact T23 | exact T27 | exact T31 | exact T33 | exact T45 | exact T37 | exact T41 | exact T50 | exact T52 | exact T69 | exact T72) (Nat.le_of_ble_eq_true rfl) (by simp only [dkC, Wr.cells, bmt, eD, eS, eW, List.drop_succ_cons, List.drop_zero, List.take_succ_cons, List.take_zero, List.set_cons_zero, List.set_cons_succ]; rfl) ?_))
    | ((with_reducible refine gSt ?_); (first | (refine eSt H rfl rfl ⟨.int _ _, rfl, ?_⟩) | (refine eSt H rfl rfl ⟨.bool _, rfl, ?_⟩) | (refine eSt H rfl rfl ⟨.slice _ _ _, rfl, ?_⟩) | (refine eSt H rfl rfl ⟨.pointer _, rfl, ?_⟩) | (refine eSt H rfl rfl ⟨.string _, rfl, ?_⟩) | (refine eSt H rfl rfl ⟨.agg (List.toArray _), rfl, ?_⟩)); (first | (refine kSt 0 rfl rfl (by first | exact T3 | exact T4 | exact T9 | exact T23 | exact T27 | exact T31 | exact T33 | exact T45 | exact T37 | exact T41 | exact T50 | exact T52 | exact T69 | exact T72) rfl (Nat.le_of_ble_eq_true rfl) ?_) | (refine kStA 0 rfl rfl (by first | exact T3 | exact T4 | exact T9 | exact T23 | exact T27 | exact T31 | exact T33 | exact T45 | exact T37 | exact T41 | exact T50 | exact T52 | exact T69 | exact T72) rfl rfl (Nat.le_of_ble_eq_true rfl) ?_)); clear H; intro w1 H; simp only [List.set_cons_zero, List.set_cons_succ] at H; (try simp only [lay, List.take_zero, List.nil_append, List.length_cons, List.length_nil, Nat.zero_add, Nat.reduceAdd, List.drop_succ_cons, List.drop_zero, List.drop_nil, List.append_nil, List.take_succ_cons, List.cons_append] at H))
    | ((with_reducible refine gBx ?_); refine bxA H rfl rfl rfl ?_; clear H; intro b1 w1 H)
    | ((with_reducible refine gBs ?_); (first | (refine bs1 H rfl (by first | exact S33 | exact S45 | exact S31) rfl (Nat.le_of_ble_eq_true rfl) (Nat.le_of_ble_eq_true rfl) rfl ?_) | (refine wl_buildSlice0 rfl (by first | exact S33 | exact S45 | exact S31) H ?_)); clear H; intro b1 w1 H)
    | ((with_reducible refine gEq ?_); (first | (refine wl_cmp rfl rfl rfl rfl ?_) | (refine wl_scmp rfl rfl rfl rfl ?_)); intro rb hrb; cases rb <;> (first | (exfalso; simp at hrb; done) | ((try simp only [decide_eq_true_eq, decide_eq_false_iff_not, beq_iff_eq, beq_eq_false_iff_ne, ne_eq, bne_iff_ne, bne_eq_false_iff_eq, Bool.not_eq_true', Bool.not_eq_false', gt_iff_lt, ge_iff_le, Int.not_lt, Int.not_le, Decidable.not_not] at hrb); (try subst hrb); (try (exfalso; omega)))))
    | ((with_reducible refine gEq ?_); (first | (refine wl_eqAgg G50 (eq50 9998 ⟨_, _⟩ ⟨_, _⟩) rfl rfl rfl ?_) | (refine wl_neAgg G50 (eq50 9998 ⟨_, _⟩ ⟨_, _⟩) rfl rfl rfl ?_)); intro rb hrb; cases rb <;> (try simp only [Bool.not_true, Bool.not_false]))
    | ((with_reducible refine gAl ?_); (first | (refine al H Z50 rfl rfl ?_) | (refine al H Z41 rfl rfl ?_)); clear H; intro b1 w1 H)
    | ((with_reducible refine gRg ?_); refine wp_region_text rfl (by decide +kernel) ?_; replace H := H.drew)
    | (refine EndQ.intro (by kernel_rfl) ?_))
      all_goals go_ret
      all_goals exact ⟨rfl, _, H⟩
end Go.Proofs.Ytfcmjddpoacenaa
