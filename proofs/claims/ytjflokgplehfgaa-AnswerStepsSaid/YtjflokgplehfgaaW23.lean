/- The document's Next: what it tells. -/
import Derived.Test.YtjflokgplehfgaaW22
import Derived.Test.YtjflokgplehfgaaW13
import Derived.WalkKit
import Derived.Lib.Hide
import Derived.Deep.LoopGhost
import Derived.WalkSpells
set_option linter.unusedVariables false
set_option linter.unusedSimpArgs false
namespace Go.Proofs.Ytjflokgplehfgaa
open Go.RowKit Go.Gx Go.Gx.Ans
set_option maxRecDepth 100000
def evR (s : Sta) (r : Rw) : Ev := if r.tick = true then ⟨3, s.c, ⟨#[]⟩, .zero⟩ else ⟨2, 0, ⟨#[]⟩, want s r.kind⟩
noncomputable def accR (s : Sta) : Nat → List Sta
  | 0 => []
  | j + 1 => if (((tbl[j]?.getD ⟨0, false, 0, 0, 0⟩).ph == s.phase) && !((stepR s (evR s (tbl[j]?.getD ⟨0, false, 0, 0, 0⟩))).1.beq s)) = true then accR s j ++ [(stepR s (evR s (tbl[j]?.getD ⟨0, false, 0, 0, 0⟩))).1] else accR s j
open Classical in
noncomputable def nextR (s : Sta) : List Sta := if chkS s = false ∨ s.phase = 0 then [] else accR s 10
theorem accR_step {s t : Sta} {j : Nat} {r : Rw} (hr : tbl[j]? = some r) (ht : (stepR s (evR s r)).1 = t) : accR s (j + 1) = if ((r.ph == s.phase) && !(t.beq s)) = true then accR s j ++ [t] else accR s j := by
  subst ht
  conv => lhs; unfold accR
  rw [hr]
  rfl
theorem rStepN {w0 w : World} {D : Nat → Prop} {R : List Ent} {s t : Sta} {v : Ev} (H : Hp w0 D R w) (h : (stepR s v).1 = t) : Calls Try.prog 14 #[.agg s.cells.toArray, .agg v.cells.toArray] w fun e w' => ∃ a n c, e = .returned (.tuple #[.agg t.cells.toArray, .slice a n c]) ∧ Hp w0 D R w' := by
  refine (rStep_spec H s v).mono ?_
  rintro e w' ⟨a, c, he, hh⟩
  subst h
  exact ⟨_, _, _, he, hh.drop⟩
theorem tbl_at {k : Nat} (hk : k < 10) : ∃ r : Rw, tbl[k]? = some r ∧ tblC[k * 5]? = some (.int .i64 r.ph) ∧ tblC[k * 5 + 1]? = some (.bool r.tick) ∧ tblC[k * 5 + 2]? = some (.int .i64 r.kind) := by
  have : k = 0 ∨ k = 1 ∨ k = 2 ∨ k = 3 ∨ k = 4 ∨ k = 5 ∨ k = 6 ∨ k = 7 ∨ k = 8 ∨ k = 9 := by omega
  rcases this with rfl | rfl | rfl | rfl | rfl | rfl | rfl | rfl | rfl | rfl <;> exact ⟨_, rfl, rfl, rfl, rfl⟩
set_option maxHeartbeats 4000000 in
theorem rNext_spec {w0 w : World} {D : Nat → Prop} {R : List Ent} {s : Sta} {l : List Sta} (H : Hp w0 D (R) w) (hl : nextR s = l) :
    Calls Try.prog 26 #[.agg s.cells.toArray] w fun e w' => NxP w0 D R l e w' := by
  by_cases hck : chkS s = false
  · have el : l = [] := by rw [← hl]; unfold nextR; rw [if_pos (.inl hck)]
    subst el
    have HCK := Lib.hid hck
    clear hl hck
    go_enter Try.func26, Try.ntmps26
    go_wp2_with (first
    | ((with_reducible refine gBx ?_); refine bxA (vs := s.cells) H rfl rfl rfl ?_; clear H; intro b1 w1 H)
    | ((with_reducible refine gLd ?_); refine eLd H rfl rfl ?_; first | (refine kLdW 0 rfl T29 rfl ?_) | (refine kLdW 3 rfl T29 rfl ?_) | (refine kLdW 4 rfl T29 rfl ?_) | (refine kLdW 0 rfl T35 rfl ?_) | (refine kLd 2 rfl rfl T22 rfl ?_) | (refine kLd 3 rfl rfl T22 rfl ?_) | (refine kLd 3 rfl rfl T9 rfl ?_) | (refine kLd 4 rfl rfl T3 rfl ?_))
    | (go_at_call 20; ((with_reducible refine (rChkS_spec H s).mono ?_); rintro e w1 ⟨rfl, H1⟩; clear H; have H := H1; clear H1; rw [HCK.out]))
    | ((with_reducible refine gLd ?_); refine eLd H rfl rfl ?_; first | (refine kLd 0 rfl rfl (by first | exact T3 | exact T4 | exact T9 | exact T22 | exact T27 | exact T29 | exact T35) rfl ?_) | (refine kLdA 0 rfl rfl (by first | exact T3 | exact T4 | exact T9 | exact T22 | exact T27 | exact T29 | exact T35) (Nat.le_of_ble_eq_true rfl) (by simp only [List.drop_succ_cons, List.drop_zero, List.take_succ_cons, List.take_zero, List.set_cons_zero, List.set_cons_succ]; rfl) ?_))
    | ((with_reducible refine gSt ?_); (first | (refine eSt H rfl rfl ⟨.int _ _, rfl, ?_⟩) | (refine eSt H rfl rfl ⟨.bool _, rfl, ?_⟩) | (refine eSt H rfl rfl ⟨.slice _ _ _, rfl, ?_⟩) | (refine eSt H rfl rfl ⟨.pointer _, rfl, ?_⟩) | (refine eSt H rfl rfl ⟨.string _, rfl, ?_⟩) | (refine eSt H rfl rfl ⟨.agg (List.toArray _), rfl, ?_⟩)); (first | (refine kSt 0 rfl rfl (by first | exact T3 | exact T4 | exact T9 | exact T22 | exact T27 | exact T29 | exact T35) rfl (Nat.le_of_ble_eq_true rfl) ?_) | (refine kStA 0 rfl rfl (by first | exact T3 | exact T4 | exact T9 | exact T22 | exact T27 | exact T29 | exact T35) rfl rfl (Nat.le_of_ble_eq_true rfl) ?_)); clear H; intro w1 H; simp only [List.set_cons_zero, List.set_cons_succ] at H; (try simp only [lay, List.take_zero, List.nil_append, List.length_cons, List.length_nil, Nat.zero_add, Nat.reduceAdd, List.drop_succ_cons, List.drop_zero, List.drop_nil, List.append_nil, List.take_succ_cons, List.cons_append] at H))
    | ((with_reducible refine gBx ?_); refine bxA H rfl rfl rfl ?_; clear H; intro b1 w1 H)
    | ((with_reducible refine gBs ?_); (first | (refine bs1 H rfl (by first | exact S48) rfl (Nat.le_of_ble_eq_true rfl) (Nat.le_of_ble_eq_true rfl) rfl ?_) | (refine wl_buildSlice0 rfl (by first | exact S48) H ?_)); clear H; intro b1 w1 H)
    | ((with_reducible refine gEq ?_); (first | (refine wl_cmp rfl rfl rfl rfl ?_) | (refine wl_scmp rfl rfl rfl rfl ?_)); intro rb hrb; cases rb <;> (first | (exfalso; simp at hrb; done) | ((try simp only [decide_eq_true_eq, decide_eq_false_iff_not, beq_iff_eq, beq_eq_false_iff_ne, ne_eq, bne_iff_ne, bne_eq_false_iff_eq, Bool.not_eq_true', Bool.not_eq_false', gt_iff_lt, ge_iff_le, Int.not_lt, Int.not_le, Decidable.not_not] at hrb); (try subst hrb); (try (exfalso; omega)))))
    | ((with_reducible refine gRg ?_); refine wp_region_text rfl (by decide +kernel) ?_; replace H := H.drew)
    | ((with_reducible refine EndQ.intro ?_ ?_); (· kernel_rfl)))
    go_ret
    exact ⟨none, 0, rfl, H.drop.consNone 29⟩
  have hck2 : chkS s = true := by simpa using hck
  have HCK := Lib.hid hck2
  by_cases hp : s.phase = 0
  · have el : l = [] := by rw [← hl]; unfold nextR; rw [if_pos (.inr hp)]
    subst el
    clear hl hck hck2
    go_enter Try.func26, Try.ntmps26
    go_wp2_with (first
    | ((with_reducible refine gBx ?_); refine bxA (vs := s.cells) H rfl rfl rfl ?_; clear H; intro b1 w1 H)
    | ((with_reducible refine gLd ?_); refine eLd H rfl rfl ?_; first | (refine kLdW 0 rfl T29 rfl ?_) | (refine kLdW 3 rfl T29 rfl ?_) | (refine kLdW 4 rfl T29 rfl ?_) | (refine kLdW 0 rfl T35 rfl ?_) | (refine kLd 2 rfl rfl T22 rfl ?_) | (refine kLd 3 rfl rfl T22 rfl ?_) | (refine kLd 3 rfl rfl T9 rfl ?_) | (refine kLd 4 rfl rfl T3 rfl ?_))
    | (go_at_call 20; ((with_reducible refine (rChkS_spec H s).mono ?_); rintro e w1 ⟨rfl, H1⟩; clear H; have H := H1; clear H1; rw [HCK.out]))
    | ((with_reducible refine gLd ?_); refine eLd H rfl rfl ?_; first | (refine kLd 0 rfl rfl (by first | exact T3 | exact T4 | exact T9 | exact T22 | exact T27 | exact T29 | exact T35) rfl ?_) | (refine kLdA 0 rfl rfl (by first | exact T3 | exact T4 | exact T9 | exact T22 | exact T27 | exact T29 | exact T35) (Nat.le_of_ble_eq_true rfl) (by simp only [List.drop_succ_cons, List.drop_zero, List.take_succ_cons, List.take_zero, List.set_cons_zero, List.set_cons_succ]; rfl) ?_))
    | ((with_reducible refine gSt ?_); (first | (refine eSt H rfl rfl ⟨.int _ _, rfl, ?_⟩) | (refine eSt H rfl rfl ⟨.bool _, rfl, ?_⟩) | (refine eSt H rfl rfl ⟨.slice _ _ _, rfl, ?_⟩) | (refine eSt H rfl rfl ⟨.pointer _, rfl, ?_⟩) | (refine eSt H rfl rfl ⟨.string _, rfl, ?_⟩) | (refine eSt H rfl rfl ⟨.agg (List.toArray _), rfl, ?_⟩)); (first | (refine kSt 0 rfl rfl (by first | exact T3 | exact T4 | exact T9 | exact T22 | exact T27 | exact T29 | exact T35) rfl (Nat.le_of_ble_eq_true rfl) ?_) | (refine kStA 0 rfl rfl (by first | exact T3 | exact T4 | exact T9 | exact T22 | exact T27 | exact T29 | exact T35) rfl rfl (Nat.le_of_ble_eq_true rfl) ?_)); clear H; intro w1 H; simp only [List.set_cons_zero, List.set_cons_succ] at H; (try simp only [lay, List.take_zero, List.nil_append, List.length_cons, List.length_nil, Nat.zero_add, Nat.reduceAdd, List.drop_succ_cons, List.drop_zero, List.drop_nil, List.append_nil, List.take_succ_cons, List.cons_append] at H))
    | ((with_reducible refine gBx ?_); refine bxA H rfl rfl rfl ?_; clear H; intro b1 w1 H)
    | ((with_reducible refine gBs ?_); (first | (refine bs1 H rfl (by first | exact S48) rfl (Nat.le_of_ble_eq_true rfl) (Nat.le_of_ble_eq_true rfl) rfl ?_) | (refine wl_buildSlice0 rfl (by first | exact S48) H ?_)); clear H; intro b1 w1 H)
    | ((with_reducible refine gEq ?_); (first | (refine wl_cmp rfl rfl rfl rfl ?_) | (refine wl_scmp rfl rfl rfl rfl ?_)); intro rb hrb; cases rb <;> (first | (exfalso; simp at hrb; done) | ((try simp only [decide_eq_true_eq, decide_eq_false_iff_not, beq_iff_eq, beq_eq_false_iff_ne, ne_eq, bne_iff_ne, bne_eq_false_iff_eq, Bool.not_eq_true', Bool.not_eq_false', gt_iff_lt, ge_iff_le, Int.not_lt, Int.not_le, Decidable.not_not] at hrb); (try subst hrb); (try (exfalso; omega)))))
    | ((with_reducible refine gRg ?_); refine wp_region_text rfl (by decide +kernel) ?_; replace H := H.drew)
    | ((with_reducible refine EndQ.intro ?_ ?_); (· kernel_rfl)))
    go_ret
    exact ⟨none, 0, rfl, H.drop.consNone 29⟩
  · have HL : Hid (accR s 10 = l) := Lib.hid (by rw [← hl]; unfold nextR; rw [if_neg (fun h => h.elim hck hp)])
    clear hl hck hck2
    go_enter Try.func26, Try.ntmps26
    go_wp2_with (first
    | ((with_reducible refine gBx ?_); refine bxA (vs := s.cells) H rfl rfl rfl ?_; clear H; intro b1 w1 H)
    | ((with_reducible refine gLd ?_); refine eLd H rfl rfl ?_; first | (refine kLdW 0 rfl T29 rfl ?_) | (refine kLdW 3 rfl T29 rfl ?_) | (refine kLdW 4 rfl T29 rfl ?_) | (refine kLdW 0 rfl T35 rfl ?_) | (refine kLd 2 rfl rfl T22 rfl ?_) | (refine kLd 3 rfl rfl T22 rfl ?_) | (refine kLd 3 rfl rfl T9 rfl ?_) | (refine kLd 4 rfl rfl T3 rfl ?_))
    | (go_at_call 20; ((with_reducible refine (rChkS_spec H s).mono ?_); rintro e w1 ⟨rfl, H1⟩; clear H; have H := H1; clear H1; rw [HCK.out]))
    | (go_at_call 29; ((with_reducible refine (Table_spec H).mono ?_); rintro e w1 ⟨b5, rfl, H1⟩; clear H; have H := H1; clear H1))
    | ((with_reducible refine gLd ?_); refine eLd H rfl rfl ?_; first | (refine kLd 0 rfl rfl (by first | exact T3 | exact T4 | exact T9 | exact T22 | exact T27 | exact T29 | exact T35) rfl ?_) | (refine kLdA 0 rfl rfl (by first | exact T3 | exact T4 | exact T9 | exact T22 | exact T27 | exact T29 | exact T35) (Nat.le_of_ble_eq_true rfl) (by simp only [List.drop_succ_cons, List.drop_zero, List.take_succ_cons, List.take_zero, List.set_cons_zero, List.set_cons_succ]; rfl) ?_))
    | ((with_reducible refine gSt ?_); (first | (refine eSt H rfl rfl ⟨.int _ _, rfl, ?_⟩) | (refine eSt H rfl rfl ⟨.bool _, rfl, ?_⟩) | (refine eSt H rfl rfl ⟨.slice _ _ _, rfl, ?_⟩) | (refine eSt H rfl rfl ⟨.pointer _, rfl, ?_⟩) | (refine eSt H rfl rfl ⟨.string _, rfl, ?_⟩) | (refine eSt H rfl rfl ⟨.agg (List.toArray _), rfl, ?_⟩)); (first | (refine kSt 0 rfl rfl (by first | exact T3 | exact T4 | exact T9 | exact T22 | exact T27 | exact T29 | exact T35) rfl (Nat.le_of_ble_eq_true rfl) ?_) | (refine kStA 0 rfl rfl (by first | exact T3 | exact T4 | exact T9 | exact T22 | exact T27 | exact T29 | exact T35) rfl rfl (Nat.le_of_ble_eq_true rfl) ?_)); clear H; intro w1 H; simp only [List.set_cons_zero, List.set_cons_succ] at H; (try simp only [lay, List.take_zero, List.nil_append, List.length_cons, List.length_nil, Nat.zero_add, Nat.reduceAdd, List.drop_succ_cons, List.drop_zero, List.drop_nil, List.append_nil, List.take_succ_cons, List.cons_append] at H))
    | ((with_reducible refine gBx ?_); refine bxA H rfl rfl rfl ?_; clear H; intro b1 w1 H)
    | ((with_reducible refine gBs ?_); (first | (refine bs1 H rfl (by first | exact S48) rfl (Nat.le_of_ble_eq_true rfl) (Nat.le_of_ble_eq_true rfl) rfl ?_) | (refine wl_buildSlice0 rfl (by first | exact S48) H ?_)); clear H; intro b1 w1 H)
    | ((with_reducible refine gEq ?_); (first | (refine wl_cmp rfl rfl rfl rfl ?_) | (refine wl_scmp rfl rfl rfl rfl ?_)); intro rb hrb; cases rb <;> (first | (exfalso; simp at hrb; done) | ((try simp only [decide_eq_true_eq, decide_eq_false_iff_not, beq_iff_eq, beq_eq_false_iff_ne, ne_eq, bne_iff_ne, bne_eq_false_iff_eq, Bool.not_eq_true', Bool.not_eq_false', gt_iff_lt, ge_iff_le, Int.not_lt, Int.not_le, Decidable.not_not] at hrb); (try subst hrb); (try (exfalso; omega)))))
    | ((with_reducible refine gRg ?_); refine wp_region_text rfl (by decide +kernel) ?_; replace H := H.drew)
    | ((with_reducible refine EndQ.intro ?_ ?_); (· kernel_rfl)))
    go_loopg [3, 5] 10 (fun g v3 v5 wr => ∃ (j n c : Nat) (a : Option Nat) (acc : List Sta), v3 = .slice (adr a 0) n c ∧ v5 = .int .i64 (j : Int) ∧ j + g = 10 ∧ n ≤ j ∧ Hid (accR s j = acc) ∧ Hid (acc.length = n) ∧ Hp w0 D (⟨a, stas acc, 29, c * 9⟩ :: ⟨some b5, tblC, 55, 50⟩ :: ⟨some b1, s.cells, 29, 9⟩ :: R) wr)
    case atStart => exact ⟨0, 0, 0, none, [], rfl, rfl, by omega, by omega, Lib.hid rfl, Lib.hid rfl, H.consNone 29⟩
    case round =>
      clear H
      obtain ⟨j, n, c, a, acc, rfl, rfl, hjg, hnj, HAC, HAL, H⟩ := hrel
      by_cases hj : j < 10
      · obtain ⟨⟨ph, tk, kd, to, sd⟩, hr, hp0, hp1, hp2⟩ := tbl_at hj
        dsimp only at hp0 hp1 hp2
        obtain ⟨t, ht⟩ : ∃ t, (stepR s (evR s ⟨ph, tk, kd, to, sd⟩)).1 = t := ⟨_, rfl⟩
        have hst := accR_step hr ht
        rw [HAC.out] at hst
        dsimp only at hst
        have HP0 := Lib.hid hp0
        have HP1 := Lib.hid hp1
        have HP2 := Lib.hid hp2
        have HG := Lib.hid hjg
        have hgp : 0 < gk := by omega
        clear hr hp0 hp1 hp2 hjg
        cases tk with
        | true =>
          have HT := Lib.hid (show (stepR s ⟨3, s.c, ⟨#[]⟩, .zero⟩).1 = t from ht)
          clear ht
          by_cases hph : ph = s.phase
          · cases hb : t.beq s with
            | true =>
              have HB : Hid ((!(t.beq s)) = false) := Lib.hid (by rw [hb]; rfl)
              have HAC2 := Lib.hid (show accR s (j + 1) = acc by rw [hst, hb]; simp)
              clear hst hb
              go_wp2_with (first
                  | ((with_reducible refine gLd ?_); first | (refine wl_loadR (k := j * 5) ((Rd.ent H (i := 2) rfl).cells [] _ H) rfl rfl (by first | rfl | omega) T3 HP0.out ?_) | (refine wl_loadR (k := j * 5 + 1) ((Rd.ent H (i := 2) rfl).cells [] _ H) rfl rfl (by first | rfl | omega) T4 HP1.out ?_) | (refine wl_loadR (k := j * 5 + 2) ((Rd.ent H (i := 2) rfl).cells [] _ H) rfl rfl (by first | rfl | omega) T3 HP2.out ?_) | (refine wl_loadR (k := j * 5) ((Rd.ent H (i := 3) rfl).cells [] _ H) rfl rfl (by first | rfl | omega) T3 HP0.out ?_) | (refine wl_loadR (k := j * 5 + 1) ((Rd.ent H (i := 3) rfl).cells [] _ H) rfl rfl (by first | rfl | omega) T4 HP1.out ?_) | (refine wl_loadR (k := j * 5 + 2) ((Rd.ent H (i := 3) rfl).cells [] _ H) rfl rfl (by first | rfl | omega) T3 HP2.out ?_))
                  | ((with_reducible refine gAl ?_); (refine al H Z35 rfl rfl ?_); clear H; intro b6 w1 H)
                  | ((with_reducible refine gLd ?_); refine eLd H rfl rfl ?_; first | (refine kLdW 0 rfl T29 rfl ?_) | (refine kLdW 3 rfl T29 rfl ?_) | (refine kLdW 4 rfl T29 rfl ?_) | (refine kLdW 0 rfl T35 rfl ?_) | (refine kLd 2 rfl rfl T22 rfl ?_) | (refine kLd 3 rfl rfl T22 rfl ?_) | (refine kLd 3 rfl rfl T9 rfl ?_) | (refine kLd 4 rfl rfl T3 rfl ?_))
                  | (go_at_call 14; ((with_reducible refine (rStepN H HT.out).mono ?_); rintro e w1 ⟨aO, nO, cO, rfl, H1⟩; clear H; have H := H1; clear H1))
                  | ((with_reducible refine gAl ?_); (refine al H Z29 rfl rfl ?_); clear H; intro b7 w1 H)
                  | ((with_reducible refine gSt ?_); refine eSt H rfl rfl ⟨.agg (List.toArray (Ev.cells ⟨3, s.c, ⟨#[]⟩, .zero⟩)), rfl, ?_⟩; refine kStW 0 rfl T35 rfl rfl rfl ?_; clear H; intro w1 H; simp only [List.set_cons_zero] at H)
                  | ((with_reducible refine gSt ?_); refine eSt H rfl rfl ⟨.agg (List.toArray t.cells), rfl, ?_⟩; refine kStW 0 rfl T29 rfl rfl rfl ?_; clear H; intro w1 H; simp only [List.set_cons_zero] at H)
                  | ((with_reducible refine gEq ?_); refine wl_neS rfl rfl rfl HB.out ?_)
                  | ((with_reducible refine gLd ?_); refine eLd H rfl rfl ?_; first | (refine kLd 0 rfl rfl (by first | exact T3 | exact T4 | exact T9 | exact T22 | exact T27 | exact T29 | exact T35) rfl ?_) | (refine kLdA 0 rfl rfl (by first | exact T3 | exact T4 | exact T9 | exact T22 | exact T27 | exact T29 | exact T35) (Nat.le_of_ble_eq_true rfl) (by simp only [List.drop_succ_cons, List.drop_zero, List.take_succ_cons, List.take_zero, List.set_cons_zero, List.set_cons_succ]; rfl) ?_))
                  | ((with_reducible refine gSt ?_); (first | (refine eSt H rfl rfl ⟨.int _ _, rfl, ?_⟩) | (refine eSt H rfl rfl ⟨.bool _, rfl, ?_⟩) | (refine eSt H rfl rfl ⟨.slice _ _ _, rfl, ?_⟩) | (refine eSt H rfl rfl ⟨.pointer _, rfl, ?_⟩) | (refine eSt H rfl rfl ⟨.string _, rfl, ?_⟩) | (refine eSt H rfl rfl ⟨.agg (List.toArray _), rfl, ?_⟩)); (first | (refine kSt 0 rfl rfl (by first | exact T3 | exact T4 | exact T9 | exact T22 | exact T27 | exact T29 | exact T35) rfl (Nat.le_of_ble_eq_true rfl) ?_) | (refine kStA 0 rfl rfl (by first | exact T3 | exact T4 | exact T9 | exact T22 | exact T27 | exact T29 | exact T35) rfl rfl (Nat.le_of_ble_eq_true rfl) ?_)); clear H; intro w1 H; simp only [List.set_cons_zero, List.set_cons_succ] at H; (try simp only [lay, List.take_zero, List.nil_append, List.length_cons, List.length_nil, Nat.zero_add, Nat.reduceAdd, List.drop_succ_cons, List.drop_zero, List.drop_nil, List.append_nil, List.take_succ_cons, List.cons_append] at H))
                  | ((with_reducible refine gBx ?_); refine bxA H rfl rfl rfl ?_; clear H; intro b1 w1 H)
                  | ((with_reducible refine gBs ?_); (first | (refine bs1 H rfl (by first | exact S48) rfl (Nat.le_of_ble_eq_true rfl) (Nat.le_of_ble_eq_true rfl) rfl ?_) | (refine wl_buildSlice0 rfl (by first | exact S48) H ?_)); clear H; intro b1 w1 H)
                  | ((with_reducible refine gEq ?_); (first | (refine wl_cmp rfl rfl rfl rfl ?_) | (refine wl_scmp rfl rfl rfl rfl ?_)); intro rb hrb; cases rb <;> (first | (exfalso; simp at hrb; done) | ((try simp only [decide_eq_true_eq, decide_eq_false_iff_not, beq_iff_eq, beq_eq_false_iff_ne, ne_eq, bne_iff_ne, bne_eq_false_iff_eq, Bool.not_eq_true', Bool.not_eq_false', gt_iff_lt, ge_iff_le, Int.not_lt, Int.not_le, Decidable.not_not] at hrb); (try subst hrb); (try (exfalso; omega)))))
                  | ((with_reducible refine gRg ?_); refine wp_region_text rfl (by decide +kernel) ?_; replace H := H.drew)
                  | ((with_reducible refine EndQ.intro ?_ ?_); (· kernel_rfl)))
              go_roundg (gk - 1)
              case measure => omega
              case rel => exact ⟨j + 1, n, c, a, _, rfl, by go_num, by have := HG.out; omega, by omega, HAC2, HAL, H.drop.drop⟩
            | false =>
              have HB : Hid ((!(t.beq s)) = true) := Lib.hid (by rw [hb]; rfl)
              have HAC2 := Lib.hid (show accR s (j + 1) = acc ++ [t] by rw [hst, hb]; simp [hph])
              clear hst hb
              go_wp2_with (first
                  | ((with_reducible refine gLd ?_); first | (refine wl_loadR (k := j * 5) ((Rd.ent H (i := 2) rfl).cells [] _ H) rfl rfl (by first | rfl | omega) T3 HP0.out ?_) | (refine wl_loadR (k := j * 5 + 1) ((Rd.ent H (i := 2) rfl).cells [] _ H) rfl rfl (by first | rfl | omega) T4 HP1.out ?_) | (refine wl_loadR (k := j * 5 + 2) ((Rd.ent H (i := 2) rfl).cells [] _ H) rfl rfl (by first | rfl | omega) T3 HP2.out ?_) | (refine wl_loadR (k := j * 5) ((Rd.ent H (i := 3) rfl).cells [] _ H) rfl rfl (by first | rfl | omega) T3 HP0.out ?_) | (refine wl_loadR (k := j * 5 + 1) ((Rd.ent H (i := 3) rfl).cells [] _ H) rfl rfl (by first | rfl | omega) T4 HP1.out ?_) | (refine wl_loadR (k := j * 5 + 2) ((Rd.ent H (i := 3) rfl).cells [] _ H) rfl rfl (by first | rfl | omega) T3 HP2.out ?_))
                  | ((with_reducible refine gAl ?_); (refine al H Z35 rfl rfl ?_); clear H; intro b6 w1 H)
                  | ((with_reducible refine gLd ?_); refine eLd H rfl rfl ?_; first | (refine kLdW 0 rfl T29 rfl ?_) | (refine kLdW 3 rfl T29 rfl ?_) | (refine kLdW 4 rfl T29 rfl ?_) | (refine kLdW 0 rfl T35 rfl ?_) | (refine kLd 2 rfl rfl T22 rfl ?_) | (refine kLd 3 rfl rfl T22 rfl ?_) | (refine kLd 3 rfl rfl T9 rfl ?_) | (refine kLd 4 rfl rfl T3 rfl ?_))
                  | (go_at_call 14; ((with_reducible refine (rStepN H HT.out).mono ?_); rintro e w1 ⟨aO, nO, cO, rfl, H1⟩; clear H; have H := H1; clear H1))
                  | ((with_reducible refine gAl ?_); (refine al H Z29 rfl rfl ?_); clear H; intro b7 w1 H)
                  | ((with_reducible refine gSt ?_); refine eSt H rfl rfl ⟨.agg (List.toArray (Ev.cells ⟨3, s.c, ⟨#[]⟩, .zero⟩)), rfl, ?_⟩; refine kStW 0 rfl T35 rfl rfl rfl ?_; clear H; intro w1 H; simp only [List.set_cons_zero] at H)
                  | ((with_reducible refine gSt ?_); refine eSt H rfl rfl ⟨.agg (List.toArray t.cells), rfl, ?_⟩; refine kStW 0 rfl T29 rfl rfl rfl ?_; clear H; intro w1 H; simp only [List.set_cons_zero] at H)
                  | ((with_reducible refine gEq ?_); refine wl_neS rfl rfl rfl HB.out ?_)
                  | ((with_reducible refine gBs ?_); refine bs1 (vs := t.cells) H rfl S48 rfl (by decide) (by decide) rfl ?_; clear H; intro bq1 w1 H)
                  | ((with_reducible refine gAp ?_); refine wl_append 3 0 rfl H rfl rfl rfl rfl S48 (by decide) (Or.inl rfl) (by dsimp only; rw [stas_len, HAL.out]) rfl (fun h => by cases h) (Nat.le_of_ble_eq_true rfl) rfl (by unfold maxLen; omega) (by omega) ?_; clear H; intro ae' ce' w1 H h0; clear h0; simp only [List.set_cons_zero, List.set_cons_succ, List.drop_zero, Nat.one_mul, take9] at H; rw [stas_snoc] at H)
                  | ((with_reducible refine gLd ?_); refine eLd H rfl rfl ?_; first | (refine kLd 0 rfl rfl (by first | exact T3 | exact T4 | exact T9 | exact T22 | exact T27 | exact T29 | exact T35) rfl ?_) | (refine kLdA 0 rfl rfl (by first | exact T3 | exact T4 | exact T9 | exact T22 | exact T27 | exact T29 | exact T35) (Nat.le_of_ble_eq_true rfl) (by simp only [List.drop_succ_cons, List.drop_zero, List.take_succ_cons, List.take_zero, List.set_cons_zero, List.set_cons_succ]; rfl) ?_))
                  | ((with_reducible refine gSt ?_); (first | (refine eSt H rfl rfl ⟨.int _ _, rfl, ?_⟩) | (refine eSt H rfl rfl ⟨.bool _, rfl, ?_⟩) | (refine eSt H rfl rfl ⟨.slice _ _ _, rfl, ?_⟩) | (refine eSt H rfl rfl ⟨.pointer _, rfl, ?_⟩) | (refine eSt H rfl rfl ⟨.string _, rfl, ?_⟩) | (refine eSt H rfl rfl ⟨.agg (List.toArray _), rfl, ?_⟩)); (first | (refine kSt 0 rfl rfl (by first | exact T3 | exact T4 | exact T9 | exact T22 | exact T27 | exact T29 | exact T35) rfl (Nat.le_of_ble_eq_true rfl) ?_) | (refine kStA 0 rfl rfl (by first | exact T3 | exact T4 | exact T9 | exact T22 | exact T27 | exact T29 | exact T35) rfl rfl (Nat.le_of_ble_eq_true rfl) ?_)); clear H; intro w1 H; simp only [List.set_cons_zero, List.set_cons_succ] at H; (try simp only [lay, List.take_zero, List.nil_append, List.length_cons, List.length_nil, Nat.zero_add, Nat.reduceAdd, List.drop_succ_cons, List.drop_zero, List.drop_nil, List.append_nil, List.take_succ_cons, List.cons_append] at H))
                  | ((with_reducible refine gBx ?_); refine bxA H rfl rfl rfl ?_; clear H; intro b1 w1 H)
                  | ((with_reducible refine gBs ?_); (first | (refine bs1 H rfl (by first | exact S48) rfl (Nat.le_of_ble_eq_true rfl) (Nat.le_of_ble_eq_true rfl) rfl ?_) | (refine wl_buildSlice0 rfl (by first | exact S48) H ?_)); clear H; intro b1 w1 H)
                  | ((with_reducible refine gEq ?_); (first | (refine wl_cmp rfl rfl rfl rfl ?_) | (refine wl_scmp rfl rfl rfl rfl ?_)); intro rb hrb; cases rb <;> (first | (exfalso; simp at hrb; done) | ((try simp only [decide_eq_true_eq, decide_eq_false_iff_not, beq_iff_eq, beq_eq_false_iff_ne, ne_eq, bne_iff_ne, bne_eq_false_iff_eq, Bool.not_eq_true', Bool.not_eq_false', gt_iff_lt, ge_iff_le, Int.not_lt, Int.not_le, Decidable.not_not] at hrb); (try subst hrb); (try (exfalso; omega)))))
                  | ((with_reducible refine gRg ?_); refine wp_region_text rfl (by decide +kernel) ?_; replace H := H.drew)
                  | ((with_reducible refine EndQ.intro ?_ ?_); (· kernel_rfl)))
              go_roundg (gk - 1)
              case measure => omega
              case rel => exact ⟨j + 1, n + 1, ce', ae', _, rfl, by go_num, by have := HG.out; omega, by omega, HAC2, Lib.hid (by rw [List.length_append, HAL.out]; rfl), H.drop.drop.drop⟩
          · have HAC2 := Lib.hid (show accR s (j + 1) = acc by rw [hst]; simp [hph])
            clear hst
            go_wp2_with (first
                | ((with_reducible refine gLd ?_); first | (refine wl_loadR (k := j * 5) ((Rd.ent H (i := 2) rfl).cells [] _ H) rfl rfl (by first | rfl | omega) T3 HP0.out ?_) | (refine wl_loadR (k := j * 5 + 1) ((Rd.ent H (i := 2) rfl).cells [] _ H) rfl rfl (by first | rfl | omega) T4 HP1.out ?_) | (refine wl_loadR (k := j * 5 + 2) ((Rd.ent H (i := 2) rfl).cells [] _ H) rfl rfl (by first | rfl | omega) T3 HP2.out ?_) | (refine wl_loadR (k := j * 5) ((Rd.ent H (i := 3) rfl).cells [] _ H) rfl rfl (by first | rfl | omega) T3 HP0.out ?_) | (refine wl_loadR (k := j * 5 + 1) ((Rd.ent H (i := 3) rfl).cells [] _ H) rfl rfl (by first | rfl | omega) T4 HP1.out ?_) | (refine wl_loadR (k := j * 5 + 2) ((Rd.ent H (i := 3) rfl).cells [] _ H) rfl rfl (by first | rfl | omega) T3 HP2.out ?_))
                | ((with_reducible refine gAl ?_); (refine al H Z35 rfl rfl ?_); clear H; intro b6 w1 H)
                | ((with_reducible refine gLd ?_); refine eLd H rfl rfl ?_; first | (refine kLdW 0 rfl T29 rfl ?_) | (refine kLdW 3 rfl T29 rfl ?_) | (refine kLdW 4 rfl T29 rfl ?_) | (refine kLdW 0 rfl T35 rfl ?_) | (refine kLd 2 rfl rfl T22 rfl ?_) | (refine kLd 3 rfl rfl T22 rfl ?_) | (refine kLd 3 rfl rfl T9 rfl ?_) | (refine kLd 4 rfl rfl T3 rfl ?_))
                | (go_at_call 14; ((with_reducible refine (rStepN H HT.out).mono ?_); rintro e w1 ⟨aO, nO, cO, rfl, H1⟩; clear H; have H := H1; clear H1))
                | ((with_reducible refine gAl ?_); (refine al H Z29 rfl rfl ?_); clear H; intro b7 w1 H)
                | ((with_reducible refine gSt ?_); refine eSt H rfl rfl ⟨.agg (List.toArray (Ev.cells ⟨3, s.c, ⟨#[]⟩, .zero⟩)), rfl, ?_⟩; refine kStW 0 rfl T35 rfl rfl rfl ?_; clear H; intro w1 H; simp only [List.set_cons_zero] at H)
                | ((with_reducible refine gSt ?_); refine eSt H rfl rfl ⟨.agg (List.toArray t.cells), rfl, ?_⟩; refine kStW 0 rfl T29 rfl rfl rfl ?_; clear H; intro w1 H; simp only [List.set_cons_zero] at H)
                | ((with_reducible refine gLd ?_); refine eLd H rfl rfl ?_; first | (refine kLd 0 rfl rfl (by first | exact T3 | exact T4 | exact T9 | exact T22 | exact T27 | exact T29 | exact T35) rfl ?_) | (refine kLdA 0 rfl rfl (by first | exact T3 | exact T4 | exact T9 | exact T22 | exact T27 | exact T29 | exact T35) (Nat.le_of_ble_eq_true rfl) (by simp only [List.drop_succ_cons, List.drop_zero, List.take_succ_cons, List.take_zero, List.set_cons_zero, List.set_cons_succ]; rfl) ?_))
                | ((with_reducible refine gSt ?_); (first | (refine eSt H rfl rfl ⟨.int _ _, rfl, ?_⟩) | (refine eSt H rfl rfl ⟨.bool _, rfl, ?_⟩) | (refine eSt H rfl rfl ⟨.slice _ _ _, rfl, ?_⟩) | (refine eSt H rfl rfl ⟨.pointer _, rfl, ?_⟩) | (refine eSt H rfl rfl ⟨.string _, rfl, ?_⟩) | (refine eSt H rfl rfl ⟨.agg (List.toArray _), rfl, ?_⟩)); (first | (refine kSt 0 rfl rfl (by first | exact T3 | exact T4 | exact T9 | exact T22 | exact T27 | exact T29 | exact T35) rfl (Nat.le_of_ble_eq_true rfl) ?_) | (refine kStA 0 rfl rfl (by first | exact T3 | exact T4 | exact T9 | exact T22 | exact T27 | exact T29 | exact T35) rfl rfl (Nat.le_of_ble_eq_true rfl) ?_)); clear H; intro w1 H; simp only [List.set_cons_zero, List.set_cons_succ] at H; (try simp only [lay, List.take_zero, List.nil_append, List.length_cons, List.length_nil, Nat.zero_add, Nat.reduceAdd, List.drop_succ_cons, List.drop_zero, List.drop_nil, List.append_nil, List.take_succ_cons, List.cons_append] at H))
                | ((with_reducible refine gBx ?_); refine bxA H rfl rfl rfl ?_; clear H; intro b1 w1 H)
                | ((with_reducible refine gBs ?_); (first | (refine bs1 H rfl (by first | exact S48) rfl (Nat.le_of_ble_eq_true rfl) (Nat.le_of_ble_eq_true rfl) rfl ?_) | (refine wl_buildSlice0 rfl (by first | exact S48) H ?_)); clear H; intro b1 w1 H)
                | ((with_reducible refine gEq ?_); (first | (refine wl_cmp rfl rfl rfl rfl ?_) | (refine wl_scmp rfl rfl rfl rfl ?_)); intro rb hrb; cases rb <;> (first | (exfalso; simp at hrb; done) | ((try simp only [decide_eq_true_eq, decide_eq_false_iff_not, beq_iff_eq, beq_eq_false_iff_ne, ne_eq, bne_iff_ne, bne_eq_false_iff_eq, Bool.not_eq_true', Bool.not_eq_false', gt_iff_lt, ge_iff_le, Int.not_lt, Int.not_le, Decidable.not_not] at hrb); (try subst hrb); (try (exfalso; omega)))))
                | ((with_reducible refine gRg ?_); refine wp_region_text rfl (by decide +kernel) ?_; replace H := H.drew)
                | ((with_reducible refine EndQ.intro ?_ ?_); (· kernel_rfl)))
            go_roundg (gk - 1)
            case measure => omega
            case rel => exact ⟨j + 1, n, c, a, _, rfl, by go_num, by have := HG.out; omega, by omega, HAC2, HAL, H.drop.drop⟩
        | false =>
          by_cases hk : kd = 5
          · subst hk
            have HT := Lib.hid (show (stepR s ⟨2, 0, ⟨#[]⟩, ⟨5, 0, s.c, ⟨#[]⟩, false⟩⟩).1 = t by rw [← ht]; unfold evR want; rw [if_neg (by simp)]; dsimp only; rw [if_pos rfl])
            clear ht
            by_cases hph : ph = s.phase
            · cases hb : t.beq s with
              | true =>
                have HB : Hid ((!(t.beq s)) = false) := Lib.hid (by rw [hb]; rfl)
                have HAC2 := Lib.hid (show accR s (j + 1) = acc by rw [hst, hb]; simp)
                clear hst hb
                go_wp2_with (first
                    | ((with_reducible refine gLd ?_); first | (refine wl_loadR (k := j * 5) ((Rd.ent H (i := 2) rfl).cells [] _ H) rfl rfl (by first | rfl | omega) T3 HP0.out ?_) | (refine wl_loadR (k := j * 5 + 1) ((Rd.ent H (i := 2) rfl).cells [] _ H) rfl rfl (by first | rfl | omega) T4 HP1.out ?_) | (refine wl_loadR (k := j * 5 + 2) ((Rd.ent H (i := 2) rfl).cells [] _ H) rfl rfl (by first | rfl | omega) T3 HP2.out ?_) | (refine wl_loadR (k := j * 5) ((Rd.ent H (i := 3) rfl).cells [] _ H) rfl rfl (by first | rfl | omega) T3 HP0.out ?_) | (refine wl_loadR (k := j * 5 + 1) ((Rd.ent H (i := 3) rfl).cells [] _ H) rfl rfl (by first | rfl | omega) T4 HP1.out ?_) | (refine wl_loadR (k := j * 5 + 2) ((Rd.ent H (i := 3) rfl).cells [] _ H) rfl rfl (by first | rfl | omega) T3 HP2.out ?_))
                    | ((with_reducible refine gAl ?_); (refine al H Z35 rfl rfl ?_); clear H; intro b6 w1 H)
                    | ((with_reducible refine gLd ?_); refine eLd H rfl rfl ?_; first | (refine kLdW 0 rfl T29 rfl ?_) | (refine kLdW 3 rfl T29 rfl ?_) | (refine kLdW 4 rfl T29 rfl ?_) | (refine kLdW 0 rfl T35 rfl ?_) | (refine kLd 2 rfl rfl T22 rfl ?_) | (refine kLd 3 rfl rfl T22 rfl ?_) | (refine kLd 3 rfl rfl T9 rfl ?_) | (refine kLd 4 rfl rfl T3 rfl ?_))
                    | (go_at_call 14; ((with_reducible refine (rStepN H HT.out).mono ?_); rintro e w1 ⟨aO, nO, cO, rfl, H1⟩; clear H; have H := H1; clear H1))
                    | ((with_reducible refine gAl ?_); (refine al H Z29 rfl rfl ?_); clear H; intro b7 w1 H)
                    | ((with_reducible refine gSt ?_); refine eSt H rfl rfl ⟨.string _, rfl, ?_⟩; refine kSt 0 rfl rfl T9 rfl (Nat.le_of_ble_eq_true rfl) ?_; clear H; intro w1 H; simp only [List.set_cons_zero] at H; replace H : Hp w0 D (⟨some b6, (Ev.cells ⟨2, 0, ⟨#[]⟩, ⟨5, 0, s.c, ⟨#[]⟩, false⟩⟩), 35, 8⟩ :: _) w1 := H)
                    | ((with_reducible refine gSt ?_); refine eSt H rfl rfl ⟨.agg (List.toArray (Ev.cells ⟨2, 0, ⟨#[]⟩, ⟨5, 0, s.c, s.text, false⟩⟩)), rfl, ?_⟩; refine kStW 0 rfl T35 rfl rfl rfl ?_; clear H; intro w1 H; simp only [List.set_cons_zero] at H)
                    | ((with_reducible refine gSt ?_); refine eSt H rfl rfl ⟨.agg (List.toArray (Ev.cells ⟨3, s.c, ⟨#[]⟩, .zero⟩)), rfl, ?_⟩; refine kStW 0 rfl T35 rfl rfl rfl ?_; clear H; intro w1 H; simp only [List.set_cons_zero] at H)
                    | ((with_reducible refine gSt ?_); refine eSt H rfl rfl ⟨.agg (List.toArray t.cells), rfl, ?_⟩; refine kStW 0 rfl T29 rfl rfl rfl ?_; clear H; intro w1 H; simp only [List.set_cons_zero] at H)
                    | ((with_reducible refine gEq ?_); refine wl_neS rfl rfl rfl HB.out ?_)
                    | ((with_reducible refine gLd ?_); refine eLd H rfl rfl ?_; first | (refine kLd 0 rfl rfl (by first | exact T3 | exact T4 | exact T9 | exact T22 | exact T27 | exact T29 | exact T35) rfl ?_) | (refine kLdA 0 rfl rfl (by first | exact T3 | exact T4 | exact T9 | exact T22 | exact T27 | exact T29 | exact T35) (Nat.le_of_ble_eq_true rfl) (by simp only [List.drop_succ_cons, List.drop_zero, List.take_succ_cons, List.take_zero, List.set_cons_zero, List.set_cons_succ]; rfl) ?_))
                    | ((with_reducible refine gSt ?_); (first | (refine eSt H rfl rfl ⟨.int _ _, rfl, ?_⟩) | (refine eSt H rfl rfl ⟨.bool _, rfl, ?_⟩) | (refine eSt H rfl rfl ⟨.slice _ _ _, rfl, ?_⟩) | (refine eSt H rfl rfl ⟨.pointer _, rfl, ?_⟩) | (refine eSt H rfl rfl ⟨.string _, rfl, ?_⟩) | (refine eSt H rfl rfl ⟨.agg (List.toArray _), rfl, ?_⟩)); (first | (refine kSt 0 rfl rfl (by first | exact T3 | exact T4 | exact T9 | exact T22 | exact T27 | exact T29 | exact T35) rfl (Nat.le_of_ble_eq_true rfl) ?_) | (refine kStA 0 rfl rfl (by first | exact T3 | exact T4 | exact T9 | exact T22 | exact T27 | exact T29 | exact T35) rfl rfl (Nat.le_of_ble_eq_true rfl) ?_)); clear H; intro w1 H; simp only [List.set_cons_zero, List.set_cons_succ] at H; (try simp only [lay, List.take_zero, List.nil_append, List.length_cons, List.length_nil, Nat.zero_add, Nat.reduceAdd, List.drop_succ_cons, List.drop_zero, List.drop_nil, List.append_nil, List.take_succ_cons, List.cons_append] at H))
                    | ((with_reducible refine gBx ?_); refine bxA H rfl rfl rfl ?_; clear H; intro b1 w1 H)
                    | ((with_reducible refine gBs ?_); (first | (refine bs1 H rfl (by first | exact S48) rfl (Nat.le_of_ble_eq_true rfl) (Nat.le_of_ble_eq_true rfl) rfl ?_) | (refine wl_buildSlice0 rfl (by first | exact S48) H ?_)); clear H; intro b1 w1 H)
                    | ((with_reducible refine gEq ?_); (first | (refine wl_cmp rfl rfl rfl rfl ?_) | (refine wl_scmp rfl rfl rfl rfl ?_)); intro rb hrb; cases rb <;> (first | (exfalso; simp at hrb; done) | ((try simp only [decide_eq_true_eq, decide_eq_false_iff_not, beq_iff_eq, beq_eq_false_iff_ne, ne_eq, bne_iff_ne, bne_eq_false_iff_eq, Bool.not_eq_true', Bool.not_eq_false', gt_iff_lt, ge_iff_le, Int.not_lt, Int.not_le, Decidable.not_not] at hrb); (try subst hrb); (try (exfalso; omega)))))
                    | ((with_reducible refine gRg ?_); refine wp_region_text rfl (by decide +kernel) ?_; replace H := H.drew)
                    | ((with_reducible refine EndQ.intro ?_ ?_); (· kernel_rfl)))
                go_roundg (gk - 1)
                case measure => omega
                case rel => exact ⟨j + 1, n, c, a, _, rfl, by go_num, by have := HG.out; omega, by omega, HAC2, HAL, H.drop.drop⟩
              | false =>
                have HB : Hid ((!(t.beq s)) = true) := Lib.hid (by rw [hb]; rfl)
                have HAC2 := Lib.hid (show accR s (j + 1) = acc ++ [t] by rw [hst, hb]; simp [hph])
                clear hst hb
                go_wp2_with (first
                    | ((with_reducible refine gLd ?_); first | (refine wl_loadR (k := j * 5) ((Rd.ent H (i := 2) rfl).cells [] _ H) rfl rfl (by first | rfl | omega) T3 HP0.out ?_) | (refine wl_loadR (k := j * 5 + 1) ((Rd.ent H (i := 2) rfl).cells [] _ H) rfl rfl (by first | rfl | omega) T4 HP1.out ?_) | (refine wl_loadR (k := j * 5 + 2) ((Rd.ent H (i := 2) rfl).cells [] _ H) rfl rfl (by first | rfl | omega) T3 HP2.out ?_) | (refine wl_loadR (k := j * 5) ((Rd.ent H (i := 3) rfl).cells [] _ H) rfl rfl (by first | rfl | omega) T3 HP0.out ?_) | (refine wl_loadR (k := j * 5 + 1) ((Rd.ent H (i := 3) rfl).cells [] _ H) rfl rfl (by first | rfl | omega) T4 HP1.out ?_) | (refine wl_loadR (k := j * 5 + 2) ((Rd.ent H (i := 3) rfl).cells [] _ H) rfl rfl (by first | rfl | omega) T3 HP2.out ?_))
                    | ((with_reducible refine gAl ?_); (refine al H Z35 rfl rfl ?_); clear H; intro b6 w1 H)
                    | ((with_reducible refine gLd ?_); refine eLd H rfl rfl ?_; first | (refine kLdW 0 rfl T29 rfl ?_) | (refine kLdW 3 rfl T29 rfl ?_) | (refine kLdW 4 rfl T29 rfl ?_) | (refine kLdW 0 rfl T35 rfl ?_) | (refine kLd 2 rfl rfl T22 rfl ?_) | (refine kLd 3 rfl rfl T22 rfl ?_) | (refine kLd 3 rfl rfl T9 rfl ?_) | (refine kLd 4 rfl rfl T3 rfl ?_))
                    | (go_at_call 14; ((with_reducible refine (rStepN H HT.out).mono ?_); rintro e w1 ⟨aO, nO, cO, rfl, H1⟩; clear H; have H := H1; clear H1))
                    | ((with_reducible refine gAl ?_); (refine al H Z29 rfl rfl ?_); clear H; intro b7 w1 H)
                    | ((with_reducible refine gSt ?_); refine eSt H rfl rfl ⟨.string _, rfl, ?_⟩; refine kSt 0 rfl rfl T9 rfl (Nat.le_of_ble_eq_true rfl) ?_; clear H; intro w1 H; simp only [List.set_cons_zero] at H; replace H : Hp w0 D (⟨some b6, (Ev.cells ⟨2, 0, ⟨#[]⟩, ⟨5, 0, s.c, ⟨#[]⟩, false⟩⟩), 35, 8⟩ :: _) w1 := H)
                    | ((with_reducible refine gSt ?_); refine eSt H rfl rfl ⟨.agg (List.toArray (Ev.cells ⟨2, 0, ⟨#[]⟩, ⟨5, 0, s.c, s.text, false⟩⟩)), rfl, ?_⟩; refine kStW 0 rfl T35 rfl rfl rfl ?_; clear H; intro w1 H; simp only [List.set_cons_zero] at H)
                    | ((with_reducible refine gSt ?_); refine eSt H rfl rfl ⟨.agg (List.toArray (Ev.cells ⟨3, s.c, ⟨#[]⟩, .zero⟩)), rfl, ?_⟩; refine kStW 0 rfl T35 rfl rfl rfl ?_; clear H; intro w1 H; simp only [List.set_cons_zero] at H)
                    | ((with_reducible refine gSt ?_); refine eSt H rfl rfl ⟨.agg (List.toArray t.cells), rfl, ?_⟩; refine kStW 0 rfl T29 rfl rfl rfl ?_; clear H; intro w1 H; simp only [List.set_cons_zero] at H)
                    | ((with_reducible refine gEq ?_); refine wl_neS rfl rfl rfl HB.out ?_)
                    | ((with_reducible refine gBs ?_); refine bs1 (vs := t.cells) H rfl S48 rfl (by decide) (by decide) rfl ?_; clear H; intro bq1 w1 H)
                    | ((with_reducible refine gAp ?_); refine wl_append 3 0 rfl H rfl rfl rfl rfl S48 (by decide) (Or.inl rfl) (by dsimp only; rw [stas_len, HAL.out]) rfl (fun h => by cases h) (Nat.le_of_ble_eq_true rfl) rfl (by unfold maxLen; omega) (by omega) ?_; clear H; intro ae' ce' w1 H h0; clear h0; simp only [List.set_cons_zero, List.set_cons_succ, List.drop_zero, Nat.one_mul, take9] at H; rw [stas_snoc] at H)
                    | ((with_reducible refine gLd ?_); refine eLd H rfl rfl ?_; first | (refine kLd 0 rfl rfl (by first | exact T3 | exact T4 | exact T9 | exact T22 | exact T27 | exact T29 | exact T35) rfl ?_) | (refine kLdA 0 rfl rfl (by first | exact T3 | exact T4 | exact T9 | exact T22 | exact T27 | exact T29 | exact T35) (Nat.le_of_ble_eq_true rfl) (by simp only [List.drop_succ_cons, List.drop_zero, List.take_succ_cons, List.take_zero, List.set_cons_zero, List.set_cons_succ]; rfl) ?_))
                    | ((with_reducible refine gSt ?_); (first | (refine eSt H rfl rfl ⟨.int _ _, rfl, ?_⟩) | (refine eSt H rfl rfl ⟨.bool _, rfl, ?_⟩) | (refine eSt H rfl rfl ⟨.slice _ _ _, rfl, ?_⟩) | (refine eSt H rfl rfl ⟨.pointer _, rfl, ?_⟩) | (refine eSt H rfl rfl ⟨.string _, rfl, ?_⟩) | (refine eSt H rfl rfl ⟨.agg (List.toArray _), rfl, ?_⟩)); (first | (refine kSt 0 rfl rfl (by first | exact T3 | exact T4 | exact T9 | exact T22 | exact T27 | exact T29 | exact T35) rfl (Nat.le_of_ble_eq_true rfl) ?_) | (refine kStA 0 rfl rfl (by first | exact T3 | exact T4 | exact T9 | exact T22 | exact T27 | exact T29 | exact T35) rfl rfl (Nat.le_of_ble_eq_true rfl) ?_)); clear H; intro w1 H; simp only [List.set_cons_zero, List.set_cons_succ] at H; (try simp only [lay, List.take_zero, List.nil_append, List.length_cons, List.length_nil, Nat.zero_add, Nat.reduceAdd, List.drop_succ_cons, List.drop_zero, List.drop_nil, List.append_nil, List.take_succ_cons, List.cons_append] at H))
                    | ((with_reducible refine gBx ?_); refine bxA H rfl rfl rfl ?_; clear H; intro b1 w1 H)
                    | ((with_reducible refine gBs ?_); (first | (refine bs1 H rfl (by first | exact S48) rfl (Nat.le_of_ble_eq_true rfl) (Nat.le_of_ble_eq_true rfl) rfl ?_) | (refine wl_buildSlice0 rfl (by first | exact S48) H ?_)); clear H; intro b1 w1 H)
                    | ((with_reducible refine gEq ?_); (first | (refine wl_cmp rfl rfl rfl rfl ?_) | (refine wl_scmp rfl rfl rfl rfl ?_)); intro rb hrb; cases rb <;> (first | (exfalso; simp at hrb; done) | ((try simp only [decide_eq_true_eq, decide_eq_false_iff_not, beq_iff_eq, beq_eq_false_iff_ne, ne_eq, bne_iff_ne, bne_eq_false_iff_eq, Bool.not_eq_true', Bool.not_eq_false', gt_iff_lt, ge_iff_le, Int.not_lt, Int.not_le, Decidable.not_not] at hrb); (try subst hrb); (try (exfalso; omega)))))
                    | ((with_reducible refine gRg ?_); refine wp_region_text rfl (by decide +kernel) ?_; replace H := H.drew)
                    | ((with_reducible refine EndQ.intro ?_ ?_); (· kernel_rfl)))
                go_roundg (gk - 1)
                case measure => omega
                case rel => exact ⟨j + 1, n + 1, ce', ae', _, rfl, by go_num, by have := HG.out; omega, by omega, HAC2, Lib.hid (by rw [List.length_append, HAL.out]; rfl), H.drop.drop.drop⟩
            · have HAC2 := Lib.hid (show accR s (j + 1) = acc by rw [hst]; simp [hph])
              clear hst
              go_wp2_with (first
                  | ((with_reducible refine gLd ?_); first | (refine wl_loadR (k := j * 5) ((Rd.ent H (i := 2) rfl).cells [] _ H) rfl rfl (by first | rfl | omega) T3 HP0.out ?_) | (refine wl_loadR (k := j * 5 + 1) ((Rd.ent H (i := 2) rfl).cells [] _ H) rfl rfl (by first | rfl | omega) T4 HP1.out ?_) | (refine wl_loadR (k := j * 5 + 2) ((Rd.ent H (i := 2) rfl).cells [] _ H) rfl rfl (by first | rfl | omega) T3 HP2.out ?_) | (refine wl_loadR (k := j * 5) ((Rd.ent H (i := 3) rfl).cells [] _ H) rfl rfl (by first | rfl | omega) T3 HP0.out ?_) | (refine wl_loadR (k := j * 5 + 1) ((Rd.ent H (i := 3) rfl).cells [] _ H) rfl rfl (by first | rfl | omega) T4 HP1.out ?_) | (refine wl_loadR (k := j * 5 + 2) ((Rd.ent H (i := 3) rfl).cells [] _ H) rfl rfl (by first | rfl | omega) T3 HP2.out ?_))
                  | ((with_reducible refine gAl ?_); (refine al H Z35 rfl rfl ?_); clear H; intro b6 w1 H)
                  | ((with_reducible refine gLd ?_); refine eLd H rfl rfl ?_; first | (refine kLdW 0 rfl T29 rfl ?_) | (refine kLdW 3 rfl T29 rfl ?_) | (refine kLdW 4 rfl T29 rfl ?_) | (refine kLdW 0 rfl T35 rfl ?_) | (refine kLd 2 rfl rfl T22 rfl ?_) | (refine kLd 3 rfl rfl T22 rfl ?_) | (refine kLd 3 rfl rfl T9 rfl ?_) | (refine kLd 4 rfl rfl T3 rfl ?_))
                  | (go_at_call 14; ((with_reducible refine (rStepN H HT.out).mono ?_); rintro e w1 ⟨aO, nO, cO, rfl, H1⟩; clear H; have H := H1; clear H1))
                  | ((with_reducible refine gAl ?_); (refine al H Z29 rfl rfl ?_); clear H; intro b7 w1 H)
                  | ((with_reducible refine gSt ?_); refine eSt H rfl rfl ⟨.string _, rfl, ?_⟩; refine kSt 0 rfl rfl T9 rfl (Nat.le_of_ble_eq_true rfl) ?_; clear H; intro w1 H; simp only [List.set_cons_zero] at H; replace H : Hp w0 D (⟨some b6, (Ev.cells ⟨2, 0, ⟨#[]⟩, ⟨5, 0, s.c, ⟨#[]⟩, false⟩⟩), 35, 8⟩ :: _) w1 := H)
                  | ((with_reducible refine gSt ?_); refine eSt H rfl rfl ⟨.agg (List.toArray (Ev.cells ⟨2, 0, ⟨#[]⟩, ⟨5, 0, s.c, s.text, false⟩⟩)), rfl, ?_⟩; refine kStW 0 rfl T35 rfl rfl rfl ?_; clear H; intro w1 H; simp only [List.set_cons_zero] at H)
                  | ((with_reducible refine gSt ?_); refine eSt H rfl rfl ⟨.agg (List.toArray (Ev.cells ⟨3, s.c, ⟨#[]⟩, .zero⟩)), rfl, ?_⟩; refine kStW 0 rfl T35 rfl rfl rfl ?_; clear H; intro w1 H; simp only [List.set_cons_zero] at H)
                  | ((with_reducible refine gSt ?_); refine eSt H rfl rfl ⟨.agg (List.toArray t.cells), rfl, ?_⟩; refine kStW 0 rfl T29 rfl rfl rfl ?_; clear H; intro w1 H; simp only [List.set_cons_zero] at H)
                  | ((with_reducible refine gLd ?_); refine eLd H rfl rfl ?_; first | (refine kLd 0 rfl rfl (by first | exact T3 | exact T4 | exact T9 | exact T22 | exact T27 | exact T29 | exact T35) rfl ?_) | (refine kLdA 0 rfl rfl (by first | exact T3 | exact T4 | exact T9 | exact T22 | exact T27 | exact T29 | exact T35) (Nat.le_of_ble_eq_true rfl) (by simp only [List.drop_succ_cons, List.drop_zero, List.take_succ_cons, List.take_zero, List.set_cons_zero, List.set_cons_succ]; rfl) ?_))
                  | ((with_reducible refine gSt ?_); (first | (refine eSt H rfl rfl ⟨.int _ _, rfl, ?_⟩) | (refine eSt H rfl rfl ⟨.bool _, rfl, ?_⟩) | (refine eSt H rfl rfl ⟨.slice _ _ _, rfl, ?_⟩) | (refine eSt H rfl rfl ⟨.pointer _, rfl, ?_⟩) | (refine eSt H rfl rfl ⟨.string _, rfl, ?_⟩) | (refine eSt H rfl rfl ⟨.agg (List.toArray _), rfl, ?_⟩)); (first | (refine kSt 0 rfl rfl (by first | exact T3 | exact T4 | exact T9 | exact T22 | exact T27 | exact T29 | exact T35) rfl (Nat.le_of_ble_eq_true rfl) ?_) | (refine kStA 0 rfl rfl (by first | exact T3 | exact T4 | exact T9 | exact T22 | exact T27 | exact T29 | exact T35) rfl rfl (Nat.le_of_ble_eq_true rfl) ?_)); clear H; intro w1 H; simp only [List.set_cons_zero, List.set_cons_succ] at H; (try simp only [lay, List.take_zero, List.nil_append, List.length_cons, List.length_nil, Nat.zero_add, Nat.reduceAdd, List.drop_succ_cons, List.drop_zero, List.drop_nil, List.append_nil, List.take_succ_cons, List.cons_append] at H))
                  | ((with_reducible refine gBx ?_); refine bxA H rfl rfl rfl ?_; clear H; intro b1 w1 H)
                  | ((with_reducible refine gBs ?_); (first | (refine bs1 H rfl (by first | exact S48) rfl (Nat.le_of_ble_eq_true rfl) (Nat.le_of_ble_eq_true rfl) rfl ?_) | (refine wl_buildSlice0 rfl (by first | exact S48) H ?_)); clear H; intro b1 w1 H)
                  | ((with_reducible refine gEq ?_); (first | (refine wl_cmp rfl rfl rfl rfl ?_) | (refine wl_scmp rfl rfl rfl rfl ?_)); intro rb hrb; cases rb <;> (first | (exfalso; simp at hrb; done) | ((try simp only [decide_eq_true_eq, decide_eq_false_iff_not, beq_iff_eq, beq_eq_false_iff_ne, ne_eq, bne_iff_ne, bne_eq_false_iff_eq, Bool.not_eq_true', Bool.not_eq_false', gt_iff_lt, ge_iff_le, Int.not_lt, Int.not_le, Decidable.not_not] at hrb); (try subst hrb); (try (exfalso; omega)))))
                  | ((with_reducible refine gRg ?_); refine wp_region_text rfl (by decide +kernel) ?_; replace H := H.drew)
                  | ((with_reducible refine EndQ.intro ?_ ?_); (· kernel_rfl)))
              go_roundg (gk - 1)
              case measure => omega
              case rel => exact ⟨j + 1, n, c, a, _, rfl, by go_num, by have := HG.out; omega, by omega, HAC2, HAL, H.drop.drop⟩
          · have HT := Lib.hid (show (stepR s ⟨2, 0, ⟨#[]⟩, ⟨kd, 0, s.c, s.text, false⟩⟩).1 = t by rw [← ht]; unfold evR want; rw [if_neg (by simp)]; dsimp only; rw [if_neg hk])
            clear ht
            by_cases hph : ph = s.phase
            · cases hb : t.beq s with
              | true =>
                have HB : Hid ((!(t.beq s)) = false) := Lib.hid (by rw [hb]; rfl)
                have HAC2 := Lib.hid (show accR s (j + 1) = acc by rw [hst, hb]; simp)
                clear hst hb
                go_wp2_with (first
                    | ((with_reducible refine gLd ?_); first | (refine wl_loadR (k := j * 5) ((Rd.ent H (i := 2) rfl).cells [] _ H) rfl rfl (by first | rfl | omega) T3 HP0.out ?_) | (refine wl_loadR (k := j * 5 + 1) ((Rd.ent H (i := 2) rfl).cells [] _ H) rfl rfl (by first | rfl | omega) T4 HP1.out ?_) | (refine wl_loadR (k := j * 5 + 2) ((Rd.ent H (i := 2) rfl).cells [] _ H) rfl rfl (by first | rfl | omega) T3 HP2.out ?_) | (refine wl_loadR (k := j * 5) ((Rd.ent H (i := 3) rfl).cells [] _ H) rfl rfl (by first | rfl | omega) T3 HP0.out ?_) | (refine wl_loadR (k := j * 5 + 1) ((Rd.ent H (i := 3) rfl).cells [] _ H) rfl rfl (by first | rfl | omega) T4 HP1.out ?_) | (refine wl_loadR (k := j * 5 + 2) ((Rd.ent H (i := 3) rfl).cells [] _ H) rfl rfl (by first | rfl | omega) T3 HP2.out ?_))
                    | ((with_reducible refine gAl ?_); (refine al H Z35 rfl rfl ?_); clear H; intro b6 w1 H)
                    | ((with_reducible refine gLd ?_); refine eLd H rfl rfl ?_; first | (refine kLdW 0 rfl T29 rfl ?_) | (refine kLdW 3 rfl T29 rfl ?_) | (refine kLdW 4 rfl T29 rfl ?_) | (refine kLdW 0 rfl T35 rfl ?_) | (refine kLd 2 rfl rfl T22 rfl ?_) | (refine kLd 3 rfl rfl T22 rfl ?_) | (refine kLd 3 rfl rfl T9 rfl ?_) | (refine kLd 4 rfl rfl T3 rfl ?_))
                    | (go_at_call 14; ((with_reducible refine (rStepN H HT.out).mono ?_); rintro e w1 ⟨aO, nO, cO, rfl, H1⟩; clear H; have H := H1; clear H1))
                    | ((with_reducible refine gAl ?_); (refine al H Z29 rfl rfl ?_); clear H; intro b7 w1 H)
                    | ((with_reducible refine gSt ?_); refine eSt H rfl rfl ⟨.agg (List.toArray (Ev.cells ⟨2, 0, ⟨#[]⟩, ⟨kd, 0, s.c, s.text, false⟩⟩)), rfl, ?_⟩; refine kStW 0 rfl T35 rfl rfl rfl ?_; clear H; intro w1 H; simp only [List.set_cons_zero] at H)
                    | ((with_reducible refine gSt ?_); refine eSt H rfl rfl ⟨.agg (List.toArray (Ev.cells ⟨3, s.c, ⟨#[]⟩, .zero⟩)), rfl, ?_⟩; refine kStW 0 rfl T35 rfl rfl rfl ?_; clear H; intro w1 H; simp only [List.set_cons_zero] at H)
                    | ((with_reducible refine gSt ?_); refine eSt H rfl rfl ⟨.agg (List.toArray t.cells), rfl, ?_⟩; refine kStW 0 rfl T29 rfl rfl rfl ?_; clear H; intro w1 H; simp only [List.set_cons_zero] at H)
                    | ((with_reducible refine gEq ?_); refine wl_neS rfl rfl rfl HB.out ?_)
                    | ((with_reducible refine gLd ?_); refine eLd H rfl rfl ?_; first | (refine kLd 0 rfl rfl (by first | exact T3 | exact T4 | exact T9 | exact T22 | exact T27 | exact T29 | exact T35) rfl ?_) | (refine kLdA 0 rfl rfl (by first | exact T3 | exact T4 | exact T9 | exact T22 | exact T27 | exact T29 | exact T35) (Nat.le_of_ble_eq_true rfl) (by simp only [List.drop_succ_cons, List.drop_zero, List.take_succ_cons, List.take_zero, List.set_cons_zero, List.set_cons_succ]; rfl) ?_))
                    | ((with_reducible refine gSt ?_); (first | (refine eSt H rfl rfl ⟨.int _ _, rfl, ?_⟩) | (refine eSt H rfl rfl ⟨.bool _, rfl, ?_⟩) | (refine eSt H rfl rfl ⟨.slice _ _ _, rfl, ?_⟩) | (refine eSt H rfl rfl ⟨.pointer _, rfl, ?_⟩) | (refine eSt H rfl rfl ⟨.string _, rfl, ?_⟩) | (refine eSt H rfl rfl ⟨.agg (List.toArray _), rfl, ?_⟩)); (first | (refine kSt 0 rfl rfl (by first | exact T3 | exact T4 | exact T9 | exact T22 | exact T27 | exact T29 | exact T35) rfl (Nat.le_of_ble_eq_true rfl) ?_) | (refine kStA 0 rfl rfl (by first | exact T3 | exact T4 | exact T9 | exact T22 | exact T27 | exact T29 | exact T35) rfl rfl (Nat.le_of_ble_eq_true rfl) ?_)); clear H; intro w1 H; simp only [List.set_cons_zero, List.set_cons_succ] at H; (try simp only [lay, List.take_zero, List.nil_append, List.length_cons, List.length_nil, Nat.zero_add, Nat.reduceAdd, List.drop_succ_cons, List.drop_zero, List.drop_nil, List.append_nil, List.take_succ_cons, List.cons_append] at H))
                    | ((with_reducible refine gBx ?_); refine bxA H rfl rfl rfl ?_; clear H; intro b1 w1 H)
                    | ((with_reducible refine gBs ?_); (first | (refine bs1 H rfl (by first | exact S48) rfl (Nat.le_of_ble_eq_true rfl) (Nat.le_of_ble_eq_true rfl) rfl ?_) | (refine wl_buildSlice0 rfl (by first | exact S48) H ?_)); clear H; intro b1 w1 H)
                    | ((with_reducible refine gEq ?_); (first | (refine wl_cmp rfl rfl rfl rfl ?_) | (refine wl_scmp rfl rfl rfl rfl ?_)); intro rb hrb; cases rb <;> (first | (exfalso; simp at hrb; done) | ((try simp only [decide_eq_true_eq, decide_eq_false_iff_not, beq_iff_eq, beq_eq_false_iff_ne, ne_eq, bne_iff_ne, bne_eq_false_iff_eq, Bool.not_eq_true', Bool.not_eq_false', gt_iff_lt, ge_iff_le, Int.not_lt, Int.not_le, Decidable.not_not] at hrb); (try subst hrb); (try (exfalso; omega)))))
                    | ((with_reducible refine gRg ?_); refine wp_region_text rfl (by decide +kernel) ?_; replace H := H.drew)
                    | ((with_reducible refine EndQ.intro ?_ ?_); (· kernel_rfl)))
                go_roundg (gk - 1)
                case measure => omega
                case rel => exact ⟨j + 1, n, c, a, _, rfl, by go_num, by have := HG.out; omega, by omega, HAC2, HAL, H.drop.drop⟩
              | false =>
                have HB : Hid ((!(t.beq s)) = true) := Lib.hid (by rw [hb]; rfl)
                have HAC2 := Lib.hid (show accR s (j + 1) = acc ++ [t] by rw [hst, hb]; simp [hph])
                clear hst hb
                go_wp2_with (first
                    | ((with_reducible refine gLd ?_); first | (refine wl_loadR (k := j * 5) ((Rd.ent H (i := 2) rfl).cells [] _ H) rfl rfl (by first | rfl | omega) T3 HP0.out ?_) | (refine wl_loadR (k := j * 5 + 1) ((Rd.ent H (i := 2) rfl).cells [] _ H) rfl rfl (by first | rfl | omega) T4 HP1.out ?_) | (refine wl_loadR (k := j * 5 + 2) ((Rd.ent H (i := 2) rfl).cells [] _ H) rfl rfl (by first | rfl | omega) T3 HP2.out ?_) | (refine wl_loadR (k := j * 5) ((Rd.ent H (i := 3) rfl).cells [] _ H) rfl rfl (by first | rfl | omega) T3 HP0.out ?_) | (refine wl_loadR (k := j * 5 + 1) ((Rd.ent H (i := 3) rfl).cells [] _ H) rfl rfl (by first | rfl | omega) T4 HP1.out ?_) | (refine wl_loadR (k := j * 5 + 2) ((Rd.ent H (i := 3) rfl).cells [] _ H) rfl rfl (by first | rfl | omega) T3 HP2.out ?_))
                    | ((with_reducible refine gAl ?_); (refine al H Z35 rfl rfl ?_); clear H; intro b6 w1 H)
                    | ((with_reducible refine gLd ?_); refine eLd H rfl rfl ?_; first | (refine kLdW 0 rfl T29 rfl ?_) | (refine kLdW 3 rfl T29 rfl ?_) | (refine kLdW 4 rfl T29 rfl ?_) | (refine kLdW 0 rfl T35 rfl ?_) | (refine kLd 2 rfl rfl T22 rfl ?_) | (refine kLd 3 rfl rfl T22 rfl ?_) | (refine kLd 3 rfl rfl T9 rfl ?_) | (refine kLd 4 rfl rfl T3 rfl ?_))
                    | (go_at_call 14; ((with_reducible refine (rStepN H HT.out).mono ?_); rintro e w1 ⟨aO, nO, cO, rfl, H1⟩; clear H; have H := H1; clear H1))
                    | ((with_reducible refine gAl ?_); (refine al H Z29 rfl rfl ?_); clear H; intro b7 w1 H)
                    | ((with_reducible refine gSt ?_); refine eSt H rfl rfl ⟨.agg (List.toArray (Ev.cells ⟨2, 0, ⟨#[]⟩, ⟨kd, 0, s.c, s.text, false⟩⟩)), rfl, ?_⟩; refine kStW 0 rfl T35 rfl rfl rfl ?_; clear H; intro w1 H; simp only [List.set_cons_zero] at H)
                    | ((with_reducible refine gSt ?_); refine eSt H rfl rfl ⟨.agg (List.toArray (Ev.cells ⟨3, s.c, ⟨#[]⟩, .zero⟩)), rfl, ?_⟩; refine kStW 0 rfl T35 rfl rfl rfl ?_; clear H; intro w1 H; simp only [List.set_cons_zero] at H)
                    | ((with_reducible refine gSt ?_); refine eSt H rfl rfl ⟨.agg (List.toArray t.cells), rfl, ?_⟩; refine kStW 0 rfl T29 rfl rfl rfl ?_; clear H; intro w1 H; simp only [List.set_cons_zero] at H)
                    | ((with_reducible refine gEq ?_); refine wl_neS rfl rfl rfl HB.out ?_)
                    | ((with_reducible refine gBs ?_); refine bs1 (vs := t.cells) H rfl S48 rfl (by decide) (by decide) rfl ?_; clear H; intro bq1 w1 H)
                    | ((with_reducible refine gAp ?_); refine wl_append 3 0 rfl H rfl rfl rfl rfl S48 (by decide) (Or.inl rfl) (by dsimp only; rw [stas_len, HAL.out]) rfl (fun h => by cases h) (Nat.le_of_ble_eq_true rfl) rfl (by unfold maxLen; omega) (by omega) ?_; clear H; intro ae' ce' w1 H h0; clear h0; simp only [List.set_cons_zero, List.set_cons_succ, List.drop_zero, Nat.one_mul, take9] at H; rw [stas_snoc] at H)
                    | ((with_reducible refine gLd ?_); refine eLd H rfl rfl ?_; first | (refine kLd 0 rfl rfl (by first | exact T3 | exact T4 | exact T9 | exact T22 | exact T27 | exact T29 | exact T35) rfl ?_) | (refine kLdA 0 rfl rfl (by first | exact T3 | exact T4 | exact T9 | exact T22 | exact T27 | exact T29 | exact T35) (Nat.le_of_ble_eq_true rfl) (by simp only [List.drop_succ_cons, List.drop_zero, List.take_succ_cons, List.take_zero, List.set_cons_zero, List.set_cons_succ]; rfl) ?_))
                    | ((with_reducible refine gSt ?_); (first | (refine eSt H rfl rfl ⟨.int _ _, rfl, ?_⟩) | (refine eSt H rfl rfl ⟨.bool _, rfl, ?_⟩) | (refine eSt H rfl rfl ⟨.slice _ _ _, rfl, ?_⟩) | (refine eSt H rfl rfl ⟨.pointer _, rfl, ?_⟩) | (refine eSt H rfl rfl ⟨.string _, rfl, ?_⟩) | (refine eSt H rfl rfl ⟨.agg (List.toArray _), rfl, ?_⟩)); (first | (refine kSt 0 rfl rfl (by first | exact T3 | exact T4 | exact T9 | exact T22 | exact T27 | exact T29 | exact T35) rfl (Nat.le_of_ble_eq_true rfl) ?_) | (refine kStA 0 rfl rfl (by first | exact T3 | exact T4 | exact T9 | exact T22 | exact T27 | exact T29 | exact T35) rfl rfl (Nat.le_of_ble_eq_true rfl) ?_)); clear H; intro w1 H; simp only [List.set_cons_zero, List.set_cons_succ] at H; (try simp only [lay, List.take_zero, List.nil_append, List.length_cons, List.length_nil, Nat.zero_add, Nat.reduceAdd, List.drop_succ_cons, List.drop_zero, List.drop_nil, List.append_nil, List.take_succ_cons, List.cons_append] at H))
                    | ((with_reducible refine gBx ?_); refine bxA H rfl rfl rfl ?_; clear H; intro b1 w1 H)
                    | ((with_reducible refine gBs ?_); (first | (refine bs1 H rfl (by first | exact S48) rfl (Nat.le_of_ble_eq_true rfl) (Nat.le_of_ble_eq_true rfl) rfl ?_) | (refine wl_buildSlice0 rfl (by first | exact S48) H ?_)); clear H; intro b1 w1 H)
                    | ((with_reducible refine gEq ?_); (first | (refine wl_cmp rfl rfl rfl rfl ?_) | (refine wl_scmp rfl rfl rfl rfl ?_)); intro rb hrb; cases rb <;> (first | (exfalso; simp at hrb; done) | ((try simp only [decide_eq_true_eq, decide_eq_false_iff_not, beq_iff_eq, beq_eq_false_iff_ne, ne_eq, bne_iff_ne, bne_eq_false_iff_eq, Bool.not_eq_true', Bool.not_eq_false', gt_iff_lt, ge_iff_le, Int.not_lt, Int.not_le, Decidable.not_not] at hrb); (try subst hrb); (try (exfalso; omega)))))
                    | ((with_reducible refine gRg ?_); refine wp_region_text rfl (by decide +kernel) ?_; replace H := H.drew)
                    | ((with_reducible refine EndQ.intro ?_ ?_); (· kernel_rfl)))
                go_roundg (gk - 1)
                case measure => omega
                case rel => exact ⟨j + 1, n + 1, ce', ae', _, rfl, by go_num, by have := HG.out; omega, by omega, HAC2, Lib.hid (by rw [List.length_append, HAL.out]; rfl), H.drop.drop.drop⟩
            · have HAC2 := Lib.hid (show accR s (j + 1) = acc by rw [hst]; simp [hph])
              clear hst
              go_wp2_with (first
                  | ((with_reducible refine gLd ?_); first | (refine wl_loadR (k := j * 5) ((Rd.ent H (i := 2) rfl).cells [] _ H) rfl rfl (by first | rfl | omega) T3 HP0.out ?_) | (refine wl_loadR (k := j * 5 + 1) ((Rd.ent H (i := 2) rfl).cells [] _ H) rfl rfl (by first | rfl | omega) T4 HP1.out ?_) | (refine wl_loadR (k := j * 5 + 2) ((Rd.ent H (i := 2) rfl).cells [] _ H) rfl rfl (by first | rfl | omega) T3 HP2.out ?_) | (refine wl_loadR (k := j * 5) ((Rd.ent H (i := 3) rfl).cells [] _ H) rfl rfl (by first | rfl | omega) T3 HP0.out ?_) | (refine wl_loadR (k := j * 5 + 1) ((Rd.ent H (i := 3) rfl).cells [] _ H) rfl rfl (by first | rfl | omega) T4 HP1.out ?_) | (refine wl_loadR (k := j * 5 + 2) ((Rd.ent H (i := 3) rfl).cells [] _ H) rfl rfl (by first | rfl | omega) T3 HP2.out ?_))
                  | ((with_reducible refine gAl ?_); (refine al H Z35 rfl rfl ?_); clear H; intro b6 w1 H)
                  | ((with_reducible refine gLd ?_); refine eLd H rfl rfl ?_; first | (refine kLdW 0 rfl T29 rfl ?_) | (refine kLdW 3 rfl T29 rfl ?_) | (refine kLdW 4 rfl T29 rfl ?_) | (refine kLdW 0 rfl T35 rfl ?_) | (refine kLd 2 rfl rfl T22 rfl ?_) | (refine kLd 3 rfl rfl T22 rfl ?_) | (refine kLd 3 rfl rfl T9 rfl ?_) | (refine kLd 4 rfl rfl T3 rfl ?_))
                  | (go_at_call 14; ((with_reducible refine (rStepN H HT.out).mono ?_); rintro e w1 ⟨aO, nO, cO, rfl, H1⟩; clear H; have H := H1; clear H1))
                  | ((with_reducible refine gAl ?_); (refine al H Z29 rfl rfl ?_); clear H; intro b7 w1 H)
                  | ((with_reducible refine gSt ?_); refine eSt H rfl rfl ⟨.agg (List.toArray (Ev.cells ⟨2, 0, ⟨#[]⟩, ⟨kd, 0, s.c, s.text, false⟩⟩)), rfl, ?_⟩; refine kStW 0 rfl T35 rfl rfl rfl ?_; clear H; intro w1 H; simp only [List.set_cons_zero] at H)
                  | ((with_reducible refine gSt ?_); refine eSt H rfl rfl ⟨.agg (List.toArray (Ev.cells ⟨3, s.c, ⟨#[]⟩, .zero⟩)), rfl, ?_⟩; refine kStW 0 rfl T35 rfl rfl rfl ?_; clear H; intro w1 H; simp only [List.set_cons_zero] at H)
                  | ((with_reducible refine gSt ?_); refine eSt H rfl rfl ⟨.agg (List.toArray t.cells), rfl, ?_⟩; refine kStW 0 rfl T29 rfl rfl rfl ?_; clear H; intro w1 H; simp only [List.set_cons_zero] at H)
                  | ((with_reducible refine gLd ?_); refine eLd H rfl rfl ?_; first | (refine kLd 0 rfl rfl (by first | exact T3 | exact T4 | exact T9 | exact T22 | exact T27 | exact T29 | exact T35) rfl ?_) | (refine kLdA 0 rfl rfl (by first | exact T3 | exact T4 | exact T9 | exact T22 | exact T27 | exact T29 | exact T35) (Nat.le_of_ble_eq_true rfl) (by simp only [List.drop_succ_cons, List.drop_zero, List.take_succ_cons, List.take_zero, List.set_cons_zero, List.set_cons_succ]; rfl) ?_))
                  | ((with_reducible refine gSt ?_); (first | (refine eSt H rfl rfl ⟨.int _ _, rfl, ?_⟩) | (refine eSt H rfl rfl ⟨.bool _, rfl, ?_⟩) | (refine eSt H rfl rfl ⟨.slice _ _ _, rfl, ?_⟩) | (refine eSt H rfl rfl ⟨.pointer _, rfl, ?_⟩) | (refine eSt H rfl rfl ⟨.string _, rfl, ?_⟩) | (refine eSt H rfl rfl ⟨.agg (List.toArray _), rfl, ?_⟩)); (first | (refine kSt 0 rfl rfl (by first | exact T3 | exact T4 | exact T9 | exact T22 | exact T27 | exact T29 | exact T35) rfl (Nat.le_of_ble_eq_true rfl) ?_) | (refine kStA 0 rfl rfl (by first | exact T3 | exact T4 | exact T9 | exact T22 | exact T27 | exact T29 | exact T35) rfl rfl (Nat.le_of_ble_eq_true rfl) ?_)); clear H; intro w1 H; simp only [List.set_cons_zero, List.set_cons_succ] at H; (try simp only [lay, List.take_zero, List.nil_append, List.length_cons, List.length_nil, Nat.zero_add, Nat.reduceAdd, List.drop_succ_cons, List.drop_zero, List.drop_nil, List.append_nil, List.take_succ_cons, List.cons_append] at H))
                  | ((with_reducible refine gBx ?_); refine bxA H rfl rfl rfl ?_; clear H; intro b1 w1 H)
                  | ((with_reducible refine gBs ?_); (first | (refine bs1 H rfl (by first | exact S48) rfl (Nat.le_of_ble_eq_true rfl) (Nat.le_of_ble_eq_true rfl) rfl ?_) | (refine wl_buildSlice0 rfl (by first | exact S48) H ?_)); clear H; intro b1 w1 H)
                  | ((with_reducible refine gEq ?_); (first | (refine wl_cmp rfl rfl rfl rfl ?_) | (refine wl_scmp rfl rfl rfl rfl ?_)); intro rb hrb; cases rb <;> (first | (exfalso; simp at hrb; done) | ((try simp only [decide_eq_true_eq, decide_eq_false_iff_not, beq_iff_eq, beq_eq_false_iff_ne, ne_eq, bne_iff_ne, bne_eq_false_iff_eq, Bool.not_eq_true', Bool.not_eq_false', gt_iff_lt, ge_iff_le, Int.not_lt, Int.not_le, Decidable.not_not] at hrb); (try subst hrb); (try (exfalso; omega)))))
                  | ((with_reducible refine gRg ?_); refine wp_region_text rfl (by decide +kernel) ?_; replace H := H.drew)
                  | ((with_reducible refine EndQ.intro ?_ ?_); (· kernel_rfl)))
              go_roundg (gk - 1)
              case measure => omega
              case rel => exact ⟨j + 1, n, c, a, _, rfl, by go_num, by have := HG.out; omega, by omega, HAC2, HAL, H.drop.drop⟩
      · have ej : j = 10 := by omega
        subst ej
        have e : acc = l := by rw [← HAC.out, HL.out]
        subst e
        have e2 := HAL.out
        subst e2
        clear hjg
        go_wp2_with (first
    | ((with_reducible refine gLd ?_); refine eLd H rfl rfl ?_; first | (refine kLd 0 rfl rfl (by first | exact T3 | exact T4 | exact T9 | exact T22 | exact T27 | exact T29 | exact T35) rfl ?_) | (refine kLdA 0 rfl rfl (by first | exact T3 | exact T4 | exact T9 | exact T22 | exact T27 | exact T29 | exact T35) (Nat.le_of_ble_eq_true rfl) (by simp only [List.drop_succ_cons, List.drop_zero, List.take_succ_cons, List.take_zero, List.set_cons_zero, List.set_cons_succ]; rfl) ?_))
    | ((with_reducible refine gSt ?_); (first | (refine eSt H rfl rfl ⟨.int _ _, rfl, ?_⟩) | (refine eSt H rfl rfl ⟨.bool _, rfl, ?_⟩) | (refine eSt H rfl rfl ⟨.slice _ _ _, rfl, ?_⟩) | (refine eSt H rfl rfl ⟨.pointer _, rfl, ?_⟩) | (refine eSt H rfl rfl ⟨.string _, rfl, ?_⟩) | (refine eSt H rfl rfl ⟨.agg (List.toArray _), rfl, ?_⟩)); (first | (refine kSt 0 rfl rfl (by first | exact T3 | exact T4 | exact T9 | exact T22 | exact T27 | exact T29 | exact T35) rfl (Nat.le_of_ble_eq_true rfl) ?_) | (refine kStA 0 rfl rfl (by first | exact T3 | exact T4 | exact T9 | exact T22 | exact T27 | exact T29 | exact T35) rfl rfl (Nat.le_of_ble_eq_true rfl) ?_)); clear H; intro w1 H; simp only [List.set_cons_zero, List.set_cons_succ] at H; (try simp only [lay, List.take_zero, List.nil_append, List.length_cons, List.length_nil, Nat.zero_add, Nat.reduceAdd, List.drop_succ_cons, List.drop_zero, List.drop_nil, List.append_nil, List.take_succ_cons, List.cons_append] at H))
    | ((with_reducible refine gBx ?_); refine bxA H rfl rfl rfl ?_; clear H; intro b1 w1 H)
    | ((with_reducible refine gBs ?_); (first | (refine bs1 H rfl (by first | exact S48) rfl (Nat.le_of_ble_eq_true rfl) (Nat.le_of_ble_eq_true rfl) rfl ?_) | (refine wl_buildSlice0 rfl (by first | exact S48) H ?_)); clear H; intro b1 w1 H)
    | ((with_reducible refine gEq ?_); (first | (refine wl_cmp rfl rfl rfl rfl ?_) | (refine wl_scmp rfl rfl rfl rfl ?_)); intro rb hrb; cases rb <;> (first | (exfalso; simp at hrb; done) | ((try simp only [decide_eq_true_eq, decide_eq_false_iff_not, beq_iff_eq, beq_eq_false_iff_ne, ne_eq, bne_iff_ne, bne_eq_false_iff_eq, Bool.not_eq_true', Bool.not_eq_false', gt_iff_lt, ge_iff_le, Int.not_lt, Int.not_le, Decidable.not_not] at hrb); (try subst hrb); (try (exfalso; omega)))))
    | ((with_reducible refine gRg ?_); refine wp_region_text rfl (by decide +kernel) ?_; replace H := H.drew)
    | ((with_reducible refine EndQ.intro ?_ ?_); (· kernel_rfl)))
        go_ret
        exact ⟨a, c, rfl, (H.dropAt 1).dropAt 1⟩
end Go.Proofs.Ytjflokgplehfgaa
