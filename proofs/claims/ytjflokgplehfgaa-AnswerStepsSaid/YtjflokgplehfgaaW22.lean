/- Next: what it tells. -/
import Derived.Test.YtjflokgplehfgaaW21
import Derived.WalkKit
import Derived.Lib.Hide
import Derived.Deep.LoopGhost
import Derived.WalkSpells
set_option linter.unusedVariables false
set_option linter.unusedSimpArgs false
namespace Go.Proofs.Ytjflokgplehfgaa
open Go.RowKit Go.Gx Go.Gx.Ans
set_option maxRecDepth 100000
def evs (s : Sta) : List Ev := [⟨2, 0, ⟨#[]⟩, promise s 0⟩, ⟨2, 0, ⟨#[]⟩, signature s 0⟩, ⟨3, s.c, ⟨#[]⟩, .zero⟩, ⟨2, 0, ⟨#[]⟩, instead s⟩, ⟨2, 0, ⟨#[]⟩, token s⟩]
noncomputable def accN (s : Sta) : Nat → List Sta
  | 0 => []
  | j + 1 => if ((stepS s ((evs s)[j]?.getD ⟨0, 0, ⟨#[]⟩, .zero⟩)).1.beq s || inL (accN s j) (stepS s ((evs s)[j]?.getD ⟨0, 0, ⟨#[]⟩, .zero⟩)).1) = true then accN s j else accN s j ++ [(stepS s ((evs s)[j]?.getD ⟨0, 0, ⟨#[]⟩, .zero⟩)).1]
noncomputable def nextS (s : Sta) : List Sta := if s.phase = 0 then [] else accN s 5
theorem accN_step {s t : Sta} {j : Nat} {v : Ev} (hv : (evs s)[j]? = some v) (ht : (stepS s v).1 = t) : accN s (j + 1) = if (t.beq s || inL (accN s j) t) = true then accN s j else accN s j ++ [t] := by
  subst ht
  conv => lhs; unfold accN
  rw [hv]
  rfl
theorem accN_len (s : Sta) : ∀ j, (accN s j).length ≤ j
  | 0 => Nat.le_refl _
  | j + 1 => by
    have := accN_len s j
    unfold accN
    split
    · omega
    · simp only [List.length_append, List.length_cons, List.length_nil]; omega
theorem take9 (t : Sta) : t.cells.take 9 = t.cells := rfl
def NxP (w0 : World) (D : Nat → Prop) (R : List Ent) (l : List Sta) (e : Ending) (w' : World) : Prop := ∃ a c, e = .returned (.slice (adr a 0) l.length c) ∧ Hp w0 D (⟨a, stas l, 29, c * 9⟩ :: R) w'
theorem wp_postG {P : Program} {Q : Exit → Act → World → Prop} {F : Nat → Act} (Post : Nat → World → Prop) {c : Code} {a : Act} {w : World} (h : c.wp P (fun e a' w' => e = .normal ∧ ∃ b, a' = F b ∧ Post b w') a w) (k : ∀ b w', Post b w' → Q .normal (F b) w') : c.wp P Q a w :=
  Code.wp_mono (fun e a w hq => by obtain ⟨rfl, b, rfl, hp⟩ := hq; exact k b w hp) h
set_option maxHeartbeats 4000000 in
theorem Next_spec {w0 w : World} {D : Nat → Prop} {R : List Ent} {s : Sta} {l : List Sta} (H : Hp w0 D (R) w) (hl : nextS s = l) :
    Calls Try.prog 25 #[.agg s.cells.toArray] w fun e w' => NxP w0 D R l e w' := by
  by_cases hp : s.phase = 0
  · have el : l = [] := by rw [← hl]; unfold nextS; rw [if_pos hp]
    subst el
    clear hl
    go_enter Try.func25, Try.ntmps25
    go_wp2_with (first
    | ((with_reducible refine gBx ?_); refine bxA (vs := s.cells) H rfl rfl rfl ?_; clear H; intro b1 w1 H)
    | ((with_reducible refine gLd ?_); refine eLd H rfl rfl ?_; first | (refine kLd 0 rfl rfl (by first | exact T3 | exact T4 | exact T9 | exact T22 | exact T27 | exact T29 | exact T35 | exact T55) rfl ?_) | (refine kLdA 0 rfl rfl (by first | exact T3 | exact T4 | exact T9 | exact T22 | exact T27 | exact T29 | exact T35 | exact T55) (Nat.le_of_ble_eq_true rfl) (by simp only [List.drop_succ_cons, List.drop_zero, List.take_succ_cons, List.take_zero, List.set_cons_zero, List.set_cons_succ]; rfl) ?_))
    | ((with_reducible refine gSt ?_); (first | (refine eSt H rfl rfl ⟨.int _ _, rfl, ?_⟩) | (refine eSt H rfl rfl ⟨.bool _, rfl, ?_⟩) | (refine eSt H rfl rfl ⟨.slice _ _ _, rfl, ?_⟩) | (refine eSt H rfl rfl ⟨.pointer _, rfl, ?_⟩) | (refine eSt H rfl rfl ⟨.string _, rfl, ?_⟩) | (refine eSt H rfl rfl ⟨.agg (List.toArray _), rfl, ?_⟩)); (first | (refine kSt 0 rfl rfl (by first | exact T3 | exact T4 | exact T9 | exact T22 | exact T27 | exact T29 | exact T35 | exact T55) rfl (Nat.le_of_ble_eq_true rfl) ?_) | (refine kStA 0 rfl rfl (by first | exact T3 | exact T4 | exact T9 | exact T22 | exact T27 | exact T29 | exact T35 | exact T55) rfl rfl (Nat.le_of_ble_eq_true rfl) ?_)); clear H; intro w1 H; simp only [List.set_cons_zero, List.set_cons_succ] at H; (try simp only [lay, List.take_zero, List.nil_append, List.length_cons, List.length_nil, Nat.zero_add, Nat.reduceAdd, List.drop_succ_cons, List.drop_zero, List.drop_nil, List.append_nil, List.take_succ_cons, List.cons_append] at H))
    | ((with_reducible refine gBx ?_); refine bxA H rfl rfl rfl ?_; clear H; intro b1 w1 H)
    | ((with_reducible refine gBs ?_); (first | (refine bs1 H rfl (by first | exact S48) rfl (Nat.le_of_ble_eq_true rfl) (Nat.le_of_ble_eq_true rfl) rfl ?_) | (refine wl_buildSlice0 rfl (by first | exact S48) H ?_)); clear H; intro b1 w1 H)
    | ((with_reducible refine gEq ?_); (first | (refine wl_cmp rfl rfl rfl rfl ?_) | (refine wl_scmp rfl rfl rfl rfl ?_)); intro rb hrb; cases rb <;> (first | (exfalso; simp at hrb; done) | ((try simp only [decide_eq_true_eq, decide_eq_false_iff_not, beq_iff_eq, beq_eq_false_iff_ne, ne_eq, bne_iff_ne, bne_eq_false_iff_eq, Bool.not_eq_true', Bool.not_eq_false', gt_iff_lt, ge_iff_le, Int.not_lt, Int.not_le, Decidable.not_not] at hrb); (try subst hrb); (try (exfalso; omega)))))
    | ((with_reducible refine gRg ?_); refine wp_region_text rfl (by decide +kernel) ?_; replace H := H.drew)
    | ((with_reducible refine EndQ.intro ?_ ?_); (· kernel_rfl)))
    go_ret
    exact ⟨none, 0, rfl, H.drop.consNone 29⟩
  · have HL : Hid (accN s 5 = l) := Lib.hid (by rw [← hl]; unfold nextS; rw [if_neg hp])
    clear hl
    go_enter Try.func25, Try.ntmps25
    go_wp2_with (first
    | ((with_reducible refine gBx ?_); refine bxA (vs := s.cells) H rfl rfl rfl ?_; clear H; intro b1 w1 H)
    | ((with_reducible refine gRg ?_); apply wp_postG (Post := fun b5 w' => Hp w0 D (⟨some b5, evC (evs s), 35, 40⟩ :: ⟨some b1, s.cells, 29, 9⟩ :: R) w'); (· (refine wp_region_B (fun u => Hp w0 D (⟨some b1, s.cells, 29, 9⟩ :: R) u) rfl ?_; replace H := H.drew; (refine bTakeL 0 rfl (by decide +kernel) (H) rfl (fun u hu => run_ldW 0 hu rfl rfl T29 rfl) ?_; (try simp only [Act.put, List.setIfInBounds_toArray, List.set_cons_succ, List.set_cons_zero])); (refine bTakeL 3 rfl (by decide +kernel) (H) rfl (fun u hu => run_ldW 0 hu rfl rfl T29 rfl) ?_; (try simp only [Act.put, List.setIfInBounds_toArray, List.set_cons_succ, List.set_cons_zero])); (refine bTakeL 6 rfl (by decide +kernel) (H) rfl (by intro u hu; go_simp; rfl) ?_; (try simp only [Act.put, List.setIfInBounds_toArray, List.set_cons_succ, List.set_cons_zero])); (refine bTakeL 9 rfl (by decide +kernel) (H) rfl (fun u hu => run_ldW 0 hu rfl rfl T29 rfl) ?_; (try simp only [Act.put, List.setIfInBounds_toArray, List.set_cons_succ, List.set_cons_zero])); (refine bTakeL 12 rfl (by decide +kernel) (H) rfl (by intro u hu; go_simp; rfl) ?_; (try simp only [Act.put, List.setIfInBounds_toArray, List.set_cons_succ, List.set_cons_zero])); (refine bTakeL 7 rfl (by decide +kernel) (H) rfl (fun u hu => run_ld 0 hu rfl rfl rfl T22 rfl) ?_; (try simp only [Act.put, List.setIfInBounds_toArray, List.set_cons_succ, List.set_cons_zero])); (refine bTakeL 13 rfl (by decide +kernel) (H) rfl (fun u hu => run_ld 0 hu rfl rfl rfl T22 rfl) ?_; (try simp only [Act.put, List.setIfInBounds_toArray, List.set_cons_succ, List.set_cons_zero])); (refine bTakeL 8 rfl (by decide +kernel) (H) rfl (by intro u hu; go_simp; rfl) ?_; (try simp only [Act.put, List.setIfInBounds_toArray, List.set_cons_succ, List.set_cons_zero])); (refine bTakeL 14 rfl (by decide +kernel) (H) rfl (by intro u hu; go_simp; rfl) ?_; (try simp only [Act.put, List.setIfInBounds_toArray, List.set_cons_succ, List.set_cons_zero])); (refine bTakeL 15 rfl (by decide +kernel) (H) rfl (by intro u hu; go_simp; rfl) ?_; (try simp only [Act.put, List.setIfInBounds_toArray, List.set_cons_succ, List.set_cons_zero])); (refine bOneL 1 (by decide +kernel) rfl rfl ?_); (intro K hK; go_simp; go_at_call 36; (with_reducible refine (promise_spec H s 0).mono ?_); rintro e w1 ⟨rfl, H1⟩; clear H; have H := H1; clear H1; (try simp only []); (try simp only [promise, signature, instead, Lt.cells]); refine hK _ _ (H) ?_; clear hK K; (try simp only [Act.put, List.setIfInBounds_toArray, List.set_cons_succ, List.set_cons_zero]); (refine bTakeL 2 rfl (by decide +kernel) (H) rfl (by intro u hu; go_simp; rfl) ?_; (try simp only [Act.put, List.setIfInBounds_toArray, List.set_cons_succ, List.set_cons_zero])); (refine bOneL 4 (by decide +kernel) rfl rfl ?_); (intro K hK; go_simp; go_at_call 32; (with_reducible refine (signature_spec H s 0).mono ?_); rintro e w1 ⟨rfl, H1⟩; clear H; have H := H1; clear H1; (try simp only []); (try simp only [promise, signature, instead, Lt.cells]); refine hK _ _ (H) ?_; clear hK K; (try simp only [Act.put, List.setIfInBounds_toArray, List.set_cons_succ, List.set_cons_zero]); (refine bTakeL 5 rfl (by decide +kernel) (H) rfl (by intro u hu; go_simp; rfl) ?_; (try simp only [Act.put, List.setIfInBounds_toArray, List.set_cons_succ, List.set_cons_zero])); (refine bOneL 10 (by decide +kernel) rfl rfl ?_); (intro K hK; go_simp; go_at_call 33; (with_reducible refine (instead_spec H s).mono ?_); rintro e w1 ⟨rfl, H1⟩; clear H; have H := H1; clear H1; (try simp only []); (try simp only [promise, signature, instead, Lt.cells]); refine hK _ _ (H) ?_; clear hK K; (try simp only [Act.put, List.setIfInBounds_toArray, List.set_cons_succ, List.set_cons_zero]); (refine bTakeL 11 rfl (by decide +kernel) (H) rfl (by intro u hu; go_simp; rfl) ?_; (try simp only [Act.put, List.setIfInBounds_toArray, List.set_cons_succ, List.set_cons_zero])); (refine bOneL 16 (by decide +kernel) rfl rfl ?_); (intro K hK; refine oBs5 (c0 := Ev.cells ⟨2, 0, ⟨#[]⟩, promise s 0⟩) (c1 := Ev.cells ⟨2, 0, ⟨#[]⟩, signature s 0⟩) (c2 := Ev.cells ⟨3, s.c, ⟨#[]⟩, .zero⟩) (c3 := Ev.cells ⟨2, 0, ⟨#[]⟩, instead s⟩) (c4 := Ev.cells ⟨2, 0, ⟨#[]⟩, token s⟩) rfl rfl rfl rfl rfl S23 ⟨rfl, rfl, rfl, rfl, rfl⟩ (by decide) (by decide) H ?_; clear H; intro b5 w1 H; replace H : Hp w0 D (⟨some b5, evC (evs s), 35, 40⟩ :: _) w1 := H; refine hK _ _ ((H).dropAt 0) ?_; clear hK K; (try simp only [Act.put, List.setIfInBounds_toArray, List.set_cons_succ, List.set_cons_zero]); (refine bTakeL 17 rfl (by decide +kernel) ((H).dropAt 0) rfl (by intro u hu; go_simp; rfl) ?_; (try simp only [Act.put, List.setIfInBounds_toArray, List.set_cons_succ, List.set_cons_zero])); (refine bDone (by decide +kernel) ?_); (exact ⟨rfl, b5, rfl, (((H).swap (A := [_]) (B := [_])).swap (A := [_]) (B := [_]))⟩))))))); clear H; intro b5 w1 H; (try simp only [Act.put, List.setIfInBounds_toArray, List.set_cons_succ, List.set_cons_zero]))
    | ((with_reducible refine gLd ?_); refine eLd H rfl rfl ?_; first | (refine kLd 0 rfl rfl (by first | exact T3 | exact T4 | exact T9 | exact T22 | exact T27 | exact T29 | exact T35 | exact T55) rfl ?_) | (refine kLdA 0 rfl rfl (by first | exact T3 | exact T4 | exact T9 | exact T22 | exact T27 | exact T29 | exact T35 | exact T55) (Nat.le_of_ble_eq_true rfl) (by simp only [List.drop_succ_cons, List.drop_zero, List.take_succ_cons, List.take_zero, List.set_cons_zero, List.set_cons_succ]; rfl) ?_))
    | ((with_reducible refine gSt ?_); (first | (refine eSt H rfl rfl ⟨.int _ _, rfl, ?_⟩) | (refine eSt H rfl rfl ⟨.bool _, rfl, ?_⟩) | (refine eSt H rfl rfl ⟨.slice _ _ _, rfl, ?_⟩) | (refine eSt H rfl rfl ⟨.pointer _, rfl, ?_⟩) | (refine eSt H rfl rfl ⟨.string _, rfl, ?_⟩) | (refine eSt H rfl rfl ⟨.agg (List.toArray _), rfl, ?_⟩)); (first | (refine kSt 0 rfl rfl (by first | exact T3 | exact T4 | exact T9 | exact T22 | exact T27 | exact T29 | exact T35 | exact T55) rfl (Nat.le_of_ble_eq_true rfl) ?_) | (refine kStA 0 rfl rfl (by first | exact T3 | exact T4 | exact T9 | exact T22 | exact T27 | exact T29 | exact T35 | exact T55) rfl rfl (Nat.le_of_ble_eq_true rfl) ?_)); clear H; intro w1 H; simp only [List.set_cons_zero, List.set_cons_succ] at H; (try simp only [lay, List.take_zero, List.nil_append, List.length_cons, List.length_nil, Nat.zero_add, Nat.reduceAdd, List.drop_succ_cons, List.drop_zero, List.drop_nil, List.append_nil, List.take_succ_cons, List.cons_append] at H))
    | ((with_reducible refine gBx ?_); refine bxA H rfl rfl rfl ?_; clear H; intro b1 w1 H)
    | ((with_reducible refine gBs ?_); (first | (refine bs1 H rfl (by first | exact S48) rfl (Nat.le_of_ble_eq_true rfl) (Nat.le_of_ble_eq_true rfl) rfl ?_) | (refine wl_buildSlice0 rfl (by first | exact S48) H ?_)); clear H; intro b1 w1 H)
    | ((with_reducible refine gEq ?_); (first | (refine wl_cmp rfl rfl rfl rfl ?_) | (refine wl_scmp rfl rfl rfl rfl ?_)); intro rb hrb; cases rb <;> (first | (exfalso; simp at hrb; done) | ((try simp only [decide_eq_true_eq, decide_eq_false_iff_not, beq_iff_eq, beq_eq_false_iff_ne, ne_eq, bne_iff_ne, bne_eq_false_iff_eq, Bool.not_eq_true', Bool.not_eq_false', gt_iff_lt, ge_iff_le, Int.not_lt, Int.not_le, Decidable.not_not] at hrb); (try subst hrb); (try (exfalso; omega)))))
    | ((with_reducible refine gRg ?_); refine wp_region_text rfl (by decide +kernel) ?_; replace H := H.drew)
    | ((with_reducible refine EndQ.intro ?_ ?_); (· kernel_rfl)))
    go_loopg [4, 31] 5 (fun g v4 v31 wr => ∃ (j n c : Nat) (a : Option Nat) (acc : List Sta), v4 = .slice (adr a 0) n c ∧ v31 = .int .i64 (j : Int) ∧ j + g = 5 ∧ n ≤ j ∧ Hid (accN s j = acc) ∧ Hid (acc.length = n) ∧ Hp w0 D (⟨a, stas acc, 29, c * 9⟩ :: ⟨some b5, evC (evs s), 35, 40⟩ :: ⟨some b1, s.cells, 29, 9⟩ :: R) wr)
    case atStart => exact ⟨0, 0, 0, none, [], rfl, rfl, by omega, by omega, Lib.hid rfl, Lib.hid rfl, H.consNone 29⟩
    case round =>
      clear H
      obtain ⟨j, n, c, a, acc, rfl, rfl, hjg, hnj, HAC, HAL, H⟩ := hrel
      by_cases hj : j < 5
      · obtain ⟨v, hv⟩ : ∃ v, (evs s)[j]? = some v := ⟨_, List.getElem?_eq_getElem (by simpa [evs] using hj)⟩
        obtain ⟨t, ht⟩ : ∃ t, (stepS s v).1 = t := ⟨_, rfl⟩
        have HEV := Lib.hid (evC_pick hv)
        have hst := accN_step hv ht
        rw [HAC.out] at hst
        have HT := Lib.hid ht
        have HG := Lib.hid hjg
        have hgp : 0 < gk := by omega
        clear hv ht hjg
        cases hb : t.beq s with
        | true =>
          have HB : Hid ((!(t.beq s)) = false) := Lib.hid (by rw [hb]; rfl)
          have HAC2 := Lib.hid (show accN s (j + 1) = acc by rw [hst, hb]; rfl)
          clear hst hb
          go_wp2_with (first
              | ((with_reducible refine gLd ?_); refine wl_loadR (k := j * 8) ((Rd.ent H (i := 1) rfl).cells [] _ H) rfl rfl (by first | rfl | omega) T35 HEV.out ?_)
              | ((with_reducible refine gAl ?_); (refine al H Z35 rfl rfl ?_); clear H; intro b6 w1 H)
              | ((with_reducible refine gSt ?_); refine eSt H rfl rfl ⟨.agg (List.toArray v.cells), rfl, ?_⟩; refine kStW 0 rfl T35 rfl rfl rfl ?_; clear H; intro w1 H; simp only [List.set_cons_zero] at H)
              | ((with_reducible refine gLd ?_); refine eLd H rfl rfl ?_; first | (refine kLdW 0 rfl T29 rfl ?_) | (refine kLdW 1 rfl T29 rfl ?_) | (refine kLdW 2 rfl T29 rfl ?_) | (refine kLdW 3 rfl T29 rfl ?_) | (refine kLdW 4 rfl T29 rfl ?_))
              | ((with_reducible refine gLd ?_); refine eLd H rfl rfl ?_; first | (refine kLdW 0 rfl T35 rfl ?_))
              | (go_at_call 13; ((with_reducible refine (StepN H HT.out).mono ?_); rintro e w1 ⟨aO, nO, cO, rfl, H1⟩; clear H; have H := H1; clear H1))
              | ((with_reducible refine gAl ?_); (refine al H Z29 rfl rfl ?_); clear H; intro b7 w1 H)
              | ((with_reducible refine gSt ?_); refine eSt H rfl rfl ⟨.agg (List.toArray t.cells), rfl, ?_⟩; refine kStW 0 rfl T29 rfl rfl rfl ?_; clear H; intro w1 H; simp only [List.set_cons_zero] at H)
              | ((with_reducible refine gEq ?_); refine wl_neS rfl rfl rfl HB.out ?_)
              | ((with_reducible refine gLd ?_); refine eLd H rfl rfl ?_; first | (refine kLd 0 rfl rfl (by first | exact T3 | exact T4 | exact T9 | exact T22 | exact T27 | exact T29 | exact T35 | exact T55) rfl ?_) | (refine kLdA 0 rfl rfl (by first | exact T3 | exact T4 | exact T9 | exact T22 | exact T27 | exact T29 | exact T35 | exact T55) (Nat.le_of_ble_eq_true rfl) (by simp only [List.drop_succ_cons, List.drop_zero, List.take_succ_cons, List.take_zero, List.set_cons_zero, List.set_cons_succ]; rfl) ?_))
              | ((with_reducible refine gSt ?_); (first | (refine eSt H rfl rfl ⟨.int _ _, rfl, ?_⟩) | (refine eSt H rfl rfl ⟨.bool _, rfl, ?_⟩) | (refine eSt H rfl rfl ⟨.slice _ _ _, rfl, ?_⟩) | (refine eSt H rfl rfl ⟨.pointer _, rfl, ?_⟩) | (refine eSt H rfl rfl ⟨.string _, rfl, ?_⟩) | (refine eSt H rfl rfl ⟨.agg (List.toArray _), rfl, ?_⟩)); (first | (refine kSt 0 rfl rfl (by first | exact T3 | exact T4 | exact T9 | exact T22 | exact T27 | exact T29 | exact T35 | exact T55) rfl (Nat.le_of_ble_eq_true rfl) ?_) | (refine kStA 0 rfl rfl (by first | exact T3 | exact T4 | exact T9 | exact T22 | exact T27 | exact T29 | exact T35 | exact T55) rfl rfl (Nat.le_of_ble_eq_true rfl) ?_)); clear H; intro w1 H; simp only [List.set_cons_zero, List.set_cons_succ] at H; (try simp only [lay, List.take_zero, List.nil_append, List.length_cons, List.length_nil, Nat.zero_add, Nat.reduceAdd, List.drop_succ_cons, List.drop_zero, List.drop_nil, List.append_nil, List.take_succ_cons, List.cons_append] at H))
              | ((with_reducible refine gBx ?_); refine bxA H rfl rfl rfl ?_; clear H; intro b1 w1 H)
              | ((with_reducible refine gBs ?_); (first | (refine bs1 H rfl (by first | exact S48) rfl (Nat.le_of_ble_eq_true rfl) (Nat.le_of_ble_eq_true rfl) rfl ?_) | (refine wl_buildSlice0 rfl (by first | exact S48) H ?_)); clear H; intro b1 w1 H)
              | ((with_reducible refine gEq ?_); (first | (refine wl_cmp rfl rfl rfl rfl ?_) | (refine wl_scmp rfl rfl rfl rfl ?_)); intro rb hrb; cases rb <;> (first | (exfalso; simp at hrb; done) | ((try simp only [decide_eq_true_eq, decide_eq_false_iff_not, beq_iff_eq, beq_eq_false_iff_ne, ne_eq, bne_iff_ne, bne_eq_false_iff_eq, Bool.not_eq_true', Bool.not_eq_false', gt_iff_lt, ge_iff_le, Int.not_lt, Int.not_le, Decidable.not_not] at hrb); (try subst hrb); (try (exfalso; omega)))))
              | ((with_reducible refine gRg ?_); refine wp_region_text rfl (by decide +kernel) ?_; replace H := H.drew)
              | ((with_reducible refine EndQ.intro ?_ ?_); (· kernel_rfl)))
          go_roundg (gk - 1)
          case measure => omega
          case rel => exact ⟨j + 1, n, c, a, _, rfl, by go_num, by have := HG.out; omega, by omega, HAC2, HAL, H.drop.drop⟩
        | false =>
          have HB : Hid ((!(t.beq s)) = true) := Lib.hid (by rw [hb]; rfl)
          cases hi : inL acc t with
          | true =>
            have HIN := Lib.hid hi
            have HAC2 := Lib.hid (show accN s (j + 1) = acc by rw [hst, hb, hi]; rfl)
            clear hst hb hi
            go_wp2_with (first
                | ((with_reducible refine gLd ?_); refine wl_loadR (k := j * 8) ((Rd.ent H (i := 1) rfl).cells [] _ H) rfl rfl (by first | rfl | omega) T35 HEV.out ?_)
                | ((with_reducible refine gAl ?_); (refine al H Z35 rfl rfl ?_); clear H; intro b6 w1 H)
                | ((with_reducible refine gSt ?_); refine eSt H rfl rfl ⟨.agg (List.toArray v.cells), rfl, ?_⟩; refine kStW 0 rfl T35 rfl rfl rfl ?_; clear H; intro w1 H; simp only [List.set_cons_zero] at H)
                | ((with_reducible refine gLd ?_); refine eLd H rfl rfl ?_; first | (refine kLdW 0 rfl T29 rfl ?_) | (refine kLdW 1 rfl T29 rfl ?_) | (refine kLdW 2 rfl T29 rfl ?_) | (refine kLdW 3 rfl T29 rfl ?_) | (refine kLdW 4 rfl T29 rfl ?_))
                | ((with_reducible refine gLd ?_); refine eLd H rfl rfl ?_; first | (refine kLdW 0 rfl T35 rfl ?_))
                | (go_at_call 13; ((with_reducible refine (StepN H HT.out).mono ?_); rintro e w1 ⟨aO, nO, cO, rfl, H1⟩; clear H; have H := H1; clear H1))
                | ((with_reducible refine gAl ?_); (refine al H Z29 rfl rfl ?_); clear H; intro b7 w1 H)
                | ((with_reducible refine gSt ?_); refine eSt H rfl rfl ⟨.agg (List.toArray t.cells), rfl, ?_⟩; refine kStW 0 rfl T29 rfl rfl rfl ?_; clear H; intro w1 H; simp only [List.set_cons_zero] at H)
                | ((with_reducible refine gEq ?_); refine wl_neS rfl rfl rfl HB.out ?_)
                | (go_at_call 37; have HY9 := Rd.ent H (i := 2) rfl; ((with_reducible refine (Contains_spec H HY9 HAL.out (by omega) HIN.out).mono ?_); rintro e w1 ⟨rfl, H1⟩; clear HY9; clear H; have H := H1; clear H1))
                | ((with_reducible refine gLd ?_); refine eLd H rfl rfl ?_; first | (refine kLd 0 rfl rfl (by first | exact T3 | exact T4 | exact T9 | exact T22 | exact T27 | exact T29 | exact T35 | exact T55) rfl ?_) | (refine kLdA 0 rfl rfl (by first | exact T3 | exact T4 | exact T9 | exact T22 | exact T27 | exact T29 | exact T35 | exact T55) (Nat.le_of_ble_eq_true rfl) (by simp only [List.drop_succ_cons, List.drop_zero, List.take_succ_cons, List.take_zero, List.set_cons_zero, List.set_cons_succ]; rfl) ?_))
                | ((with_reducible refine gSt ?_); (first | (refine eSt H rfl rfl ⟨.int _ _, rfl, ?_⟩) | (refine eSt H rfl rfl ⟨.bool _, rfl, ?_⟩) | (refine eSt H rfl rfl ⟨.slice _ _ _, rfl, ?_⟩) | (refine eSt H rfl rfl ⟨.pointer _, rfl, ?_⟩) | (refine eSt H rfl rfl ⟨.string _, rfl, ?_⟩) | (refine eSt H rfl rfl ⟨.agg (List.toArray _), rfl, ?_⟩)); (first | (refine kSt 0 rfl rfl (by first | exact T3 | exact T4 | exact T9 | exact T22 | exact T27 | exact T29 | exact T35 | exact T55) rfl (Nat.le_of_ble_eq_true rfl) ?_) | (refine kStA 0 rfl rfl (by first | exact T3 | exact T4 | exact T9 | exact T22 | exact T27 | exact T29 | exact T35 | exact T55) rfl rfl (Nat.le_of_ble_eq_true rfl) ?_)); clear H; intro w1 H; simp only [List.set_cons_zero, List.set_cons_succ] at H; (try simp only [lay, List.take_zero, List.nil_append, List.length_cons, List.length_nil, Nat.zero_add, Nat.reduceAdd, List.drop_succ_cons, List.drop_zero, List.drop_nil, List.append_nil, List.take_succ_cons, List.cons_append] at H))
                | ((with_reducible refine gBx ?_); refine bxA H rfl rfl rfl ?_; clear H; intro b1 w1 H)
                | ((with_reducible refine gBs ?_); (first | (refine bs1 H rfl (by first | exact S48) rfl (Nat.le_of_ble_eq_true rfl) (Nat.le_of_ble_eq_true rfl) rfl ?_) | (refine wl_buildSlice0 rfl (by first | exact S48) H ?_)); clear H; intro b1 w1 H)
                | ((with_reducible refine gEq ?_); (first | (refine wl_cmp rfl rfl rfl rfl ?_) | (refine wl_scmp rfl rfl rfl rfl ?_)); intro rb hrb; cases rb <;> (first | (exfalso; simp at hrb; done) | ((try simp only [decide_eq_true_eq, decide_eq_false_iff_not, beq_iff_eq, beq_eq_false_iff_ne, ne_eq, bne_iff_ne, bne_eq_false_iff_eq, Bool.not_eq_true', Bool.not_eq_false', gt_iff_lt, ge_iff_le, Int.not_lt, Int.not_le, Decidable.not_not] at hrb); (try subst hrb); (try (exfalso; omega)))))
                | ((with_reducible refine gRg ?_); refine wp_region_text rfl (by decide +kernel) ?_; replace H := H.drew)
                | ((with_reducible refine EndQ.intro ?_ ?_); (· kernel_rfl)))
            go_roundg (gk - 1)
            case measure => omega
            case rel => exact ⟨j + 1, n, c, a, _, rfl, by go_num, by have := HG.out; omega, by omega, HAC2, HAL, H.drop.drop⟩
          | false =>
            have HIN := Lib.hid hi
            have HAC2 := Lib.hid (show accN s (j + 1) = acc ++ [t] by rw [hst, hb, hi]; rfl)
            clear hst hb hi
            go_wp2_with (first
                | ((with_reducible refine gLd ?_); refine wl_loadR (k := j * 8) ((Rd.ent H (i := 1) rfl).cells [] _ H) rfl rfl (by first | rfl | omega) T35 HEV.out ?_)
                | ((with_reducible refine gAl ?_); (refine al H Z35 rfl rfl ?_); clear H; intro b6 w1 H)
                | ((with_reducible refine gSt ?_); refine eSt H rfl rfl ⟨.agg (List.toArray v.cells), rfl, ?_⟩; refine kStW 0 rfl T35 rfl rfl rfl ?_; clear H; intro w1 H; simp only [List.set_cons_zero] at H)
                | ((with_reducible refine gLd ?_); refine eLd H rfl rfl ?_; first | (refine kLdW 0 rfl T29 rfl ?_) | (refine kLdW 1 rfl T29 rfl ?_) | (refine kLdW 2 rfl T29 rfl ?_) | (refine kLdW 3 rfl T29 rfl ?_) | (refine kLdW 4 rfl T29 rfl ?_))
                | ((with_reducible refine gLd ?_); refine eLd H rfl rfl ?_; first | (refine kLdW 0 rfl T35 rfl ?_))
                | (go_at_call 13; ((with_reducible refine (StepN H HT.out).mono ?_); rintro e w1 ⟨aO, nO, cO, rfl, H1⟩; clear H; have H := H1; clear H1))
                | ((with_reducible refine gAl ?_); (refine al H Z29 rfl rfl ?_); clear H; intro b7 w1 H)
                | ((with_reducible refine gSt ?_); refine eSt H rfl rfl ⟨.agg (List.toArray t.cells), rfl, ?_⟩; refine kStW 0 rfl T29 rfl rfl rfl ?_; clear H; intro w1 H; simp only [List.set_cons_zero] at H)
                | ((with_reducible refine gEq ?_); refine wl_neS rfl rfl rfl HB.out ?_)
                | (go_at_call 37; have HY9 := Rd.ent H (i := 2) rfl; ((with_reducible refine (Contains_spec H HY9 HAL.out (by omega) HIN.out).mono ?_); rintro e w1 ⟨rfl, H1⟩; clear HY9; clear H; have H := H1; clear H1))
                | ((with_reducible refine gBs ?_); refine bs1 (vs := t.cells) H rfl S48 rfl (by decide) (by decide) rfl ?_; clear H; intro bq1 w1 H)
                | ((with_reducible refine gAp ?_); refine wl_append 3 0 rfl H rfl rfl rfl rfl S48 (by decide) (Or.inl rfl) (by dsimp only; rw [stas_len, HAL.out]) rfl (fun h => by cases h) (Nat.le_of_ble_eq_true rfl) rfl (by unfold maxLen; omega) (by omega) ?_; clear H; intro ae' ce' w1 H h0; clear h0; simp only [List.set_cons_zero, List.set_cons_succ, List.drop_zero, Nat.one_mul, take9] at H; rw [stas_snoc] at H)
                | ((with_reducible refine gLd ?_); refine eLd H rfl rfl ?_; first | (refine kLd 0 rfl rfl (by first | exact T3 | exact T4 | exact T9 | exact T22 | exact T27 | exact T29 | exact T35 | exact T55) rfl ?_) | (refine kLdA 0 rfl rfl (by first | exact T3 | exact T4 | exact T9 | exact T22 | exact T27 | exact T29 | exact T35 | exact T55) (Nat.le_of_ble_eq_true rfl) (by simp only [List.drop_succ_cons, List.drop_zero, List.take_succ_cons, List.take_zero, List.set_cons_zero, List.set_cons_succ]; rfl) ?_))
                | ((with_reducible refine gSt ?_); (first | (refine eSt H rfl rfl ⟨.int _ _, rfl, ?_⟩) | (refine eSt H rfl rfl ⟨.bool _, rfl, ?_⟩) | (refine eSt H rfl rfl ⟨.slice _ _ _, rfl, ?_⟩) | (refine eSt H rfl rfl ⟨.pointer _, rfl, ?_⟩) | (refine eSt H rfl rfl ⟨.string _, rfl, ?_⟩) | (refine eSt H rfl rfl ⟨.agg (List.toArray _), rfl, ?_⟩)); (first | (refine kSt 0 rfl rfl (by first | exact T3 | exact T4 | exact T9 | exact T22 | exact T27 | exact T29 | exact T35 | exact T55) rfl (Nat.le_of_ble_eq_true rfl) ?_) | (refine kStA 0 rfl rfl (by first | exact T3 | exact T4 | exact T9 | exact T22 | exact T27 | exact T29 | exact T35 | exact T55) rfl rfl (Nat.le_of_ble_eq_true rfl) ?_)); clear H; intro w1 H; simp only [List.set_cons_zero, List.set_cons_succ] at H; (try simp only [lay, List.take_zero, List.nil_append, List.length_cons, List.length_nil, Nat.zero_add, Nat.reduceAdd, List.drop_succ_cons, List.drop_zero, List.drop_nil, List.append_nil, List.take_succ_cons, List.cons_append] at H))
                | ((with_reducible refine gBx ?_); refine bxA H rfl rfl rfl ?_; clear H; intro b1 w1 H)
                | ((with_reducible refine gBs ?_); (first | (refine bs1 H rfl (by first | exact S48) rfl (Nat.le_of_ble_eq_true rfl) (Nat.le_of_ble_eq_true rfl) rfl ?_) | (refine wl_buildSlice0 rfl (by first | exact S48) H ?_)); clear H; intro b1 w1 H)
                | ((with_reducible refine gEq ?_); (first | (refine wl_cmp rfl rfl rfl rfl ?_) | (refine wl_scmp rfl rfl rfl rfl ?_)); intro rb hrb; cases rb <;> (first | (exfalso; simp at hrb; done) | ((try simp only [decide_eq_true_eq, decide_eq_false_iff_not, beq_iff_eq, beq_eq_false_iff_ne, ne_eq, bne_iff_ne, bne_eq_false_iff_eq, Bool.not_eq_true', Bool.not_eq_false', gt_iff_lt, ge_iff_le, Int.not_lt, Int.not_le, Decidable.not_not] at hrb); (try subst hrb); (try (exfalso; omega)))))
                | ((with_reducible refine gRg ?_); refine wp_region_text rfl (by decide +kernel) ?_; replace H := H.drew)
                | ((with_reducible refine EndQ.intro ?_ ?_); (· kernel_rfl)))
            go_roundg (gk - 1)
            case measure => omega
            case rel => exact ⟨j + 1, n + 1, ce', ae', _, rfl, by go_num, by have := HG.out; omega, by omega, HAC2, Lib.hid (by rw [List.length_append, HAL.out]; rfl), H.drop.drop.drop⟩
      · have ej : j = 5 := by omega
        subst ej
        have e : acc = l := by rw [← HAC.out, HL.out]
        subst e
        have e2 := HAL.out
        subst e2
        clear hjg
        go_wp2_with (first
    | ((with_reducible refine gLd ?_); refine eLd H rfl rfl ?_; first | (refine kLd 0 rfl rfl (by first | exact T3 | exact T4 | exact T9 | exact T22 | exact T27 | exact T29 | exact T35 | exact T55) rfl ?_) | (refine kLdA 0 rfl rfl (by first | exact T3 | exact T4 | exact T9 | exact T22 | exact T27 | exact T29 | exact T35 | exact T55) (Nat.le_of_ble_eq_true rfl) (by simp only [List.drop_succ_cons, List.drop_zero, List.take_succ_cons, List.take_zero, List.set_cons_zero, List.set_cons_succ]; rfl) ?_))
    | ((with_reducible refine gSt ?_); (first | (refine eSt H rfl rfl ⟨.int _ _, rfl, ?_⟩) | (refine eSt H rfl rfl ⟨.bool _, rfl, ?_⟩) | (refine eSt H rfl rfl ⟨.slice _ _ _, rfl, ?_⟩) | (refine eSt H rfl rfl ⟨.pointer _, rfl, ?_⟩) | (refine eSt H rfl rfl ⟨.string _, rfl, ?_⟩) | (refine eSt H rfl rfl ⟨.agg (List.toArray _), rfl, ?_⟩)); (first | (refine kSt 0 rfl rfl (by first | exact T3 | exact T4 | exact T9 | exact T22 | exact T27 | exact T29 | exact T35 | exact T55) rfl (Nat.le_of_ble_eq_true rfl) ?_) | (refine kStA 0 rfl rfl (by first | exact T3 | exact T4 | exact T9 | exact T22 | exact T27 | exact T29 | exact T35 | exact T55) rfl rfl (Nat.le_of_ble_eq_true rfl) ?_)); clear H; intro w1 H; simp only [List.set_cons_zero, List.set_cons_succ] at H; (try simp only [lay, List.take_zero, List.nil_append, List.length_cons, List.length_nil, Nat.zero_add, Nat.reduceAdd, List.drop_succ_cons, List.drop_zero, List.drop_nil, List.append_nil, List.take_succ_cons, List.cons_append] at H))
    | ((with_reducible refine gBx ?_); refine bxA H rfl rfl rfl ?_; clear H; intro b1 w1 H)
    | ((with_reducible refine gBs ?_); (first | (refine bs1 H rfl (by first | exact S48) rfl (Nat.le_of_ble_eq_true rfl) (Nat.le_of_ble_eq_true rfl) rfl ?_) | (refine wl_buildSlice0 rfl (by first | exact S48) H ?_)); clear H; intro b1 w1 H)
    | ((with_reducible refine gEq ?_); (first | (refine wl_cmp rfl rfl rfl rfl ?_) | (refine wl_scmp rfl rfl rfl rfl ?_)); intro rb hrb; cases rb <;> (first | (exfalso; simp at hrb; done) | ((try simp only [decide_eq_true_eq, decide_eq_false_iff_not, beq_iff_eq, beq_eq_false_iff_ne, ne_eq, bne_iff_ne, bne_eq_false_iff_eq, Bool.not_eq_true', Bool.not_eq_false', gt_iff_lt, ge_iff_le, Int.not_lt, Int.not_le, Decidable.not_not] at hrb); (try subst hrb); (try (exfalso; omega)))))
    | ((with_reducible refine gRg ?_); refine wp_region_text rfl (by decide +kernel) ?_; replace H := H.drew)
    | ((with_reducible refine EndQ.intro ?_ ?_); (· kernel_rfl)))
        go_ret
        exact ⟨a, c, rfl, (H.dropAt 1).dropAt 1⟩
end Go.Proofs.Ytjflokgplehfgaa
