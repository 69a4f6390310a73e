import Derived.Test.YtajconlnacbmjaaW23
import Derived.Deep.LoopGhost
import Derived.WalkKit
import Derived.Lib.Hide
import Derived.WalkSpells
set_option linter.unusedVariables false
set_option linter.unusedSimpArgs false
namespace Go.Proofs.Ytajconlnacbmjaa
open Go.RowKit Go.Gx Go.Gx.Net
set_option maxRecDepth 100000

theorem wp_post6 {α β γ δ ε ζ : Type} {P : Program} {Q : Exit → Act → World → Prop} {F : α → β → γ → δ → ε → ζ → Act} (Post : α → β → γ → δ → ε → ζ → World → Prop) {c : Code} {a : Act} {w : World} (h : c.wp P (fun e a' w' => e = .normal ∧ ∃ x y z u v t, a' = F x y z u v t ∧ Post x y z u v t w') a w) (k : ∀ x y z u v t w', Post x y z u v t w' → Q .normal (F x y z u v t) w') : c.wp P Q a w :=
  Code.wp_mono (fun e a w hq => by obtain ⟨rfl, x, y, z, u, v, t, rfl, hp⟩ := hq; exact k x y z u v t w hp) h
theorem row_none {w0 w : World} {D : Nat → Prop} {L : List Ent} {a : Option Nat} {c i : Nat} {l : List Pk} (H : Hp w0 D L w) (hi : L[i]? = some (eR a c l)) (h : a = none) : l.length = 0 := by
  have h0 := H.ents i _ hi
  subst h
  have h1 : rows l = [] := h0.1
  have hz := rows_length l
  rw [h1] at hz
  simp only [List.length_nil] at hz
  omega
set_option maxHeartbeats 4000000 in
theorem rMove_ok {w0 w : World} {D : Nat → Prop} {R : List Ent} {p : Nat} {af ah : Option Nat} {cf ch : Nat} {s : St} (H : Hp w0 D (eN 49 p af ah cf ch (s) :: eR af cf (s).fl :: eR ah ch (s).hd :: R) w) (k t : Nat) (hk : k < s.fl.length) (ht0 : t < s.fl.length) (hl : s.fl.length ≤ 100000) :
    Calls Try.prog 37 #[.pointer (some ⟨p, 0, none⟩), .int .i64 k, .int .i64 t] w fun e w' => ∃ af' cf', e = .returned (.int .i64 0) ∧ Hp w0 D (eN 49 p af' ah cf' ch ({ s with fl := (s.fl.eraseIdx k).insertIdx t (s.pk k) }) :: eR af' cf' ({ s with fl := (s.fl.eraseIdx k).insertIdx t (s.pk k) }).fl :: eR ah ch ({ s with fl := (s.fl.eraseIdx k).insertIdx t (s.pk k) }).hd :: R) w' := by
  have HPK := Lib.hid (show placeB s k = true by simp [placeB]; omega)
  have HPT := Lib.hid (show placeB s t = true by simp [placeB]; omega)
  obtain ⟨⟨q1, q2, q3, q4, q5⟩, hp⟩ : ∃ q, s.pk k = q := ⟨_, rfl⟩
  try simp only [Pk.cells, netC, Pk.zero]
  rw [hp]
  have HP := Lib.hid hp
  clear hp
  go_enter Try.func37, Try.ntmps37
  go_wp2_with (first
    | (go_at_call 50; first | ((with_reducible refine (rPlace_spec H (k : Int)).mono ?_); rintro e w1 ⟨rfl, H1⟩; clear H; have H := H1; clear H1; rw [HPK.out]) | ((with_reducible refine (rPlace_spec H (t : Int)).mono ?_); rintro e w1 ⟨rfl, H1⟩; clear H; have H := H1; clear H1; rw [HPT.out]))
    | (go_at_call 49; refine (rOut_spec H _ hk hl).mono ?_; rintro e w1 ⟨af1, cf1, rfl, H1⟩; clear H; have H := H1; clear H1; rw [HP.out]; (try simp only [Pk.cells]))
    | ((with_reducible refine gAl ?_); refine al H Z35 rfl rfl ?_; clear H; intro b7 w1 H)
    | ((with_reducible refine gSt ?_); first | (refine eSt H rfl rfl ⟨.agg (List.toArray _), rfl, ?_⟩; refine kStA 0 rfl rfl T35 rfl rfl (Nat.le_of_ble_eq_true rfl) ?_; clear H; intro w1 H; simp only [List.set_cons_zero, List.set_cons_succ] at H; (try simp only [lay, List.take_zero, List.nil_append, List.length_cons, List.length_nil, Nat.zero_add, Nat.reduceAdd, List.drop_succ_cons, List.drop_zero, List.drop_nil, List.append_nil] at H)) | (refine eSt H rfl rfl ⟨.slice _ _ _, rfl, ?_⟩; refine kSt 2 rfl rfl T27 rfl (Nat.le_of_ble_eq_true rfl) ?_; clear H; intro w1 H; simp only [List.set_cons_zero, List.set_cons_succ] at H))
    | ((with_reducible refine gLd ?_); refine eLd H rfl rfl ?_; first | (refine kLdB 0 rfl rfl (by first | exact T3 | exact T4 | exact T9 | exact T30 | exact T27 | exact T51 | exact T35 | exact T29 | exact T63 | exact T49) rfl ?_; intro rb hrb; cases rb <;> (first | (exfalso; simp at hrb; done) | ((try simp only [decide_eq_true_eq, decide_eq_false_iff_not, beq_iff_eq, beq_eq_false_iff_ne, ne_eq, bne_iff_ne, bne_eq_false_iff_eq, Bool.not_eq_true', Bool.not_eq_false', gt_iff_lt, ge_iff_le, Int.not_lt, Int.not_le, Decidable.not_not] at hrb); (try subst hrb); (try (exfalso; omega))))) | (refine kLd 0 rfl rfl (by first | exact T3 | exact T4 | exact T9 | exact T30 | exact T27 | exact T51 | exact T35 | exact T29 | exact T63 | exact T49) rfl ?_) | (refine kLdA 0 rfl rfl (by first | exact T3 | exact T4 | exact T9 | exact T30 | exact T27 | exact T51 | exact T35 | exact T29 | exact T63 | exact T49) (Nat.le_of_ble_eq_true rfl) (by simp only [Pk.cells, netC, Pk.zero, List.drop_succ_cons, List.drop_zero, List.take_succ_cons, List.take_zero, List.set_cons_zero, List.set_cons_succ]; rfl) ?_))
    | ((with_reducible refine gSt ?_); (first | (refine eSt H rfl rfl ⟨.int _ _, rfl, ?_⟩) | (refine eSt H rfl rfl ⟨.bool _, rfl, ?_⟩) | (refine eSt H rfl rfl ⟨.slice _ _ _, rfl, ?_⟩) | (refine eSt H rfl rfl ⟨.pointer _, rfl, ?_⟩) | (refine eSt H rfl rfl ⟨.string _, rfl, ?_⟩) | (refine eSt H rfl rfl ⟨.agg (List.toArray _), rfl, ?_⟩)); (first | (refine kSt 0 rfl rfl (by first | exact T3 | exact T4 | exact T9 | exact T30 | exact T27 | exact T51 | exact T35 | exact T29 | exact T63 | exact T49) rfl (Nat.le_of_ble_eq_true rfl) ?_) | (refine kStA 0 rfl rfl (by first | exact T3 | exact T4 | exact T9 | exact T30 | exact T27 | exact T51 | exact T35 | exact T29 | exact T63 | exact T49) rfl rfl (Nat.le_of_ble_eq_true rfl) ?_)); clear H; intro w1 H; simp only [List.set_cons_zero, List.set_cons_succ] at H; (try simp only [lay, List.take_zero, List.nil_append, List.length_cons, List.length_nil, Nat.zero_add, Nat.reduceAdd, List.drop_succ_cons, List.drop_zero, List.drop_nil, List.append_nil, List.take_succ_cons, List.cons_append] at H))
    | ((with_reducible refine gBx ?_); refine bxA H rfl rfl rfl ?_; clear H; intro b1 w1 H)
    | ((with_reducible refine gBs ?_); (first | (refine bs1 H rfl (by first | exact S27 | exact S51) rfl (Nat.le_of_ble_eq_true rfl) (Nat.le_of_ble_eq_true rfl) rfl ?_) | (refine wl_buildSlice0 rfl (by first | exact S27 | exact S51) H ?_)); clear H; intro b1 w1 H)
    | ((with_reducible refine gEq ?_); (first | (refine wl_cmp rfl rfl rfl rfl ?_) | (refine wl_scmp rfl rfl rfl rfl ?_)); intro rb hrb; cases rb <;> (first | (exfalso; simp at hrb; done) | ((try simp only [decide_eq_true_eq, decide_eq_false_iff_not, beq_iff_eq, beq_eq_false_iff_ne, ne_eq, bne_iff_ne, bne_eq_false_iff_eq, Bool.not_eq_true', Bool.not_eq_false', gt_iff_lt, ge_iff_le, Int.not_lt, Int.not_le, Decidable.not_not] at hrb); (try subst hrb); (try (exfalso; omega)))))
    | ((with_reducible refine gEq ?_); (first | (refine wl_eqAgg G35 (eq35 9998 ⟨_, _, _, _, _⟩ ⟨_, _, _, _, _⟩) rfl rfl rfl ?_) | (refine wl_neAgg G35 (eq35 9998 ⟨_, _, _, _, _⟩ ⟨_, _, _, _, _⟩) rfl rfl rfl ?_)); intro rb hrb; cases rb <;> (try simp only [Bool.not_true, Bool.not_false]))
    | ((with_reducible refine gAl ?_); (first | (refine al H Z35 rfl rfl ?_) | (refine al H Z29 rfl rfl ?_)); clear H; intro b1 w1 H)
    | ((with_reducible refine gRg ?_); refine wp_region_text rfl (by decide +kernel) ?_; replace H := H.drew)
    | ((with_reducible refine EndQ.intro ?_ ?_); (· kernel_rfl)))
  
  simp only [eN, eR, St.out, Int.toNat_natCast] at H
  obtain ⟨M, hM⟩ : ∃ M, s.fl.eraseIdx k = M := ⟨_, rfl⟩
  rw [hM] at H
  have hml : M.length + 1 = s.fl.length := by rw [← hM, List.length_eraseIdx_of_lt hk]; omega
  have hz := rows_length M
  have HMM := Lib.hid hM
  have HNA : Hid (af1 = none → M.length = 0) := Lib.hid (fun h => row_none (i := 2) H rfl h)
  have hle : M.length ≤ cf1 := by have h5 : (rows M).length ≤ cf1 * 5 := H.le (i := 2) rfl; rw [hz] at h5; omega
  obtain ⟨ofs, hofs, hsl⟩ := slice_lo2 (P := Try.prog) S27 af1 M.length cf1 t .i64 (by omega) hle
  have HO := Lib.hid hofs
  have HS := Lib.hid hsl
  have HLE : Hid (ofs + (M.length - t) * 5 ≤ M.length * 5) := Lib.hid (by rcases hofs with h | h <;> omega)
  clear hofs hsl hM
  (with_reducible refine gRg ?_)
  apply wp_post6 (Post := fun (q0 : Nat) (a1 : Option Nat) (c1 : Nat) (b9 : Nat) (a2 : Option Nat) (c2 : Nat) w' => Hp w0 D (⟨some b7, [.int .i64 q1, .int .i64 q2, .int .i64 q3, .string q4, .int .i64 q5], 35, 5⟩ :: ⟨a2, rows (M.take t) ++ [.int .i64 q1, .int .i64 q2, .int .i64 q3, .string q4, .int .i64 q5], 35, c2 * 5⟩ :: ⟨some p, netC (.slice (adr af1 0) M.length cf1) (.slice (adr ah 0) s.hd.length ch) s, 49, 30⟩ :: ⟨af1, rows M, 35, cf1 * 5⟩ :: eR ah ch s.hd :: R) w')
  · refine wp_region_B (fun u => Hp w0 D (⟨some b7, [.int .i64 q1, .int .i64 q2, .int .i64 q3, .string q4, .int .i64 q5], 35, 5⟩ :: ⟨some p, netC (.slice (adr af1 0) M.length cf1) (.slice (adr ah 0) s.hd.length ch) s, 49, 30⟩ :: ⟨af1, rows M, 35, cf1 * 5⟩ :: eR ah ch s.hd :: R) u) rfl ?_
    replace H := H.drew
    (refine bTakeL 1 rfl (by decide +kernel) (H) rfl (by intro u hu; go_simp; rfl) ?_; (try simp only [Act.put, List.setIfInBounds_toArray, List.set_cons_succ, List.set_cons_zero])); (refine bTakeL 5 rfl (by decide +kernel) (H) rfl (by intro u hu; go_simp; rfl) ?_; (try simp only [Act.put, List.setIfInBounds_toArray, List.set_cons_succ, List.set_cons_zero])); (refine bTakeL 8 rfl (by decide +kernel) (H) rfl (fun u hu => run_ldA 0 hu rfl rfl rfl T35 (Nat.le_of_ble_eq_true rfl) rfl) ?_; (try simp only [Act.put, List.setIfInBounds_toArray, List.set_cons_succ, List.set_cons_zero])); (refine bTakeL 2 rfl (by decide +kernel) (H) rfl (by intro u hu; go_simp; rfl) ?_; (try simp only [Act.put, List.setIfInBounds_toArray, List.set_cons_succ, List.set_cons_zero])); (refine bTakeL 3 rfl (by decide +kernel) (H) rfl (by intro u hu; go_simp; rfl) ?_; (try simp only [Act.put, List.setIfInBounds_toArray, List.set_cons_succ, List.set_cons_zero])); (refine bTakeL 4 rfl (by decide +kernel) (H) rfl (fun u hu => run_ld 1 hu rfl rfl rfl T27 rfl) ?_; (try simp only [Act.put, List.setIfInBounds_toArray, List.set_cons_succ, List.set_cons_zero])); (refine bTakeL 6 rfl (by decide +kernel) (H) rfl (fun u _ => run_slp (fun w => slice_hi S27 _ _ _ _ t _ (by omega) w)) ?_; (try simp only [Act.put, List.setIfInBounds_toArray, List.set_cons_succ, List.set_cons_zero])); (refine bTwoL 0 9 (by decide +kernel) rfl rfl rfl rfl ?y100_0 ?y100_9); (case' y100_0 => (intro K hK; refine oBs0 S27 H ?_; clear H; intro q0 w1 H; refine hK _ _ ((H).dropAt 0) ?_; clear hK K; (try simp only [Act.put, List.setIfInBounds_toArray, List.set_cons_succ, List.set_cons_zero]); (refine bTwoL 7 9 (by decide +kernel) rfl rfl rfl rfl ?y101_7 ?y101_9); (case' y101_7 => (intro K hK; refine oAp 0 3 H rfl rfl rfl rfl S27 (by decide) (.inl rfl) (rfl) rfl (fun h9 => by have := HNA.out h9; omega) (by dsimp only; rw [hz]; omega) (rows_one _) (by unfold maxLen; omega) (by omega) ?_; clear H; intro a1 c1 w1 H h0; clear h0; simp only [List.set_cons_zero, List.set_cons_succ, List.nil_append, List.drop_zero, Nat.zero_add] at H ⊢; rw [rows_take_n] at H; refine hK _ _ ((H).dropAt 0) ?_; clear hK K; (try simp only [Act.put, List.setIfInBounds_toArray, List.set_cons_succ, List.set_cons_zero]); (refine bOneL 9 (by decide +kernel) rfl rfl ?_); (intro K hK; refine oBs1 (v := .agg (List.toArray [.int .i64 q1, .int .i64 q2, .int .i64 q3, .string q4, .int .i64 q5])) rfl S27 rfl (by decide) (by decide) H ?_; clear H; intro b9 w1 H; replace H : Hp w0 D (⟨some b9, [.int .i64 q1, .int .i64 q2, .int .i64 q3, .string q4, .int .i64 q5], 35, 5⟩ :: _) w1 := H; refine hK _ _ (((H).dropAt 0).dropAt 0) ?_; clear hK K; (try simp only [Act.put, List.setIfInBounds_toArray, List.set_cons_succ, List.set_cons_zero]); (refine bOneL 10 (by decide +kernel) rfl rfl ?_); (intro K hK; refine oAp 1 0 H rfl rfl rfl rfl S27 (by decide) (.inl rfl) (by dsimp only; rw [rows_length, List.length_take]; omega) rfl (fun h9 => by cases h9) (Nat.le_of_ble_eq_true rfl) (rfl) (by unfold maxLen; omega) (by omega) ?_; clear H; intro a2 c2 w1 H h0; clear h0; simp only [List.set_cons_zero, List.set_cons_succ, List.nil_append, List.drop_zero, Nat.zero_add] at H ⊢; simp only [Nat.one_mul, List.take_succ_cons, List.take_zero] at H; refine hK _ _ (((H).dropAt 0).dropAt 0) ?_; clear hK K; (try simp only [Act.put, List.setIfInBounds_toArray, List.set_cons_succ, List.set_cons_zero]); (refine bTakeL 11 rfl (by decide +kernel) (((H).dropAt 0).dropAt 0) rfl (by intro u hu; go_simp; rfl) ?_; (try simp only [Act.put, List.setIfInBounds_toArray, List.set_cons_succ, List.set_cons_zero])); (refine bDone (by decide +kernel) ?_); (exact ⟨rfl, q0, a1, c1, b9, a2, c2, rfl, ((((((((H).dropAt 0)).swap (A := [_, _, _, _]) (B := [_])).swap (A := [_, _, _, _]) (B := [_])).swap (A := [_, _, _, _]) (B := [_])).swap (A := [_, _, _]) (B := [_])).swap (A := [_, _, _, _]) (B := [_]))⟩))))); (case' y101_9 => (intro K hK; refine oBs1 (v := .agg (List.toArray [.int .i64 q1, .int .i64 q2, .int .i64 q3, .string q4, .int .i64 q5])) rfl S27 rfl (by decide) (by decide) H ?_; clear H; intro b9 w1 H; replace H : Hp w0 D (⟨some b9, [.int .i64 q1, .int .i64 q2, .int .i64 q3, .string q4, .int .i64 q5], 35, 5⟩ :: _) w1 := H; refine hK _ _ (((H).dropAt 0).dropAt 0) ?_; clear hK K; (try simp only [Act.put, List.setIfInBounds_toArray, List.set_cons_succ, List.set_cons_zero]); (refine bOneL 7 (by decide +kernel) rfl rfl ?_); (intro K hK; refine oAp 1 4 H rfl rfl rfl rfl S27 (by decide) (.inl rfl) (rfl) rfl (fun h9 => by have := HNA.out h9; omega) (by dsimp only; rw [hz]; omega) (rows_one _) (by unfold maxLen; omega) (by omega) ?_; clear H; intro a1 c1 w1 H h0; clear h0; simp only [List.set_cons_zero, List.set_cons_succ, List.nil_append, List.drop_zero, Nat.zero_add] at H ⊢; rw [rows_take_n] at H; refine hK _ _ (((H).dropAt 0).dropAt 0) ?_; clear hK K; (try simp only [Act.put, List.setIfInBounds_toArray, List.set_cons_succ, List.set_cons_zero]); (refine bOneL 10 (by decide +kernel) rfl rfl ?_); (intro K hK; refine oAp 1 0 H rfl rfl rfl rfl S27 (by decide) (.inl rfl) (by dsimp only; rw [rows_length, List.length_take]; omega) rfl (fun h9 => by cases h9) (Nat.le_of_ble_eq_true rfl) (rfl) (by unfold maxLen; omega) (by omega) ?_; clear H; intro a2 c2 w1 H h0; clear h0; simp only [List.set_cons_zero, List.set_cons_succ, List.nil_append, List.drop_zero, Nat.zero_add] at H ⊢; simp only [Nat.one_mul, List.take_succ_cons, List.take_zero] at H; refine hK _ _ (((H).dropAt 0).dropAt 0) ?_; clear hK K; (try simp only [Act.put, List.setIfInBounds_toArray, List.set_cons_succ, List.set_cons_zero]); (refine bTakeL 11 rfl (by decide +kernel) (((H).dropAt 0).dropAt 0) rfl (by intro u hu; go_simp; rfl) ?_; (try simp only [Act.put, List.setIfInBounds_toArray, List.set_cons_succ, List.set_cons_zero])); (refine bDone (by decide +kernel) ?_); (exact ⟨rfl, q0, a1, c1, b9, a2, c2, rfl, ((((((((H).dropAt 0)).swap (A := [_, _, _, _]) (B := [_])).swap (A := [_, _, _, _]) (B := [_])).swap (A := [_, _, _, _]) (B := [_])).swap (A := [_, _, _]) (B := [_])).swap (A := [_, _, _, _]) (B := [_]))⟩))))))); (case' y100_9 => (intro K hK; refine oBs1 (v := .agg (List.toArray [.int .i64 q1, .int .i64 q2, .int .i64 q3, .string q4, .int .i64 q5])) rfl S27 rfl (by decide) (by decide) H ?_; clear H; intro b9 w1 H; replace H : Hp w0 D (⟨some b9, [.int .i64 q1, .int .i64 q2, .int .i64 q3, .string q4, .int .i64 q5], 35, 5⟩ :: _) w1 := H; refine hK _ _ ((H).dropAt 0) ?_; clear hK K; (try simp only [Act.put, List.setIfInBounds_toArray, List.set_cons_succ, List.set_cons_zero]); (refine bOneL 0 (by decide +kernel) rfl rfl ?_); (intro K hK; refine oBs0 S27 H ?_; clear H; intro q0 w1 H; refine hK _ _ (((H).dropAt 0).dropAt 0) ?_; clear hK K; (try simp only [Act.put, List.setIfInBounds_toArray, List.set_cons_succ, List.set_cons_zero]); (refine bOneL 7 (by decide +kernel) rfl rfl ?_); (intro K hK; refine oAp 0 4 H rfl rfl rfl rfl S27 (by decide) (.inl rfl) (rfl) rfl (fun h9 => by have := HNA.out h9; omega) (by dsimp only; rw [hz]; omega) (rows_one _) (by unfold maxLen; omega) (by omega) ?_; clear H; intro a1 c1 w1 H h0; clear h0; simp only [List.set_cons_zero, List.set_cons_succ, List.nil_append, List.drop_zero, Nat.zero_add] at H ⊢; rw [rows_take_n] at H; refine hK _ _ (((H).dropAt 0).dropAt 0) ?_; clear hK K; (try simp only [Act.put, List.setIfInBounds_toArray, List.set_cons_succ, List.set_cons_zero]); (refine bOneL 10 (by decide +kernel) rfl rfl ?_); (intro K hK; refine oAp 0 1 H rfl rfl rfl rfl S27 (by decide) (.inl rfl) (by dsimp only; rw [rows_length, List.length_take]; omega) rfl (fun h9 => by cases h9) (Nat.le_of_ble_eq_true rfl) (rfl) (by unfold maxLen; omega) (by omega) ?_; clear H; intro a2 c2 w1 H h0; clear h0; simp only [List.set_cons_zero, List.set_cons_succ, List.nil_append, List.drop_zero, Nat.zero_add] at H ⊢; simp only [Nat.one_mul, List.take_succ_cons, List.take_zero] at H; refine hK _ _ (((H).dropAt 0).dropAt 0) ?_; clear hK K; (try simp only [Act.put, List.setIfInBounds_toArray, List.set_cons_succ, List.set_cons_zero]); (refine bTakeL 11 rfl (by decide +kernel) (((H).dropAt 0).dropAt 0) rfl (by intro u hu; go_simp; rfl) ?_; (try simp only [Act.put, List.setIfInBounds_toArray, List.set_cons_succ, List.set_cons_zero])); (refine bDone (by decide +kernel) ?_); (exact ⟨rfl, q0, a1, c1, b9, a2, c2, rfl, ((((((((H).dropAt 1)).swap (A := [_, _, _, _]) (B := [_])).swap (A := [_, _, _, _]) (B := [_])).swap (A := [_, _, _, _]) (B := [_])).swap (A := [_, _, _]) (B := [_])).swap (A := [_, _, _, _]) (B := [_]))⟩))))))
  clear H
  intro q0 a1 c1 b9 a2 c2 w1 H
  
  go_wp2_with (first
    | ((with_reducible refine gLd ?_); refine eLd H rfl rfl ?_; refine kLd 2 rfl rfl T27 rfl ?_)
    | ((with_reducible refine gSl ?_); refine wl_sl rfl HS.out ?_)
    | ((with_reducible refine gAp ?_); refine wl_append 1 3 rfl H rfl rfl rfl rfl S27 (by decide) (Or.inl rfl) (by dsimp only; rw [List.length_append, rows_length, List.length_take]; simp only [List.length_cons, List.length_nil]; omega) rfl (fun h => by have := HNA.out h; omega) (by dsimp only; rw [hz]; exact HLE.out) (rows_one _) (by unfold maxLen; omega) (by omega) ?_; clear H; intro a3 c3 w1 H h0; clear h0; simp only [List.set_cons_zero, List.set_cons_succ] at H)
    | ((with_reducible refine gSt ?_); first | (refine eSt H rfl rfl ⟨.agg (List.toArray _), rfl, ?_⟩; refine kStA 0 rfl rfl T35 rfl rfl (Nat.le_of_ble_eq_true rfl) ?_; clear H; intro w1 H; simp only [List.set_cons_zero, List.set_cons_succ] at H; (try simp only [lay, List.take_zero, List.nil_append, List.length_cons, List.length_nil, Nat.zero_add, Nat.reduceAdd, List.drop_succ_cons, List.drop_zero, List.drop_nil, List.append_nil] at H)) | (refine eSt H rfl rfl ⟨.slice _ _ _, rfl, ?_⟩; refine kSt 2 rfl rfl T27 rfl (Nat.le_of_ble_eq_true rfl) ?_; clear H; intro w1 H; simp only [List.set_cons_zero, List.set_cons_succ] at H))
    | ((with_reducible refine gLd ?_); refine eLd H rfl rfl ?_; first | (refine kLdB 0 rfl rfl (by first | exact T3 | exact T4 | exact T9 | exact T30 | exact T27 | exact T51 | exact T35 | exact T29 | exact T63 | exact T49) rfl ?_; intro rb hrb; cases rb <;> (first | (exfalso; simp at hrb; done) | ((try simp only [decide_eq_true_eq, decide_eq_false_iff_not, beq_iff_eq, beq_eq_false_iff_ne, ne_eq, bne_iff_ne, bne_eq_false_iff_eq, Bool.not_eq_true', Bool.not_eq_false', gt_iff_lt, ge_iff_le, Int.not_lt, Int.not_le, Decidable.not_not] at hrb); (try subst hrb); (try (exfalso; omega))))) | (refine kLd 0 rfl rfl (by first | exact T3 | exact T4 | exact T9 | exact T30 | exact T27 | exact T51 | exact T35 | exact T29 | exact T63 | exact T49) rfl ?_) | (refine kLdA 0 rfl rfl (by first | exact T3 | exact T4 | exact T9 | exact T30 | exact T27 | exact T51 | exact T35 | exact T29 | exact T63 | exact T49) (Nat.le_of_ble_eq_true rfl) (by simp only [Pk.cells, netC, Pk.zero, List.drop_succ_cons, List.drop_zero, List.take_succ_cons, List.take_zero, List.set_cons_zero, List.set_cons_succ]; rfl) ?_))
    | ((with_reducible refine gSt ?_); (first | (refine eSt H rfl rfl ⟨.int _ _, rfl, ?_⟩) | (refine eSt H rfl rfl ⟨.bool _, rfl, ?_⟩) | (refine eSt H rfl rfl ⟨.slice _ _ _, rfl, ?_⟩) | (refine eSt H rfl rfl ⟨.pointer _, rfl, ?_⟩) | (refine eSt H rfl rfl ⟨.string _, rfl, ?_⟩) | (refine eSt H rfl rfl ⟨.agg (List.toArray _), rfl, ?_⟩)); (first | (refine kSt 0 rfl rfl (by first | exact T3 | exact T4 | exact T9 | exact T30 | exact T27 | exact T51 | exact T35 | exact T29 | exact T63 | exact T49) rfl (Nat.le_of_ble_eq_true rfl) ?_) | (refine kStA 0 rfl rfl (by first | exact T3 | exact T4 | exact T9 | exact T30 | exact T27 | exact T51 | exact T35 | exact T29 | exact T63 | exact T49) rfl rfl (Nat.le_of_ble_eq_true rfl) ?_)); clear H; intro w1 H; simp only [List.set_cons_zero, List.set_cons_succ] at H; (try simp only [lay, List.take_zero, List.nil_append, List.length_cons, List.length_nil, Nat.zero_add, Nat.reduceAdd, List.drop_succ_cons, List.drop_zero, List.drop_nil, List.append_nil, List.take_succ_cons, List.cons_append] at H))
    | ((with_reducible refine gBx ?_); refine bxA H rfl rfl rfl ?_; clear H; intro b1 w1 H)
    | ((with_reducible refine gBs ?_); (first | (refine bs1 H rfl (by first | exact S27 | exact S51) rfl (Nat.le_of_ble_eq_true rfl) (Nat.le_of_ble_eq_true rfl) rfl ?_) | (refine wl_buildSlice0 rfl (by first | exact S27 | exact S51) H ?_)); clear H; intro b1 w1 H)
    | ((with_reducible refine gEq ?_); (first | (refine wl_cmp rfl rfl rfl rfl ?_) | (refine wl_scmp rfl rfl rfl rfl ?_)); intro rb hrb; cases rb <;> (first | (exfalso; simp at hrb; done) | ((try simp only [decide_eq_true_eq, decide_eq_false_iff_not, beq_iff_eq, beq_eq_false_iff_ne, ne_eq, bne_iff_ne, bne_eq_false_iff_eq, Bool.not_eq_true', Bool.not_eq_false', gt_iff_lt, ge_iff_le, Int.not_lt, Int.not_le, Decidable.not_not] at hrb); (try subst hrb); (try (exfalso; omega)))))
    | ((with_reducible refine gEq ?_); (first | (refine wl_eqAgg G35 (eq35 9998 ⟨_, _, _, _, _⟩ ⟨_, _, _, _, _⟩) rfl rfl rfl ?_) | (refine wl_neAgg G35 (eq35 9998 ⟨_, _, _, _, _⟩ ⟨_, _, _, _, _⟩) rfl rfl rfl ?_)); intro rb hrb; cases rb <;> (try simp only [Bool.not_true, Bool.not_false]))
    | ((with_reducible refine gAl ?_); (first | (refine al H Z35 rfl rfl ?_) | (refine al H Z29 rfl rfl ?_)); clear H; intro b1 w1 H)
    | ((with_reducible refine gRg ?_); refine wp_region_text rfl (by decide +kernel) ?_; replace H := H.drew)
    | ((with_reducible refine EndQ.intro ?_ ?_); (· kernel_rfl)))
  go_ret
  refine ⟨a3, c3, rfl, ?_⟩
  have e1 := rows_ins2 (l := M) (t := t) (o := ofs) (m := M.length - t) (p := ⟨q1, q2, q3, q4, q5⟩) (by omega) (HO.out.imp id And.right) rfl
  have e2 : t + 1 + (M.length - t) = (M.insertIdx t ⟨q1, q2, q3, q4, q5⟩).length := by rw [List.length_insertIdx_of_le_length (by omega)]; omega
  simp only [Pk.cells] at e1
  rw [e1, e2] at H
  rw [HMM.out]
  have H2 := ((H.drop.dropAt 2).swap (A := [_]) (B := [_]))
  exact H2
theorem rMove_spec0 : True := trivial
set_option maxHeartbeats 4000000 in
theorem rMove_no1 {w0 w : World} {D : Nat → Prop} {R : List Ent} {p : Nat} {af ah : Option Nat} {cf ch : Nat} {s : St} (H : Hp w0 D (eN 49 p af ah cf ch (s) :: eR af cf (s).fl :: eR ah ch (s).hd :: R) w) (i j : Int) (hpl : placeB s i = false) :
    Calls Try.prog 37 #[.pointer (some ⟨p, 0, none⟩), .int .i64 i, .int .i64 j] w fun e w' => e = .returned (.int .i64 7) ∧ Hp w0 D (eN 49 p af ah cf ch (s) :: eR af cf (s).fl :: eR ah ch (s).hd :: R) w' := by
  have HPL := Lib.hid hpl
  clear hpl
  try simp only [Pk.cells, netC, Pk.zero]
  go_enter Try.func37, Try.ntmps37
  go_wp2_with (first
    | (go_at_call 50; refine (rPlace_spec H _).mono ?_; rintro e w1 ⟨rfl, H1⟩; clear H; have H := H1; clear H1; rw [HPL.out]; (try simp only [Pk.cells, netC, Pk.zero]))
    | ((with_reducible refine gLd ?_); refine eLd H rfl rfl ?_; first | (refine kLdB 0 rfl rfl (by first | exact T3 | exact T4 | exact T9 | exact T30 | exact T27 | exact T51 | exact T35 | exact T29 | exact T63 | exact T49) rfl ?_; intro rb hrb; cases rb <;> (first | (exfalso; simp at hrb; done) | ((try simp only [decide_eq_true_eq, decide_eq_false_iff_not, beq_iff_eq, beq_eq_false_iff_ne, ne_eq, bne_iff_ne, bne_eq_false_iff_eq, Bool.not_eq_true', Bool.not_eq_false', gt_iff_lt, ge_iff_le, Int.not_lt, Int.not_le, Decidable.not_not] at hrb); (try subst hrb); (try (exfalso; omega))))) | (refine kLd 0 rfl rfl (by first | exact T3 | exact T4 | exact T9 | exact T30 | exact T27 | exact T51 | exact T35 | exact T29 | exact T63 | exact T49) rfl ?_) | (refine kLdA 0 rfl rfl (by first | exact T3 | exact T4 | exact T9 | exact T30 | exact T27 | exact T51 | exact T35 | exact T29 | exact T63 | exact T49) (Nat.le_of_ble_eq_true rfl) (by simp only [Pk.cells, netC, Pk.zero, List.drop_succ_cons, List.drop_zero, List.take_succ_cons, List.take_zero, List.set_cons_zero, List.set_cons_succ]; rfl) ?_))
    | ((with_reducible refine gSt ?_); (first | (refine eSt H rfl rfl ⟨.int _ _, rfl, ?_⟩) | (refine eSt H rfl rfl ⟨.bool _, rfl, ?_⟩) | (refine eSt H rfl rfl ⟨.slice _ _ _, rfl, ?_⟩) | (refine eSt H rfl rfl ⟨.pointer _, rfl, ?_⟩) | (refine eSt H rfl rfl ⟨.string _, rfl, ?_⟩) | (refine eSt H rfl rfl ⟨.agg (List.toArray _), rfl, ?_⟩)); (first | (refine kSt 0 rfl rfl (by first | exact T3 | exact T4 | exact T9 | exact T30 | exact T27 | exact T51 | exact T35 | exact T29 | exact T63 | exact T49) rfl (Nat.le_of_ble_eq_true rfl) ?_) | (refine kStA 0 rfl rfl (by first | exact T3 | exact T4 | exact T9 | exact T30 | exact T27 | exact T51 | exact T35 | exact T29 | exact T63 | exact T49) rfl rfl (Nat.le_of_ble_eq_true rfl) ?_)); clear H; intro w1 H; simp only [List.set_cons_zero, List.set_cons_succ] at H; (try simp only [lay, List.take_zero, List.nil_append, List.length_cons, List.length_nil, Nat.zero_add, Nat.reduceAdd, List.drop_succ_cons, List.drop_zero, List.drop_nil, List.append_nil, List.take_succ_cons, List.cons_append] at H))
    | ((with_reducible refine gBx ?_); refine bxA H rfl rfl rfl ?_; clear H; intro b1 w1 H)
    | ((with_reducible refine gBs ?_); (first | (refine bs1 H rfl (by first | exact S27 | exact S51) rfl (Nat.le_of_ble_eq_true rfl) (Nat.le_of_ble_eq_true rfl) rfl ?_) | (refine wl_buildSlice0 rfl (by first | exact S27 | exact S51) H ?_)); clear H; intro b1 w1 H)
    | ((with_reducible refine gEq ?_); (first | (refine wl_cmp rfl rfl rfl rfl ?_) | (refine wl_scmp rfl rfl rfl rfl ?_)); intro rb hrb; cases rb <;> (first | (exfalso; simp at hrb; done) | ((try simp only [decide_eq_true_eq, decide_eq_false_iff_not, beq_iff_eq, beq_eq_false_iff_ne, ne_eq, bne_iff_ne, bne_eq_false_iff_eq, Bool.not_eq_true', Bool.not_eq_false', gt_iff_lt, ge_iff_le, Int.not_lt, Int.not_le, Decidable.not_not] at hrb); (try subst hrb); (try (exfalso; omega)))))
    | ((with_reducible refine gEq ?_); (first | (refine wl_eqAgg G35 (eq35 9998 ⟨_, _, _, _, _⟩ ⟨_, _, _, _, _⟩) rfl rfl rfl ?_) | (refine wl_neAgg G35 (eq35 9998 ⟨_, _, _, _, _⟩ ⟨_, _, _, _, _⟩) rfl rfl rfl ?_)); intro rb hrb; cases rb <;> (try simp only [Bool.not_true, Bool.not_false]))
    | ((with_reducible refine gAl ?_); (first | (refine al H Z35 rfl rfl ?_) | (refine al H Z29 rfl rfl ?_)); clear H; intro b1 w1 H)
    | ((with_reducible refine gRg ?_); refine wp_region_text rfl (by decide +kernel) ?_; replace H := H.drew)
    | ((with_reducible refine EndQ.intro ?_ ?_); (· kernel_rfl)))
  all_goals go_ret
  all_goals exact ⟨rfl, H⟩
set_option maxHeartbeats 4000000 in
theorem rMove_no2 {w0 w : World} {D : Nat → Prop} {R : List Ent} {p : Nat} {af ah : Option Nat} {cf ch : Nat} {s : St} (H : Hp w0 D (eN 49 p af ah cf ch (s) :: eR af cf (s).fl :: eR ah ch (s).hd :: R) w) (i j : Int) (hpl : placeB s i = true) (hpl2 : placeB s j = false) :
    Calls Try.prog 37 #[.pointer (some ⟨p, 0, none⟩), .int .i64 i, .int .i64 j] w fun e w' => e = .returned (.int .i64 7) ∧ Hp w0 D (eN 49 p af ah cf ch (s) :: eR af cf (s).fl :: eR ah ch (s).hd :: R) w' := by
  have HPL := Lib.hid hpl
  have HPL2 := Lib.hid hpl2
  clear hpl hpl2
  try simp only [Pk.cells, netC, Pk.zero]
  go_enter Try.func37, Try.ntmps37
  go_wp2_with (first
    | (first | (go_at_call 50; refine (rPlace_spec H _).mono ?_; rintro e w1 ⟨rfl, H1⟩; clear H; have H := H1; clear H1; rw [HPL.out]; (try simp only [Pk.cells, netC, Pk.zero])) | (go_at_call 50; refine (rPlace_spec H _).mono ?_; rintro e w1 ⟨rfl, H1⟩; clear H; have H := H1; clear H1; rw [HPL2.out]; (try simp only [Pk.cells, netC, Pk.zero])))
    | ((with_reducible refine gLd ?_); refine eLd H rfl rfl ?_; first | (refine kLdB 0 rfl rfl (by first | exact T3 | exact T4 | exact T9 | exact T30 | exact T27 | exact T51 | exact T35 | exact T29 | exact T63 | exact T49) rfl ?_; intro rb hrb; cases rb <;> (first | (exfalso; simp at hrb; done) | ((try simp only [decide_eq_true_eq, decide_eq_false_iff_not, beq_iff_eq, beq_eq_false_iff_ne, ne_eq, bne_iff_ne, bne_eq_false_iff_eq, Bool.not_eq_true', Bool.not_eq_false', gt_iff_lt, ge_iff_le, Int.not_lt, Int.not_le, Decidable.not_not] at hrb); (try subst hrb); (try (exfalso; omega))))) | (refine kLd 0 rfl rfl (by first | exact T3 | exact T4 | exact T9 | exact T30 | exact T27 | exact T51 | exact T35 | exact T29 | exact T63 | exact T49) rfl ?_) | (refine kLdA 0 rfl rfl (by first | exact T3 | exact T4 | exact T9 | exact T30 | exact T27 | exact T51 | exact T35 | exact T29 | exact T63 | exact T49) (Nat.le_of_ble_eq_true rfl) (by simp only [Pk.cells, netC, Pk.zero, List.drop_succ_cons, List.drop_zero, List.take_succ_cons, List.take_zero, List.set_cons_zero, List.set_cons_succ]; rfl) ?_))
    | ((with_reducible refine gSt ?_); (first | (refine eSt H rfl rfl ⟨.int _ _, rfl, ?_⟩) | (refine eSt H rfl rfl ⟨.bool _, rfl, ?_⟩) | (refine eSt H rfl rfl ⟨.slice _ _ _, rfl, ?_⟩) | (refine eSt H rfl rfl ⟨.pointer _, rfl, ?_⟩) | (refine eSt H rfl rfl ⟨.string _, rfl, ?_⟩) | (refine eSt H rfl rfl ⟨.agg (List.toArray _), rfl, ?_⟩)); (first | (refine kSt 0 rfl rfl (by first | exact T3 | exact T4 | exact T9 | exact T30 | exact T27 | exact T51 | exact T35 | exact T29 | exact T63 | exact T49) rfl (Nat.le_of_ble_eq_true rfl) ?_) | (refine kStA 0 rfl rfl (by first | exact T3 | exact T4 | exact T9 | exact T30 | exact T27 | exact T51 | exact T35 | exact T29 | exact T63 | exact T49) rfl rfl (Nat.le_of_ble_eq_true rfl) ?_)); clear H; intro w1 H; simp only [List.set_cons_zero, List.set_cons_succ] at H; (try simp only [lay, List.take_zero, List.nil_append, List.length_cons, List.length_nil, Nat.zero_add, Nat.reduceAdd, List.drop_succ_cons, List.drop_zero, List.drop_nil, List.append_nil, List.take_succ_cons, List.cons_append] at H))
    | ((with_reducible refine gBx ?_); refine bxA H rfl rfl rfl ?_; clear H; intro b1 w1 H)
    | ((with_reducible refine gBs ?_); (first | (refine bs1 H rfl (by first | exact S27 | exact S51) rfl (Nat.le_of_ble_eq_true rfl) (Nat.le_of_ble_eq_true rfl) rfl ?_) | (refine wl_buildSlice0 rfl (by first | exact S27 | exact S51) H ?_)); clear H; intro b1 w1 H)
    | ((with_reducible refine gEq ?_); (first | (refine wl_cmp rfl rfl rfl rfl ?_) | (refine wl_scmp rfl rfl rfl rfl ?_)); intro rb hrb; cases rb <;> (first | (exfalso; simp at hrb; done) | ((try simp only [decide_eq_true_eq, decide_eq_false_iff_not, beq_iff_eq, beq_eq_false_iff_ne, ne_eq, bne_iff_ne, bne_eq_false_iff_eq, Bool.not_eq_true', Bool.not_eq_false', gt_iff_lt, ge_iff_le, Int.not_lt, Int.not_le, Decidable.not_not] at hrb); (try subst hrb); (try (exfalso; omega)))))
    | ((with_reducible refine gEq ?_); (first | (refine wl_eqAgg G35 (eq35 9998 ⟨_, _, _, _, _⟩ ⟨_, _, _, _, _⟩) rfl rfl rfl ?_) | (refine wl_neAgg G35 (eq35 9998 ⟨_, _, _, _, _⟩ ⟨_, _, _, _, _⟩) rfl rfl rfl ?_)); intro rb hrb; cases rb <;> (try simp only [Bool.not_true, Bool.not_false]))
    | ((with_reducible refine gAl ?_); (first | (refine al H Z35 rfl rfl ?_) | (refine al H Z29 rfl rfl ?_)); clear H; intro b1 w1 H)
    | ((with_reducible refine gRg ?_); refine wp_region_text rfl (by decide +kernel) ?_; replace H := H.drew)
    | ((with_reducible refine EndQ.intro ?_ ?_); (· kernel_rfl)))
  all_goals go_ret
  all_goals exact ⟨rfl, H⟩
theorem rMove_spec {w0 w : World} {D : Nat → Prop} {R : List Ent} {p : Nat} {af ah : Option Nat} {cf ch : Nat} {s : St} (H : Hp w0 D (eN 49 p af ah cf ch (s) :: eR af cf (s).fl :: eR ah ch (s).hd :: R) w) (i j : Int) (hl : s.fl.length ≤ 100000) : Calls Try.prog 37 #[.pointer (some ⟨p, 0, none⟩), .int .i64 i, .int .i64 j] w fun e w' => ∃ af' cf', e = .returned (.int .i64 (s.move i j).2) ∧ Hp w0 D (eN 49 p af' ah cf' ch ((s.move i j).1) :: eR af' cf' ((s.move i j).1).fl :: eR ah ch ((s.move i j).1).hd :: R) w' := by
  by_cases hp : placeB s i = true
  · by_cases hp2 : placeB s j = true
    · obtain ⟨k, rfl, hk⟩ := place_nat hp
      obtain ⟨t, rfl, ht⟩ := place_nat hp2
      have e1 : s.move k t = ({ s with fl := (s.fl.eraseIdx k).insertIdx t (s.pk k) }, 0) := by
        unfold St.move
        rw [if_neg (by simp [hp, hp2])]
        rfl
      rw [e1]
      exact rMove_ok H k t hk ht hl
    · have hp2 : placeB s j = false := by simpa using hp2
      have e1 : s.move i j = (s, 7) := by simp [St.move, hp2]
      rw [e1]
      exact (rMove_no2 H i j hp hp2).mono fun e w' h => ⟨af, cf, h⟩
  · have hp : placeB s i = false := by simpa using hp
    have e1 : s.move i j = (s, 7) := by simp [St.move, hp]
    rw [e1]
    exact (rMove_no1 H i j hp).mono fun e w' h => ⟨af, cf, h⟩
set_option maxHeartbeats 4000000 in
theorem rTick_spec {w0 w : World} {D : Nat → Prop} {R : List Ent} {p : Nat} {af ah : Option Nat} {cf ch : Nat} {s : St} (H : Hp w0 D (eN 49 p af ah cf ch (s) :: eR af cf (s).fl :: eR ah ch (s).hd :: R) w) (hl : s.fl.length ≤ 100000) (hok : s.ok) :
    Calls Try.prog 39 #[.pointer (some ⟨p, 0, none⟩)] w fun e w' => e = .returned (.tuple #[]) ∧ Hp w0 D (eN 49 p af ah cf ch (s.tick) :: eR af cf (s.tick).fl :: eR ah ch (s.tick).hd :: R) w' := by
  have HO := Lib.hid hok
  clear hok
  try simp only [Pk.cells, netC, Pk.zero]
  go_enter Try.func39, Try.ntmps39
  go_wp2_with (first
    | ((with_reducible refine gLd ?_); refine eLd H rfl rfl ?_; first | (refine kLdB 0 rfl rfl (by first | exact T3 | exact T4 | exact T9 | exact T30 | exact T27 | exact T51 | exact T35 | exact T29 | exact T63 | exact T49) rfl ?_; intro rb hrb; cases rb <;> (first | (exfalso; simp at hrb; done) | ((try simp only [decide_eq_true_eq, decide_eq_false_iff_not, beq_iff_eq, beq_eq_false_iff_ne, ne_eq, bne_iff_ne, bne_eq_false_iff_eq, Bool.not_eq_true', Bool.not_eq_false', gt_iff_lt, ge_iff_le, Int.not_lt, Int.not_le, Decidable.not_not] at hrb); (try subst hrb); (try (exfalso; omega))))) | (refine kLdB 1 rfl rfl (by first | exact T3 | exact T4 | exact T9 | exact T30 | exact T27 | exact T51 | exact T35 | exact T29 | exact T63 | exact T49) rfl ?_; intro rb hrb; cases rb <;> (first | (exfalso; simp at hrb; done) | ((try simp only [decide_eq_true_eq, decide_eq_false_iff_not, beq_iff_eq, beq_eq_false_iff_ne, ne_eq, bne_iff_ne, bne_eq_false_iff_eq, Bool.not_eq_true', Bool.not_eq_false', gt_iff_lt, ge_iff_le, Int.not_lt, Int.not_le, Decidable.not_not] at hrb); (try subst hrb); (try (exfalso; omega))))) | (refine kLd 0 rfl rfl (by first | exact T3 | exact T4 | exact T9 | exact T30 | exact T27 | exact T51 | exact T35 | exact T29 | exact T63 | exact T49) rfl ?_) | (refine kLd 1 rfl rfl (by first | exact T3 | exact T4 | exact T9 | exact T30 | exact T27 | exact T51 | exact T35 | exact T29 | exact T63 | exact T49) rfl ?_) | (refine kLdA 0 rfl rfl (by first | exact T3 | exact T4 | exact T9 | exact T30 | exact T27 | exact T51 | exact T35 | exact T29 | exact T63 | exact T49) (Nat.le_of_ble_eq_true rfl) (by simp only [Pk.cells, netC, Pk.zero, List.drop_succ_cons, List.drop_zero, List.take_succ_cons, List.take_zero, List.set_cons_zero, List.set_cons_succ]; rfl) ?_) | (refine kLdA 1 rfl rfl (by first | exact T3 | exact T4 | exact T9 | exact T30 | exact T27 | exact T51 | exact T35 | exact T29 | exact T63 | exact T49) (Nat.le_of_ble_eq_true rfl) (by simp only [Pk.cells, netC, Pk.zero, List.drop_succ_cons, List.drop_zero, List.take_succ_cons, List.take_zero, List.set_cons_zero, List.set_cons_succ]; rfl) ?_))
    | ((with_reducible refine gSt ?_); (first | (refine eSt H rfl rfl ⟨.int _ _, rfl, ?_⟩) | (refine eSt H rfl rfl ⟨.bool _, rfl, ?_⟩) | (refine eSt H rfl rfl ⟨.slice _ _ _, rfl, ?_⟩) | (refine eSt H rfl rfl ⟨.pointer _, rfl, ?_⟩) | (refine eSt H rfl rfl ⟨.string _, rfl, ?_⟩) | (refine eSt H rfl rfl ⟨.agg (List.toArray _), rfl, ?_⟩)); (first | (refine kSt 0 rfl rfl (by first | exact T3 | exact T4 | exact T9 | exact T30 | exact T27 | exact T51 | exact T35 | exact T29 | exact T63 | exact T49) rfl (Nat.le_of_ble_eq_true rfl) ?_) | (refine kSt 1 rfl rfl (by first | exact T3 | exact T4 | exact T9 | exact T30 | exact T27 | exact T51 | exact T35 | exact T29 | exact T63 | exact T49) rfl (Nat.le_of_ble_eq_true rfl) ?_) | (refine kStA 0 rfl rfl (by first | exact T3 | exact T4 | exact T9 | exact T30 | exact T27 | exact T51 | exact T35 | exact T29 | exact T63 | exact T49) rfl rfl (Nat.le_of_ble_eq_true rfl) ?_) | (refine kStA 1 rfl rfl (by first | exact T3 | exact T4 | exact T9 | exact T30 | exact T27 | exact T51 | exact T35 | exact T29 | exact T63 | exact T49) rfl rfl (Nat.le_of_ble_eq_true rfl) ?_)); clear H; intro w1 H; simp only [List.set_cons_zero, List.set_cons_succ] at H; (try simp only [lay, List.take_zero, List.nil_append, List.length_cons, List.length_nil, Nat.zero_add, Nat.reduceAdd, List.drop_succ_cons, List.drop_zero, List.drop_nil, List.append_nil, List.take_succ_cons, List.cons_append] at H))
    | ((with_reducible refine gBx ?_); refine bxA H rfl rfl rfl ?_; clear H; intro b1 w1 H)
    | ((with_reducible refine gBs ?_); (first | (refine bs1 H rfl (by first | exact S27 | exact S51) rfl (Nat.le_of_ble_eq_true rfl) (Nat.le_of_ble_eq_true rfl) rfl ?_) | (refine wl_buildSlice0 rfl (by first | exact S27 | exact S51) H ?_)); clear H; intro b1 w1 H)
    | ((with_reducible refine gEq ?_); (first | (refine wl_cmp rfl rfl rfl rfl ?_) | (refine wl_scmp rfl rfl rfl rfl ?_)); intro rb hrb; cases rb <;> (first | (exfalso; simp at hrb; done) | ((try simp only [decide_eq_true_eq, decide_eq_false_iff_not, beq_iff_eq, beq_eq_false_iff_ne, ne_eq, bne_iff_ne, bne_eq_false_iff_eq, Bool.not_eq_true', Bool.not_eq_false', gt_iff_lt, ge_iff_le, Int.not_lt, Int.not_le, Decidable.not_not] at hrb); (try subst hrb); (try (exfalso; omega)))))
    | ((with_reducible refine gEq ?_); (first | (refine wl_eqAgg G35 (eq35 9998 ⟨_, _, _, _, _⟩ ⟨_, _, _, _, _⟩) rfl rfl rfl ?_) | (refine wl_neAgg G35 (eq35 9998 ⟨_, _, _, _, _⟩ ⟨_, _, _, _, _⟩) rfl rfl rfl ?_)); intro rb hrb; cases rb <;> (try simp only [Bool.not_true, Bool.not_false]))
    | ((with_reducible refine gAl ?_); (first | (refine al H Z35 rfl rfl ?_) | (refine al H Z29 rfl rfl ?_)); clear H; intro b1 w1 H)
    | ((with_reducible refine gRg ?_); refine wp_region_text rfl (by decide +kernel) ?_; replace H := H.drew)
    | ((with_reducible refine EndQ.intro ?_ ?_); (· kernel_rfl)))
  go_loopg [2] s.fl.length (fun n v2 wr => ∃ k : Nat, k + n = s.fl.length ∧ v2 = .int .i64 k ∧ Hp w0 D (eN 49 p af ah cf ch s :: eR af cf ((s.fl.take k).map tk ++ s.fl.drop k) :: eR ah ch s.hd :: R) wr)
  case atStart => exact ⟨0, by omega, rfl, by simpa using H⟩
  case round =>
    clear H
    obtain ⟨k, hkn, rfl, H⟩ := hrel
    by_cases hk : k < s.fl.length
    · have hg : 0 < gk := by omega
      have HK := Lib.hid hkn
      clear hkn
      have hml : ((s.fl.take k).map tk ++ s.fl.drop k).length = s.fl.length := by simp; omega
      have hz := rows_length ((s.fl.take k).map tk ++ s.fl.drop k)
      obtain ⟨b, rfl⟩ := H.some_of (i := 1) rfl (by dsimp only; omega)
      have hle : s.fl.length ≤ cf := by have h5 : (rows ((s.fl.take k).map tk ++ s.fl.drop k)).length ≤ cf * 5 := H.le (i := 1) rfl; omega
      have hat := tick_at hk
      have hst := tick_set hk
      have hb := HO.out _ (List.getElem_mem hk)
      have HML := Lib.hid hml
      have HZ := Lib.hid hz
      clear hml hz
      generalize s.fl[k] = q at *
      obtain ⟨q1, q2, q3, q4, q5⟩ := q
      have hb2 : 0 ≤ q5 := hb.2.1
      have hb3 : q5 ≤ 1000 := hb.2.2
      clear hb
      have HA := Lib.hid hat
      generalize hm : (s.fl.take k).map tk ++ s.fl.drop k = M at *
      have hrl : (rows M).length = s.fl.length * 5 := by rw [rows_length, HML.out]
      have HQ : Hid ((rows M)[k * 5 + 4]? = some (.int .i64 q5)) := Lib.hid (rows_fl (r := 4) (by decide) HA.out)
      by_cases h0 : q5 = 0
      · have hsame : M.set k (tk ⟨q1, q2, q3, q4, q5⟩) = M := by
          have e9 : tk ⟨q1, q2, q3, q4, q5⟩ = ⟨q1, q2, q3, q4, q5⟩ := by subst h0; rfl
          rw [e9]
          apply List.ext_getElem?
          intro j
          by_cases hj : k = j
          · subst hj
            have h8 := (List.getElem?_eq_some_iff.1 HA.out).1
            rw [List.getElem?_set_self h8, HA.out]
          · rw [List.getElem?_set_ne hj]
        rw [hsame] at hst
        have HT := Lib.hid hst
        clear hat hst hsame hm
        subst h0
        go_wp2_with (first
    | ((with_reducible refine gLd ?_); refine eLd H rfl rfl ?_; first | (refine kLd 0 rfl rfl T27 rfl ?_) | (refine kLd 1 rfl rfl T3 HQ.out ?_))
    | ((with_reducible refine gSt ?_); refine eSt H rfl rfl ⟨.int .i64 _, rfl, ?_⟩; refine kSt 1 rfl rfl T3 rfl (by dsimp only; omega) ?_; clear H; intro w1 H; simp only [List.set_cons_zero, List.set_cons_succ] at H)
    | ((with_reducible refine gLd ?_); refine eLd H rfl rfl ?_; first | (refine kLdB 0 rfl rfl (by first | exact T3 | exact T4 | exact T9 | exact T30 | exact T27 | exact T51 | exact T35 | exact T29 | exact T63 | exact T49) rfl ?_; intro rb hrb; cases rb <;> (first | (exfalso; simp at hrb; done) | ((try simp only [decide_eq_true_eq, decide_eq_false_iff_not, beq_iff_eq, beq_eq_false_iff_ne, ne_eq, bne_iff_ne, bne_eq_false_iff_eq, Bool.not_eq_true', Bool.not_eq_false', gt_iff_lt, ge_iff_le, Int.not_lt, Int.not_le, Decidable.not_not] at hrb); (try subst hrb); (try (exfalso; omega))))) | (refine kLd 0 rfl rfl (by first | exact T3 | exact T4 | exact T9 | exact T30 | exact T27 | exact T51 | exact T35 | exact T29 | exact T63 | exact T49) rfl ?_) | (refine kLdA 0 rfl rfl (by first | exact T3 | exact T4 | exact T9 | exact T30 | exact T27 | exact T51 | exact T35 | exact T29 | exact T63 | exact T49) (Nat.le_of_ble_eq_true rfl) (by simp only [Pk.cells, netC, Pk.zero, List.drop_succ_cons, List.drop_zero, List.take_succ_cons, List.take_zero, List.set_cons_zero, List.set_cons_succ]; rfl) ?_))
    | ((with_reducible refine gSt ?_); (first | (refine eSt H rfl rfl ⟨.int _ _, rfl, ?_⟩) | (refine eSt H rfl rfl ⟨.bool _, rfl, ?_⟩) | (refine eSt H rfl rfl ⟨.slice _ _ _, rfl, ?_⟩) | (refine eSt H rfl rfl ⟨.pointer _, rfl, ?_⟩) | (refine eSt H rfl rfl ⟨.string _, rfl, ?_⟩) | (refine eSt H rfl rfl ⟨.agg (List.toArray _), rfl, ?_⟩)); (first | (refine kSt 0 rfl rfl (by first | exact T3 | exact T4 | exact T9 | exact T30 | exact T27 | exact T51 | exact T35 | exact T29 | exact T63 | exact T49) rfl (Nat.le_of_ble_eq_true rfl) ?_) | (refine kStA 0 rfl rfl (by first | exact T3 | exact T4 | exact T9 | exact T30 | exact T27 | exact T51 | exact T35 | exact T29 | exact T63 | exact T49) rfl rfl (Nat.le_of_ble_eq_true rfl) ?_)); clear H; intro w1 H; simp only [List.set_cons_zero, List.set_cons_succ] at H; (try simp only [lay, List.take_zero, List.nil_append, List.length_cons, List.length_nil, Nat.zero_add, Nat.reduceAdd, List.drop_succ_cons, List.drop_zero, List.drop_nil, List.append_nil, List.take_succ_cons, List.cons_append] at H))
    | ((with_reducible refine gBx ?_); refine bxA H rfl rfl rfl ?_; clear H; intro b1 w1 H)
    | ((with_reducible refine gBs ?_); (first | (refine bs1 H rfl (by first | exact S27 | exact S51) rfl (Nat.le_of_ble_eq_true rfl) (Nat.le_of_ble_eq_true rfl) rfl ?_) | (refine wl_buildSlice0 rfl (by first | exact S27 | exact S51) H ?_)); clear H; intro b1 w1 H)
    | ((with_reducible refine gEq ?_); (first | (refine wl_cmp rfl rfl rfl rfl ?_) | (refine wl_scmp rfl rfl rfl rfl ?_)); intro rb hrb; cases rb <;> (first | (exfalso; simp at hrb; done) | ((try simp only [decide_eq_true_eq, decide_eq_false_iff_not, beq_iff_eq, beq_eq_false_iff_ne, ne_eq, bne_iff_ne, bne_eq_false_iff_eq, Bool.not_eq_true', Bool.not_eq_false', gt_iff_lt, ge_iff_le, Int.not_lt, Int.not_le, Decidable.not_not] at hrb); (try subst hrb); (try (exfalso; omega)))))
    | ((with_reducible refine gEq ?_); (first | (refine wl_eqAgg G35 (eq35 9998 ⟨_, _, _, _, _⟩ ⟨_, _, _, _, _⟩) rfl rfl rfl ?_) | (refine wl_neAgg G35 (eq35 9998 ⟨_, _, _, _, _⟩ ⟨_, _, _, _, _⟩) rfl rfl rfl ?_)); intro rb hrb; cases rb <;> (try simp only [Bool.not_true, Bool.not_false]))
    | ((with_reducible refine gAl ?_); (first | (refine al H Z35 rfl rfl ?_) | (refine al H Z29 rfl rfl ?_)); clear H; intro b1 w1 H)
    | ((with_reducible refine gRg ?_); refine wp_region_text rfl (by decide +kernel) ?_; replace H := H.drew)
    | ((with_reducible refine EndQ.intro ?_ ?_); (· kernel_rfl)))
        go_roundg (gk - 1)
        all_goals first
          | omega
          | (refine ⟨k + 1, ?_, ?_, ?_⟩; (· have := HK.out; omega); (· go_num); (· rw [HT.out] at H; exact H))
      · have hq1 : 1 ≤ q5 := by omega
        have HT := Lib.hid hst
        clear hat hst hm h0
        have hwr : IntKind.i64.wrap (q5 - 1) = q5 - 1 := by rw [IntKind.wrap_i64]; omega
        have hmx : max (q5 - 1) 0 = q5 - 1 := by omega
        have HMX := Lib.hid hmx
        clear hmx
        go_wp2_with (first
    | ((with_reducible refine gLd ?_); refine eLd H rfl rfl ?_; first | (refine kLd 0 rfl rfl T27 rfl ?_) | (refine kLd 1 rfl rfl T3 HQ.out ?_))
    | ((with_reducible refine gSt ?_); refine eSt H rfl rfl ⟨.int .i64 _, rfl, ?_⟩; refine kSt 1 rfl rfl T3 rfl (by dsimp only; omega) ?_; clear H; intro w1 H; simp only [List.set_cons_zero, List.set_cons_succ] at H)
    | ((with_reducible refine gLd ?_); refine eLd H rfl rfl ?_; first | (refine kLdB 0 rfl rfl (by first | exact T3 | exact T4 | exact T9 | exact T30 | exact T27 | exact T51 | exact T35 | exact T29 | exact T63 | exact T49) rfl ?_; intro rb hrb; cases rb <;> (first | (exfalso; simp at hrb; done) | ((try simp only [decide_eq_true_eq, decide_eq_false_iff_not, beq_iff_eq, beq_eq_false_iff_ne, ne_eq, bne_iff_ne, bne_eq_false_iff_eq, Bool.not_eq_true', Bool.not_eq_false', gt_iff_lt, ge_iff_le, Int.not_lt, Int.not_le, Decidable.not_not] at hrb); (try subst hrb); (try (exfalso; omega))))) | (refine kLd 0 rfl rfl (by first | exact T3 | exact T4 | exact T9 | exact T30 | exact T27 | exact T51 | exact T35 | exact T29 | exact T63 | exact T49) rfl ?_) | (refine kLdA 0 rfl rfl (by first | exact T3 | exact T4 | exact T9 | exact T30 | exact T27 | exact T51 | exact T35 | exact T29 | exact T63 | exact T49) (Nat.le_of_ble_eq_true rfl) (by simp only [Pk.cells, netC, Pk.zero, List.drop_succ_cons, List.drop_zero, List.take_succ_cons, List.take_zero, List.set_cons_zero, List.set_cons_succ]; rfl) ?_))
    | ((with_reducible refine gSt ?_); (first | (refine eSt H rfl rfl ⟨.int _ _, rfl, ?_⟩) | (refine eSt H rfl rfl ⟨.bool _, rfl, ?_⟩) | (refine eSt H rfl rfl ⟨.slice _ _ _, rfl, ?_⟩) | (refine eSt H rfl rfl ⟨.pointer _, rfl, ?_⟩) | (refine eSt H rfl rfl ⟨.string _, rfl, ?_⟩) | (refine eSt H rfl rfl ⟨.agg (List.toArray _), rfl, ?_⟩)); (first | (refine kSt 0 rfl rfl (by first | exact T3 | exact T4 | exact T9 | exact T30 | exact T27 | exact T51 | exact T35 | exact T29 | exact T63 | exact T49) rfl (Nat.le_of_ble_eq_true rfl) ?_) | (refine kStA 0 rfl rfl (by first | exact T3 | exact T4 | exact T9 | exact T30 | exact T27 | exact T51 | exact T35 | exact T29 | exact T63 | exact T49) rfl rfl (Nat.le_of_ble_eq_true rfl) ?_)); clear H; intro w1 H; simp only [List.set_cons_zero, List.set_cons_succ] at H; (try simp only [lay, List.take_zero, List.nil_append, List.length_cons, List.length_nil, Nat.zero_add, Nat.reduceAdd, List.drop_succ_cons, List.drop_zero, List.drop_nil, List.append_nil, List.take_succ_cons, List.cons_append] at H))
    | ((with_reducible refine gBx ?_); refine bxA H rfl rfl rfl ?_; clear H; intro b1 w1 H)
    | ((with_reducible refine gBs ?_); (first | (refine bs1 H rfl (by first | exact S27 | exact S51) rfl (Nat.le_of_ble_eq_true rfl) (Nat.le_of_ble_eq_true rfl) rfl ?_) | (refine wl_buildSlice0 rfl (by first | exact S27 | exact S51) H ?_)); clear H; intro b1 w1 H)
    | ((with_reducible refine gEq ?_); (first | (refine wl_cmp rfl rfl rfl rfl ?_) | (refine wl_scmp rfl rfl rfl rfl ?_)); intro rb hrb; cases rb <;> (first | (exfalso; simp at hrb; done) | ((try simp only [decide_eq_true_eq, decide_eq_false_iff_not, beq_iff_eq, beq_eq_false_iff_ne, ne_eq, bne_iff_ne, bne_eq_false_iff_eq, Bool.not_eq_true', Bool.not_eq_false', gt_iff_lt, ge_iff_le, Int.not_lt, Int.not_le, Decidable.not_not] at hrb); (try subst hrb); (try (exfalso; omega)))))
    | ((with_reducible refine gEq ?_); (first | (refine wl_eqAgg G35 (eq35 9998 ⟨_, _, _, _, _⟩ ⟨_, _, _, _, _⟩) rfl rfl rfl ?_) | (refine wl_neAgg G35 (eq35 9998 ⟨_, _, _, _, _⟩ ⟨_, _, _, _, _⟩) rfl rfl rfl ?_)); intro rb hrb; cases rb <;> (try simp only [Bool.not_true, Bool.not_false]))
    | ((with_reducible refine gAl ?_); (first | (refine al H Z35 rfl rfl ?_) | (refine al H Z29 rfl rfl ?_)); clear H; intro b1 w1 H)
    | ((with_reducible refine gRg ?_); refine wp_region_text rfl (by decide +kernel) ?_; replace H := H.drew)
    | ((with_reducible refine EndQ.intro ?_ ?_); (· kernel_rfl)))
        go_roundg (gk - 1)
        all_goals first
          | omega
          | (refine ⟨k + 1, ?_, ?_, ?_⟩; (· have := HK.out; omega); (· go_num); (· rw [rows_held _ HA.out] at H; rw [← HT.out]; simp only [tk, HMX.out]; exact H))
    · obtain rfl : k = s.fl.length := by omega
      clear hkn
      go_wp2_with (first
    | ((with_reducible refine gLd ?_); refine eLd H rfl rfl ?_; first | (refine kLdB 0 rfl rfl (by first | exact T3 | exact T4 | exact T9 | exact T30 | exact T27 | exact T51 | exact T35 | exact T29 | exact T63 | exact T49) rfl ?_; intro rb hrb; cases rb <;> (first | (exfalso; simp at hrb; done) | ((try simp only [decide_eq_true_eq, decide_eq_false_iff_not, beq_iff_eq, beq_eq_false_iff_ne, ne_eq, bne_iff_ne, bne_eq_false_iff_eq, Bool.not_eq_true', Bool.not_eq_false', gt_iff_lt, ge_iff_le, Int.not_lt, Int.not_le, Decidable.not_not] at hrb); (try subst hrb); (try (exfalso; omega))))) | (refine kLd 0 rfl rfl (by first | exact T3 | exact T4 | exact T9 | exact T30 | exact T27 | exact T51 | exact T35 | exact T29 | exact T63 | exact T49) rfl ?_) | (refine kLdA 0 rfl rfl (by first | exact T3 | exact T4 | exact T9 | exact T30 | exact T27 | exact T51 | exact T35 | exact T29 | exact T63 | exact T49) (Nat.le_of_ble_eq_true rfl) (by simp only [Pk.cells, netC, Pk.zero, List.drop_succ_cons, List.drop_zero, List.take_succ_cons, List.take_zero, List.set_cons_zero, List.set_cons_succ]; rfl) ?_))
    | ((with_reducible refine gSt ?_); (first | (refine eSt H rfl rfl ⟨.int _ _, rfl, ?_⟩) | (refine eSt H rfl rfl ⟨.bool _, rfl, ?_⟩) | (refine eSt H rfl rfl ⟨.slice _ _ _, rfl, ?_⟩) | (refine eSt H rfl rfl ⟨.pointer _, rfl, ?_⟩) | (refine eSt H rfl rfl ⟨.string _, rfl, ?_⟩) | (refine eSt H rfl rfl ⟨.agg (List.toArray _), rfl, ?_⟩)); (first | (refine kSt 0 rfl rfl (by first | exact T3 | exact T4 | exact T9 | exact T30 | exact T27 | exact T51 | exact T35 | exact T29 | exact T63 | exact T49) rfl (Nat.le_of_ble_eq_true rfl) ?_) | (refine kStA 0 rfl rfl (by first | exact T3 | exact T4 | exact T9 | exact T30 | exact T27 | exact T51 | exact T35 | exact T29 | exact T63 | exact T49) rfl rfl (Nat.le_of_ble_eq_true rfl) ?_)); clear H; intro w1 H; simp only [List.set_cons_zero, List.set_cons_succ] at H; (try simp only [lay, List.take_zero, List.nil_append, List.length_cons, List.length_nil, Nat.zero_add, Nat.reduceAdd, List.drop_succ_cons, List.drop_zero, List.drop_nil, List.append_nil, List.take_succ_cons, List.cons_append] at H))
    | ((with_reducible refine gBx ?_); refine bxA H rfl rfl rfl ?_; clear H; intro b1 w1 H)
    | ((with_reducible refine gBs ?_); (first | (refine bs1 H rfl (by first | exact S27 | exact S51) rfl (Nat.le_of_ble_eq_true rfl) (Nat.le_of_ble_eq_true rfl) rfl ?_) | (refine wl_buildSlice0 rfl (by first | exact S27 | exact S51) H ?_)); clear H; intro b1 w1 H)
    | ((with_reducible refine gEq ?_); (first | (refine wl_cmp rfl rfl rfl rfl ?_) | (refine wl_scmp rfl rfl rfl rfl ?_)); intro rb hrb; cases rb <;> (first | (exfalso; simp at hrb; done) | ((try simp only [decide_eq_true_eq, decide_eq_false_iff_not, beq_iff_eq, beq_eq_false_iff_ne, ne_eq, bne_iff_ne, bne_eq_false_iff_eq, Bool.not_eq_true', Bool.not_eq_false', gt_iff_lt, ge_iff_le, Int.not_lt, Int.not_le, Decidable.not_not] at hrb); (try subst hrb); (try (exfalso; omega)))))
    | ((with_reducible refine gEq ?_); (first | (refine wl_eqAgg G35 (eq35 9998 ⟨_, _, _, _, _⟩ ⟨_, _, _, _, _⟩) rfl rfl rfl ?_) | (refine wl_neAgg G35 (eq35 9998 ⟨_, _, _, _, _⟩ ⟨_, _, _, _, _⟩) rfl rfl rfl ?_)); intro rb hrb; cases rb <;> (try simp only [Bool.not_true, Bool.not_false]))
    | ((with_reducible refine gAl ?_); (first | (refine al H Z35 rfl rfl ?_) | (refine al H Z29 rfl rfl ?_)); clear H; intro b1 w1 H)
    | ((with_reducible refine gRg ?_); refine wp_region_text rfl (by decide +kernel) ?_; replace H := H.drew)
    | ((with_reducible refine EndQ.intro ?_ ?_); (· kernel_rfl)))
      all_goals refine end_none rfl ?_
      all_goals (refine ⟨rfl, ?_⟩; have H2 := H; rw [List.take_length, List.drop_length, List.append_nil] at H2; simp only [St.tick, eN, eR, netC, List.length_map]; exact H2)
end Go.Proofs.Ytajconlnacbmjaa
