/- The order of terms: Compare. -/
import Derived.Test.YtebecelhcpljaaaW33
import Derived.Deep.Cut
import Derived.WalkKit
import Derived.Lib.Hide
import Derived.Deep.LoopGhost
import Derived.WalkSpells
set_option linter.unusedVariables false
set_option linter.unusedSimpArgs false
namespace Go.Proofs.Ytebecelhcpljaaa
open Go.RowKit Go.Gx Go.Gx.Trm
set_option maxRecDepth 100000
theorem nodeQP (l : List En) (t : Int) : nodeQ l t = nodeP l t := rfl
theorem cmp_same {l : List En} {f : Nat} {a b : Int} (h1 : inP l a = inP l b) (h2 : nodeQ l a = nodeQ l b) : cmpF l f a b = 0 := by
  have h := (cmpF_ok l f).rfl a
  cases f with
  | zero => unfold cmpF at *; rw [← h1]; exact h
  | succ f => unfold cmpF lexC at *; simp only [h1, h2] at *; exact h
theorem in_kind {l : List En} (hw : wfP l) {t : Int} (h : inP l t = true) : 1 ≤ (nodeQ l t).kind := by
  obtain ⟨i, e, rfl, _, hg, _⟩ := entP_in h
  rw [nodeQ_some hg]
  have hs := (hw.wf i e hg).sh
  unfold shapeE at hs
  split at hs
  · rename_i hp
    unfold plainN own kOk at hp
    simp only [Bool.and_eq_true, decide_eq_true_eq] at hp
    exact hp.1.1.1.1.1.1.1
  · cases hs
theorem out_kind {l : List En} {t : Int} (h : inP l t = false) : nodeQ l t = Nd.zero := nodeQ_no h
theorem same_in {l : List En} (hw : wfP l) {a b : Int} (h : nodeQ l a = nodeQ l b) : inP l a = inP l b := by
  cases ha : inP l a <;> cases hb : inP l b
  · rfl
  · have := in_kind hw hb; rw [← h, out_kind ha] at this; simp [Nd.zero] at this
  · have := in_kind hw ha; rw [h, out_kind hb] at this; simp [Nd.zero] at this
  · rfl
/-- one of the two is no term -/
theorem cmp_out {l : List En} {f : Nat} {a b : Int} (h : ¬ (inP l a = true ∧ inP l b = true)) : cmpF l f a b = cmpI (b2i (inP l a)) (b2i (inP l b)) := by
  cases ha : inP l a <;> cases hb : inP l b
  · rw [cmp_same (by rw [ha, hb]) (by rw [out_kind ha, out_kind hb])]; rfl
  · cases f <;> simp [cmpF, lexC, ha, hb, b2i, cmpI]
  · cases f <;> simp [cmpF, lexC, ha, hb, b2i, cmpI]
  · exact absurd ⟨ha, hb⟩ h
theorem cmp_in {l : List En} {f : Nat} {a b : Int} (ha : inP l a = true) (hb : inP l b = true) : cmpF l (f + 1) a b = if headC (nodeQ l a) (nodeQ l b) = 0 then (if cmpF l f (nodeQ l a).a (nodeQ l b).a = 0 then cmpF l f (nodeQ l a).b (nodeQ l b).b else cmpF l f (nodeQ l a).a (nodeQ l b).a) else headC (nodeQ l a) (nodeQ l b) := by
  have h0 : cmpI (b2i (inP l a)) (b2i (inP l b)) = 0 := by rw [ha, hb]; exact cmpI_eq _
  simp only [cmpF, lexC, h0, if_true]
theorem cmp_head {l : List En} (hw : wfP l) {fu : Nat} {a b : Int} (hf : inP l a = true → a.toNat ≤ fu) (hc : ¬ headC (nodeQ l a) (nodeQ l b) = 0) : cmpF l fu a b = headC (nodeQ l a) (nodeQ l b) := by
  by_cases h : inP l a = true ∧ inP l b = true
  · have := hf h.1
    have := inP_bd h.1
    obtain ⟨f, rfl⟩ : ∃ f, fu = f + 1 := ⟨fu - 1, by omega⟩
    rw [cmp_in h.1 h.2, if_neg hc]
  · rw [cmp_out h]
    cases ha : inP l a <;> cases hb : inP l b
    · rw [out_kind ha, out_kind hb, headC_ok.rfl] at hc; exact absurd rfl hc
    · have hk := in_kind hw hb
      rw [out_kind ha]
      have h1 : cmpI (Nd.kind Nd.zero) (nodeQ l b).kind = -1 := cmpI_lt (by simp only [Nd.zero]; omega)
      unfold headC lexC
      simp only [h1]
      rfl
    · have hk := in_kind hw ha
      rw [out_kind hb]
      have h1 : cmpI (nodeQ l a).kind (Nd.kind Nd.zero) = 1 := cmpI_gt (by simp only [Nd.zero]; omega)
      unfold headC lexC
      simp only [h1]
      rfl
    · exact absurd ⟨ha, hb⟩ h
theorem cmp_deep {l : List En} (hw : wfP l) {a b : Int} (hne : (nodeQ l a).beq (nodeQ l b) = false) (hc : headC (nodeQ l a) (nodeQ l b) = 0) : inP l a = true ∧ inP l b = true := by
  unfold headC at hc
  have hk := cmpI_zero (lexC_zero hc).1
  cases ha : inP l a <;> cases hb : inP l b
  · rw [out_kind ha, out_kind hb, Nd.beq_iff.2 rfl] at hne; cases hne
  · have := in_kind hw hb; rw [← hk, out_kind ha] at this; simp [Nd.zero] at this
  · have := in_kind hw ha; rw [hk, out_kind hb] at this; simp [Nd.zero] at this
  · exact ⟨rfl, rfl⟩
theorem kid_fuel {l : List En} (hw : wfP l) {a : Int} {f : Nat} (ha : inP l a = true) (hf : a.toNat ≤ f + 1) : (nodeQ l a).a.toNat ≤ f ∧ (nodeQ l a).b.toNat ≤ f := by
  obtain ⟨i, e, rfl, _, hg, _⟩ := entP_in ha
  rw [nodeQ_some hg]
  have := (hw.wf i e hg).lt
  omega
set_option maxHeartbeats 16000000 in
theorem Cmp_eq {w0 : World} {D : Nat → Prop} {p fu : Nat} {l : List En} {R : List Ent} {w : World} {a b : Int} (hl : l.length ≤ 65536) (hw : wfP l) (hf : inP l a = true → a.toNat ≤ fu) (H : Hp w0 D R w) (hp : PlR R p l) (hq : (nodeQ l a).beq (nodeQ l b) = true) : Calls Try.prog 34 #[.pointer (some ⟨p, 0, none⟩), .int .i64 a, .int .i64 b] w fun e w' => e = .returned (.int .i64 (cmpF l fu a b)) ∧ Hp w0 D R w' := by
  have hn := Nd.beq_iff.1 hq
  rw [cmp_same (same_in hw hn) hn]
  obtain ⟨⟨x1, x2, x3, x4, x5, x6, x7⟩, hx⟩ : ∃ n, nodeQ l a = n := ⟨_, rfl⟩
  obtain ⟨⟨y1, y2, y3, y4, y5, y6, y7⟩, hy⟩ : ∃ n, nodeQ l b = n := ⟨_, rfl⟩
  obtain ⟨ra, hia⟩ : ∃ r, inP l a = r := ⟨_, rfl⟩
  obtain ⟨rb9, hib⟩ : ∃ r, inP l b = r := ⟨_, rfl⟩
  have HPL := Lib.hid hp
  have HL := Lib.hid hl
  have HNA : Hid (nodeP l a = ⟨x1, x2, x3, x4, x5, x6, x7⟩) := Lib.hid hx
  have HNB : Hid (nodeP l b = ⟨y1, y2, y3, y4, y5, y6, y7⟩) := Lib.hid hy
  have HIA := Lib.hid hia
  have HIB := Lib.hid hib
  rw [hx, hy] at hq
  have HB := Lib.hid hq
  clear hl hp hx hy hia hib hq hf hn
  go_enter Try.func34, Try.ntmps34
  go_wp2_with (first
    | (go_at_call 30; first | (have hq := bx; clear hq; (refine (Node_R (n := ⟨y1, y2, y3, y4, y5, y6, y7⟩) H (HPL.out.push [_]) HL.out HNB.out HIB.out).mono ?_); rintro e w1 ⟨rfl, H1⟩; clear H; have H := H1; clear H1; (try simp only [Nd.cells])) | ((refine (Node_R (n := ⟨x1, x2, x3, x4, x5, x6, x7⟩) H HPL.out HL.out HNA.out HIA.out).mono ?_); rintro e w1 ⟨rfl, H1⟩; clear H; have H := H1; clear H1; (try simp only [Nd.cells])))
    | ((with_reducible refine gAl ?_); first | (have hq := bx; clear hq; refine al H Z33 rfl rfl ?_; clear H; intro by_ w1 H) | (refine al H Z33 rfl rfl ?_; clear H; intro bx w1 H))
    | ((with_reducible refine gEq ?_); refine wl_eqN (n := ⟨x1, x2, x3, x4, x5, x6, x7⟩) (m := ⟨y1, y2, y3, y4, y5, y6, y7⟩) rfl HB.out rfl rfl ?_)
    | ((with_reducible refine gLd ?_); refine eLd H rfl rfl ?_; first | ((repeat ((with_reducible refine gEx ?_); first | (refine kLd 0 rfl rfl (by exact TT _ rfl) rfl ?_) | (refine kLdA 0 rfl rfl (by exact TT _ rfl) (Nat.le_of_ble_eq_true rfl) (by simp only [Nd.cells, Nd.zero, LS2]; rfl) ?_) | (refine nxL ?_))); fail_if_success (with_reducible refine gEx ?_)))
    | ((with_reducible refine gSt ?_); (first | (refine eSt H rfl rfl ⟨.int _ _, rfl, ?_⟩) | (refine eSt H rfl rfl ⟨.bool _, rfl, ?_⟩) | (refine eSt H rfl rfl ⟨.slice _ _ _, rfl, ?_⟩) | (refine eSt H rfl rfl ⟨.pointer _, rfl, ?_⟩) | (refine eSt H rfl rfl ⟨.string _, rfl, ?_⟩) | (refine eSt H rfl rfl ⟨.agg (List.toArray _), rfl, ?_⟩)); (first | ((repeat ((with_reducible refine gES ?_); first | (refine kSt 0 rfl rfl (by exact TT _ rfl) rfl (Nat.le_of_ble_eq_true rfl) ?_) | (refine kStA 0 rfl rfl (by exact TT _ rfl) rfl rfl (Nat.le_of_ble_eq_true rfl) ?_) | (refine nxS ?_))); fail_if_success (with_reducible refine gES ?_))); clear H; intro w1 H; simp only [List.set_cons_zero, List.set_cons_succ] at H; (try simp only [lay, LS1, Nat.reduceAdd] at H))
    | ((with_reducible refine gBx ?_); refine bxA H rfl rfl rfl ?_; clear H; intro b1 w1 H)
    | ((with_reducible refine gBs ?_); (first | (refine bs1 H rfl (by exact SS _ rfl) rfl (Nat.le_of_ble_eq_true rfl) (Nat.le_of_ble_eq_true rfl) rfl ?_) | (refine wl_buildSlice0 rfl (by exact SS _ rfl) H ?_)); clear H; intro b1 w1 H)
    | ((with_reducible refine gEq ?_); (first | (refine wl_cmp rfl rfl rfl rfl ?_) | (refine wl_scmp rfl rfl rfl rfl ?_)); intro rb hrb; cases rb <;> (first | (exfalso; simp at hrb; done) | ((try simp only [CS1, gt_iff_lt, ge_iff_le, ne_eq, Decidable.not_not] at hrb); (try subst hrb); (try (exfalso; omega)))))
    | ((with_reducible refine gRg ?_); refine wp_region_text rfl (by decide +kernel) ?_; replace H := H.drew)
    | ((with_reducible refine EndQ.intro ?_ ?_); (· kernel_rfl)))
  all_goals go_ret
  all_goals exact ⟨rfl, H.drop.drop⟩
set_option maxHeartbeats 16000000 in
theorem Cmp_head {w0 : World} {D : Nat → Prop} {p fu : Nat} {l : List En} {R : List Ent} {w : World} {a b : Int} (hl : l.length ≤ 65536) (hw : wfP l) (hf : inP l a = true → a.toNat ≤ fu) (H : Hp w0 D R w) (hp : PlR R p l) (hq : (nodeQ l a).beq (nodeQ l b) = false) (hc : ¬ headC (nodeQ l a) (nodeQ l b) = 0) : Calls Try.prog 34 #[.pointer (some ⟨p, 0, none⟩), .int .i64 a, .int .i64 b] w fun e w' => e = .returned (.int .i64 (cmpF l fu a b)) ∧ Hp w0 D R w' := by
  rw [cmp_head hw hf hc]
  obtain ⟨c0, hc0⟩ : ∃ c, headC (nodeQ l a) (nodeQ l b) = c := ⟨_, rfl⟩
  rw [hc0] at hc ⊢
  obtain ⟨⟨x1, x2, x3, x4, x5, x6, x7⟩, hx⟩ : ∃ n, nodeQ l a = n := ⟨_, rfl⟩
  obtain ⟨⟨y1, y2, y3, y4, y5, y6, y7⟩, hy⟩ : ∃ n, nodeQ l b = n := ⟨_, rfl⟩
  obtain ⟨ra, hia⟩ : ∃ r, inP l a = r := ⟨_, rfl⟩
  obtain ⟨rb9, hib⟩ : ∃ r, inP l b = r := ⟨_, rfl⟩
  have HPL := Lib.hid hp
  have HL := Lib.hid hl
  have HNA : Hid (nodeP l a = ⟨x1, x2, x3, x4, x5, x6, x7⟩) := Lib.hid hx
  have HNB : Hid (nodeP l b = ⟨y1, y2, y3, y4, y5, y6, y7⟩) := Lib.hid hy
  have HIA := Lib.hid hia
  have HIB := Lib.hid hib
  rw [hx, hy] at hq hc0
  rw [headC_or] at hc0
  simp only at hc0
  obtain ⟨s5, hs5⟩ : ∃ s5, cmpS x5 y5 = s5 := ⟨_, rfl⟩
  rw [hs5] at hc0
  have HB := Lib.hid hq
  have HS5 := Lib.hid hs5
  have HC := Lib.hid hc0
  clear hl hp hx hy hia hib hq hf hs5 hc0
  go_enter Try.func34, Try.ntmps34
  go_wp2_with (first
    | (go_at_call 30; first | (have hq := bx; clear hq; (refine (Node_R (n := ⟨y1, y2, y3, y4, y5, y6, y7⟩) H (HPL.out.push [_]) HL.out HNB.out HIB.out).mono ?_); rintro e w1 ⟨rfl, H1⟩; clear H; have H := H1; clear H1; (try simp only [Nd.cells])) | ((refine (Node_R (n := ⟨x1, x2, x3, x4, x5, x6, x7⟩) H HPL.out HL.out HNA.out HIA.out).mono ?_); rintro e w1 ⟨rfl, H1⟩; clear H; have H := H1; clear H1; (try simp only [Nd.cells])))
    | ((with_reducible refine gAl ?_); first | (have hq := bx; clear hq; refine al H Z33 rfl rfl ?_; clear H; intro by_ w1 H) | (refine al H Z33 rfl rfl ?_; clear H; intro bx w1 H))
    | ((with_reducible refine gEq ?_); refine wl_eqN (n := ⟨x1, x2, x3, x4, x5, x6, x7⟩) (m := ⟨y1, y2, y3, y4, y5, y6, y7⟩) rfl HB.out rfl rfl ?_)
    | ((with_reducible refine gRg ?_); refine wp_region_B (fun u => Hp w0 D (⟨some by_, [.int .i64 y1, .int .i64 y2, .int .i64 y3, .int .u64 y4, .string y5, .int .i64 y6, .int .i64 y7], 33, 7⟩ :: ⟨some bx, [.int .i64 x1, .int .i64 x2, .int .i64 x3, .int .u64 x4, .string x5, .int .i64 x6, .int .i64 x7], 33, 7⟩ :: R) u) rfl ?_; replace H := H.drew; (refine bTakeL 0 rfl (by decide +kernel) (H) rfl (by intro u hu; go_simp; rfl) ?_; (try simp only [Act.put, List.setIfInBounds_toArray, List.set_cons_succ, List.set_cons_zero])); (refine bTakeL 2 rfl (by decide +kernel) (H) rfl (by intro u hu; go_simp; rfl) ?_; (try simp only [Act.put, List.setIfInBounds_toArray, List.set_cons_succ, List.set_cons_zero])); (refine bTakeL 5 rfl (by decide +kernel) (H) rfl (by intro u hu; go_simp; rfl) ?_; (try simp only [Act.put, List.setIfInBounds_toArray, List.set_cons_succ, List.set_cons_zero])); (refine bTakeL 7 rfl (by decide +kernel) (H) rfl (by intro u hu; go_simp; rfl) ?_; (try simp only [Act.put, List.setIfInBounds_toArray, List.set_cons_succ, List.set_cons_zero])); (refine bTakeL 10 rfl (by decide +kernel) (H) rfl (by intro u hu; go_simp; rfl) ?_; (try simp only [Act.put, List.setIfInBounds_toArray, List.set_cons_succ, List.set_cons_zero])); (refine bTakeL 12 rfl (by decide +kernel) (H) rfl (by intro u hu; go_simp; rfl) ?_; (try simp only [Act.put, List.setIfInBounds_toArray, List.set_cons_succ, List.set_cons_zero])); (refine bTakeL 15 rfl (by decide +kernel) (H) rfl (by intro u hu; go_simp; rfl) ?_; (try simp only [Act.put, List.setIfInBounds_toArray, List.set_cons_succ, List.set_cons_zero])); (refine bTakeL 17 rfl (by decide +kernel) (H) rfl (by intro u hu; go_simp; rfl) ?_; (try simp only [Act.put, List.setIfInBounds_toArray, List.set_cons_succ, List.set_cons_zero])); (refine bTakeL 20 rfl (by decide +kernel) (H) rfl (by intro u hu; go_simp; rfl) ?_; (try simp only [Act.put, List.setIfInBounds_toArray, List.set_cons_succ, List.set_cons_zero])); (refine bTakeL 22 rfl (by decide +kernel) (H) rfl (by intro u hu; go_simp; rfl) ?_; (try simp only [Act.put, List.setIfInBounds_toArray, List.set_cons_succ, List.set_cons_zero])); (refine bTakeL 1 rfl (by decide +kernel) (H) rfl (fun u hu => run_ld 1 hu rfl rfl rfl T3 rfl) ?_; (try simp only [Act.put, List.setIfInBounds_toArray, List.set_cons_succ, List.set_cons_zero])); (refine bTakeL 3 rfl (by decide +kernel) (H) rfl (fun u hu => run_ld 0 hu rfl rfl rfl T3 rfl) ?_; (try simp only [Act.put, List.setIfInBounds_toArray, List.set_cons_succ, List.set_cons_zero])); (refine bTakeL 6 rfl (by decide +kernel) (H) rfl (fun u hu => run_ld 1 hu rfl rfl rfl T3 rfl) ?_; (try simp only [Act.put, List.setIfInBounds_toArray, List.set_cons_succ, List.set_cons_zero])); (refine bTakeL 8 rfl (by decide +kernel) (H) rfl (fun u hu => run_ld 0 hu rfl rfl rfl T3 rfl) ?_; (try simp only [Act.put, List.setIfInBounds_toArray, List.set_cons_succ, List.set_cons_zero])); (refine bTakeL 11 rfl (by decide +kernel) (H) rfl (fun u hu => run_ld 1 hu rfl rfl rfl T3 rfl) ?_; (try simp only [Act.put, List.setIfInBounds_toArray, List.set_cons_succ, List.set_cons_zero])); (refine bTakeL 13 rfl (by decide +kernel) (H) rfl (fun u hu => run_ld 0 hu rfl rfl rfl T3 rfl) ?_; (try simp only [Act.put, List.setIfInBounds_toArray, List.set_cons_succ, List.set_cons_zero])); (refine bTakeL 16 rfl (by decide +kernel) (H) rfl (fun u hu => run_ld 1 hu rfl rfl rfl T31 rfl) ?_; (try simp only [Act.put, List.setIfInBounds_toArray, List.set_cons_succ, List.set_cons_zero])); (refine bTakeL 18 rfl (by decide +kernel) (H) rfl (fun u hu => run_ld 0 hu rfl rfl rfl T31 rfl) ?_; (try simp only [Act.put, List.setIfInBounds_toArray, List.set_cons_succ, List.set_cons_zero])); (refine bTakeL 21 rfl (by decide +kernel) (H) rfl (fun u hu => run_ld 1 hu rfl rfl rfl T9 rfl) ?_; (try simp only [Act.put, List.setIfInBounds_toArray, List.set_cons_succ, List.set_cons_zero])); (refine bTakeL 23 rfl (by decide +kernel) (H) rfl (fun u hu => run_ld 0 hu rfl rfl rfl T9 rfl) ?_; (try simp only [Act.put, List.setIfInBounds_toArray, List.set_cons_succ, List.set_cons_zero])); (refine bOneL 4 (by decide +kernel) rfl rfl ?_); (intro K hK; go_simp; go_at_call 66; (with_reducible refine (Cmp_i H x1 y1).mono ?_); rintro e w1 ⟨rfl, H1⟩; clear H; have H := H1; clear H1; (try simp only []); refine hK _ _ (H) ?_; clear hK K; (try simp only [Act.put, List.setIfInBounds_toArray, List.set_cons_succ, List.set_cons_zero]); (refine bOneL 9 (by decide +kernel) rfl rfl ?_); (intro K hK; go_simp; go_at_call 66; (with_reducible refine (Cmp_i H x2 y2).mono ?_); rintro e w1 ⟨rfl, H1⟩; clear H; have H := H1; clear H1; (try simp only []); refine hK _ _ (H) ?_; clear hK K; (try simp only [Act.put, List.setIfInBounds_toArray, List.set_cons_succ, List.set_cons_zero]); (refine bOneL 14 (by decide +kernel) rfl rfl ?_); (intro K hK; go_simp; go_at_call 66; (with_reducible refine (Cmp_i H x3 y3).mono ?_); rintro e w1 ⟨rfl, H1⟩; clear H; have H := H1; clear H1; (try simp only []); refine hK _ _ (H) ?_; clear hK K; (try simp only [Act.put, List.setIfInBounds_toArray, List.set_cons_succ, List.set_cons_zero]); (refine bOneL 19 (by decide +kernel) rfl rfl ?_); (intro K hK; go_simp; go_at_call 67; (with_reducible refine (Cmp_u H x4 y4).mono ?_); rintro e w1 ⟨rfl, H1⟩; clear H; have H := H1; clear H1; (try simp only []); refine hK _ _ (H) ?_; clear hK K; (try simp only [Act.put, List.setIfInBounds_toArray, List.set_cons_succ, List.set_cons_zero]); (refine bOneL 24 (by decide +kernel) rfl rfl ?_); (intro K hK; go_simp; go_at_call 68; (with_reducible refine (Cmp_s H x5 y5 HS5.out).mono ?_); rintro e w1 ⟨rfl, H1⟩; clear H; have H := H1; clear H1; (try simp only []); refine hK _ _ (H) ?_; clear hK K; (try simp only [Act.put, List.setIfInBounds_toArray, List.set_cons_succ, List.set_cons_zero]); (refine bOneL 25 (by decide +kernel) rfl rfl ?_); (intro K hK; refine oBsI (zs := [cmpI x1 y1, cmpI x2 y2, cmpI x3 y3, cmpI x4 y4, s5]) H rfl S41 rfl (by decide) (by decide) ?_; clear H; intro bo w1 H; refine hK _ _ ((H).dropAt 0) ?_; clear hK K; (try simp only [Act.put, List.setIfInBounds_toArray, List.set_cons_succ, List.set_cons_zero]); (refine bOneL 26 (by decide +kernel) rfl rfl ?_); (intro K hK; go_simp; go_at_call 65; (with_reducible refine (Or_spec (i := 0) (zs := [cmpI x1 y1, cmpI x2 y2, cmpI x3 y3, cmpI x4 y4, s5]) (N := 5) H rfl rfl (by decide) HC.out).mono ?_); rintro e w1 ⟨rfl, H1⟩; clear H; have H := H1; clear H1; (try simp only []); refine hK _ _ ((H).dropAt 0) ?_; clear hK K; (try simp only [Act.put, List.setIfInBounds_toArray, List.set_cons_succ, List.set_cons_zero]); (refine bTakeL 27 rfl (by decide +kernel) ((H).dropAt 0) rfl (by intro u hu; go_simp; rfl) ?_; (try simp only [Act.put, List.setIfInBounds_toArray, List.set_cons_succ, List.set_cons_zero])); (refine bDone (by decide +kernel) ?_); (replace H := ((H).dropAt 0))))))))))
    | ((with_reducible refine gLd ?_); refine eLd H rfl rfl ?_; first | ((repeat ((with_reducible refine gEx ?_); first | (refine kLd 0 rfl rfl (by exact TT _ rfl) rfl ?_) | (refine kLdA 0 rfl rfl (by exact TT _ rfl) (Nat.le_of_ble_eq_true rfl) (by simp only [Nd.cells, Nd.zero, LS2]; rfl) ?_) | (refine nxL ?_))); fail_if_success (with_reducible refine gEx ?_)))
    | ((with_reducible refine gSt ?_); (first | (refine eSt H rfl rfl ⟨.int _ _, rfl, ?_⟩) | (refine eSt H rfl rfl ⟨.bool _, rfl, ?_⟩) | (refine eSt H rfl rfl ⟨.slice _ _ _, rfl, ?_⟩) | (refine eSt H rfl rfl ⟨.pointer _, rfl, ?_⟩) | (refine eSt H rfl rfl ⟨.string _, rfl, ?_⟩) | (refine eSt H rfl rfl ⟨.agg (List.toArray _), rfl, ?_⟩)); (first | ((repeat ((with_reducible refine gES ?_); first | (refine kSt 0 rfl rfl (by exact TT _ rfl) rfl (Nat.le_of_ble_eq_true rfl) ?_) | (refine kStA 0 rfl rfl (by exact TT _ rfl) rfl rfl (Nat.le_of_ble_eq_true rfl) ?_) | (refine nxS ?_))); fail_if_success (with_reducible refine gES ?_))); clear H; intro w1 H; simp only [List.set_cons_zero, List.set_cons_succ] at H; (try simp only [lay, LS1, Nat.reduceAdd] at H))
    | ((with_reducible refine gBx ?_); refine bxA H rfl rfl rfl ?_; clear H; intro b1 w1 H)
    | ((with_reducible refine gBs ?_); (first | (refine bs1 H rfl (by exact SS _ rfl) rfl (Nat.le_of_ble_eq_true rfl) (Nat.le_of_ble_eq_true rfl) rfl ?_) | (refine wl_buildSlice0 rfl (by exact SS _ rfl) H ?_)); clear H; intro b1 w1 H)
    | ((with_reducible refine gEq ?_); (first | (refine wl_cmp rfl rfl rfl rfl ?_) | (refine wl_scmp rfl rfl rfl rfl ?_)); intro rb hrb; cases rb <;> (first | (exfalso; simp at hrb; done) | ((try simp only [CS1, gt_iff_lt, ge_iff_le, ne_eq, Decidable.not_not] at hrb); (try subst hrb); (try (exfalso; omega)))))
    | ((with_reducible refine gRg ?_); refine wp_region_text rfl (by decide +kernel) ?_; replace H := H.drew)
    | ((with_reducible refine EndQ.intro ?_ ?_); (· kernel_rfl)))
  all_goals go_ret
  all_goals exact ⟨rfl, H.drop.drop⟩
theorem Cmp_flat {w0 : World} {D : Nat → Prop} {p fu : Nat} {l : List En} {R : List Ent} {w : World} {a b : Int} (hl : l.length ≤ 65536) (hw : wfP l) (hf : inP l a = true → a.toNat ≤ fu) (H : Hp w0 D R w) (hp : PlR R p l) (h : (nodeQ l a).beq (nodeQ l b) = true ∨ ¬ (inP l a = true)) : Calls Try.prog 34 #[.pointer (some ⟨p, 0, none⟩), .int .i64 a, .int .i64 b] w fun e w' => e = .returned (.int .i64 (cmpF l fu a b)) ∧ Hp w0 D R w' := by
  by_cases hq : (nodeQ l a).beq (nodeQ l b) = true
  · exact Cmp_eq hl hw hf H hp hq
  · have hq : (nodeQ l a).beq (nodeQ l b) = false := by simpa using hq
    refine Cmp_head hl hw hf H hp hq fun hc => ?_
    have := cmp_deep hw hq hc
    rcases h with h | h
    · rw [h] at hq; cases hq
    · exact h this.1
set_option maxHeartbeats 16000000 in
theorem Compare_spec {w0 : World} {D : Nat → Prop} {p : Nat} {l : List En} (hl : l.length ≤ 65536) (hw : wfP l) : ∀ (fu : Nat), ∀ {R : List Ent} (w : World) (a b : Int), (inP l a = true → a.toNat ≤ fu) → Hp w0 D R w → PlR R p l → Calls Try.prog 34 #[.pointer (some ⟨p, 0, none⟩), .int .i64 a, .int .i64 b] w fun e w' => e = .returned (.int .i64 (cmpF l fu a b)) ∧ Hp w0 D R w' := by
  intro fu
  induction fu with
  | zero =>
    intro R w a b hf H hp
    have hia : inP l a = false := by
      cases h : inP l a with
      | false => rfl
      | true => have := hf h; have := inP_bd h; omega
    exact Cmp_flat hl hw hf H hp (.inr (by rw [hia]; simp))
  | succ fu ih =>
    intro R w a b hf H hp
    by_cases hq : (nodeQ l a).beq (nodeQ l b) = true
    · exact Cmp_flat hl hw hf H hp (.inl hq)
    by_cases hc : headC (nodeQ l a) (nodeQ l b) = 0
    case neg => exact Cmp_head hl hw hf H hp (by simpa using hq) hc
    have hq : (nodeQ l a).beq (nodeQ l b) = false := by simpa using hq
    obtain ⟨hia, hib⟩ := cmp_deep hw hq hc
    have hkf := kid_fuel hw hia (hf hia)
    have hres := cmp_in (f := fu) hia hib
    rw [if_pos hc] at hres
    rw [hres]
    clear hres
    obtain ⟨⟨x1, x2, x3, x4, x5, x6, x7⟩, hx⟩ : ∃ n, nodeQ l a = n := ⟨_, rfl⟩
    obtain ⟨⟨y1, y2, y3, y4, y5, y6, y7⟩, hy⟩ : ∃ n, nodeQ l b = n := ⟨_, rfl⟩
    rw [hx, hy] at hq hc ⊢
    rw [hx] at hkf
    simp only at hkf
    have hc2 := hc
    rw [headC_or] at hc2
    simp only at hc2
    obtain ⟨s5, hs5⟩ : ∃ s5, cmpS x5 y5 = s5 := ⟨_, rfl⟩
    rw [hs5] at hc2
    obtain ⟨d1, hd1⟩ : ∃ d, cmpF l fu x6 y6 = d := ⟨_, rfl⟩
    obtain ⟨d2, hd2⟩ : ∃ d, cmpF l fu x7 y7 = d := ⟨_, rfl⟩
    rw [hd1, hd2]
    have rec1 : ∀ {b1 b2 : Nat} {u : World}, Hp w0 D (⟨some b1, [.int .i64 y1, .int .i64 y2, .int .i64 y3, .int .u64 y4, .string y5, .int .i64 y6, .int .i64 y7], 33, 7⟩ :: ⟨some b2, [.int .i64 x1, .int .i64 x2, .int .i64 x3, .int .u64 x4, .string x5, .int .i64 x6, .int .i64 x7], 33, 7⟩ :: R) u → Calls Try.prog 34 #[.pointer (some ⟨p, 0, none⟩), .int .i64 x6, .int .i64 y6] u fun e w' => e = .returned (.int .i64 d1) ∧ Hp w0 D (⟨some b1, [.int .i64 y1, .int .i64 y2, .int .i64 y3, .int .u64 y4, .string y5, .int .i64 y6, .int .i64 y7], 33, 7⟩ :: ⟨some b2, [.int .i64 x1, .int .i64 x2, .int .i64 x3, .int .u64 x4, .string x5, .int .i64 x6, .int .i64 x7], 33, 7⟩ :: R) w' := fun H => by rw [← hd1]; exact ih _ _ _ (fun _ => hkf.1) H (hp.push [_, _])
    have rec2 : ∀ {b1 b2 : Nat} {u : World}, Hp w0 D (⟨some b1, [.int .i64 y1, .int .i64 y2, .int .i64 y3, .int .u64 y4, .string y5, .int .i64 y6, .int .i64 y7], 33, 7⟩ :: ⟨some b2, [.int .i64 x1, .int .i64 x2, .int .i64 x3, .int .u64 x4, .string x5, .int .i64 x6, .int .i64 x7], 33, 7⟩ :: R) u → Calls Try.prog 34 #[.pointer (some ⟨p, 0, none⟩), .int .i64 x7, .int .i64 y7] u fun e w' => e = .returned (.int .i64 d2) ∧ Hp w0 D (⟨some b1, [.int .i64 y1, .int .i64 y2, .int .i64 y3, .int .u64 y4, .string y5, .int .i64 y6, .int .i64 y7], 33, 7⟩ :: ⟨some b2, [.int .i64 x1, .int .i64 x2, .int .i64 x3, .int .u64 x4, .string x5, .int .i64 x6, .int .i64 x7], 33, 7⟩ :: R) w' := fun H => by rw [← hd2]; exact ih _ _ _ (fun _ => hkf.2) H (hp.push [_, _])
    have HPL := Lib.hid hp
    have HL := Lib.hid hl
    have HNA : Hid (nodeP l a = ⟨x1, x2, x3, x4, x5, x6, x7⟩) := Lib.hid hx
    have HNB : Hid (nodeP l b = ⟨y1, y2, y3, y4, y5, y6, y7⟩) := Lib.hid hy
    have HIA := Lib.hid hia
    have HIB := Lib.hid hib
    have HB := Lib.hid hq
    have HS5 := Lib.hid hs5
    have HC := Lib.hid hc2
    clear hl hp hx hy hia hib hq hs5 hc hc2 hd1 hd2 hkf hf ih
    by_cases h0 : d1 = 0
    · rw [if_pos h0]
      subst h0
      go_enter Try.func34, Try.ntmps34
      go_wp2_with (first
    | (go_at_call 30; first | (have hq := bx; clear hq; (refine (Node_R (n := ⟨y1, y2, y3, y4, y5, y6, y7⟩) H (HPL.out.push [_]) HL.out HNB.out HIB.out).mono ?_); rintro e w1 ⟨rfl, H1⟩; clear H; have H := H1; clear H1; (try simp only [Nd.cells])) | ((refine (Node_R (n := ⟨x1, x2, x3, x4, x5, x6, x7⟩) H HPL.out HL.out HNA.out HIA.out).mono ?_); rintro e w1 ⟨rfl, H1⟩; clear H; have H := H1; clear H1; (try simp only [Nd.cells])))
    | ((with_reducible refine gAl ?_); first | (have hq := bx; clear hq; refine al H Z33 rfl rfl ?_; clear H; intro by_ w1 H) | (refine al H Z33 rfl rfl ?_; clear H; intro bx w1 H))
    | ((with_reducible refine gEq ?_); refine wl_eqN (n := ⟨x1, x2, x3, x4, x5, x6, x7⟩) (m := ⟨y1, y2, y3, y4, y5, y6, y7⟩) rfl HB.out rfl rfl ?_)
    | ((with_reducible refine gRg ?_); refine wp_region_B (fun u => Hp w0 D (⟨some by_, [.int .i64 y1, .int .i64 y2, .int .i64 y3, .int .u64 y4, .string y5, .int .i64 y6, .int .i64 y7], 33, 7⟩ :: ⟨some bx, [.int .i64 x1, .int .i64 x2, .int .i64 x3, .int .u64 x4, .string x5, .int .i64 x6, .int .i64 x7], 33, 7⟩ :: R) u) rfl ?_; replace H := H.drew; (refine bTakeL 0 rfl (by decide +kernel) (H) rfl (by intro u hu; go_simp; rfl) ?_; (try simp only [Act.put, List.setIfInBounds_toArray, List.set_cons_succ, List.set_cons_zero])); (refine bTakeL 2 rfl (by decide +kernel) (H) rfl (by intro u hu; go_simp; rfl) ?_; (try simp only [Act.put, List.setIfInBounds_toArray, List.set_cons_succ, List.set_cons_zero])); (refine bTakeL 5 rfl (by decide +kernel) (H) rfl (by intro u hu; go_simp; rfl) ?_; (try simp only [Act.put, List.setIfInBounds_toArray, List.set_cons_succ, List.set_cons_zero])); (refine bTakeL 7 rfl (by decide +kernel) (H) rfl (by intro u hu; go_simp; rfl) ?_; (try simp only [Act.put, List.setIfInBounds_toArray, List.set_cons_succ, List.set_cons_zero])); (refine bTakeL 10 rfl (by decide +kernel) (H) rfl (by intro u hu; go_simp; rfl) ?_; (try simp only [Act.put, List.setIfInBounds_toArray, List.set_cons_succ, List.set_cons_zero])); (refine bTakeL 12 rfl (by decide +kernel) (H) rfl (by intro u hu; go_simp; rfl) ?_; (try simp only [Act.put, List.setIfInBounds_toArray, List.set_cons_succ, List.set_cons_zero])); (refine bTakeL 15 rfl (by decide +kernel) (H) rfl (by intro u hu; go_simp; rfl) ?_; (try simp only [Act.put, List.setIfInBounds_toArray, List.set_cons_succ, List.set_cons_zero])); (refine bTakeL 17 rfl (by decide +kernel) (H) rfl (by intro u hu; go_simp; rfl) ?_; (try simp only [Act.put, List.setIfInBounds_toArray, List.set_cons_succ, List.set_cons_zero])); (refine bTakeL 20 rfl (by decide +kernel) (H) rfl (by intro u hu; go_simp; rfl) ?_; (try simp only [Act.put, List.setIfInBounds_toArray, List.set_cons_succ, List.set_cons_zero])); (refine bTakeL 22 rfl (by decide +kernel) (H) rfl (by intro u hu; go_simp; rfl) ?_; (try simp only [Act.put, List.setIfInBounds_toArray, List.set_cons_succ, List.set_cons_zero])); (refine bTakeL 1 rfl (by decide +kernel) (H) rfl (fun u hu => run_ld 1 hu rfl rfl rfl T3 rfl) ?_; (try simp only [Act.put, List.setIfInBounds_toArray, List.set_cons_succ, List.set_cons_zero])); (refine bTakeL 3 rfl (by decide +kernel) (H) rfl (fun u hu => run_ld 0 hu rfl rfl rfl T3 rfl) ?_; (try simp only [Act.put, List.setIfInBounds_toArray, List.set_cons_succ, List.set_cons_zero])); (refine bTakeL 6 rfl (by decide +kernel) (H) rfl (fun u hu => run_ld 1 hu rfl rfl rfl T3 rfl) ?_; (try simp only [Act.put, List.setIfInBounds_toArray, List.set_cons_succ, List.set_cons_zero])); (refine bTakeL 8 rfl (by decide +kernel) (H) rfl (fun u hu => run_ld 0 hu rfl rfl rfl T3 rfl) ?_; (try simp only [Act.put, List.setIfInBounds_toArray, List.set_cons_succ, List.set_cons_zero])); (refine bTakeL 11 rfl (by decide +kernel) (H) rfl (fun u hu => run_ld 1 hu rfl rfl rfl T3 rfl) ?_; (try simp only [Act.put, List.setIfInBounds_toArray, List.set_cons_succ, List.set_cons_zero])); (refine bTakeL 13 rfl (by decide +kernel) (H) rfl (fun u hu => run_ld 0 hu rfl rfl rfl T3 rfl) ?_; (try simp only [Act.put, List.setIfInBounds_toArray, List.set_cons_succ, List.set_cons_zero])); (refine bTakeL 16 rfl (by decide +kernel) (H) rfl (fun u hu => run_ld 1 hu rfl rfl rfl T31 rfl) ?_; (try simp only [Act.put, List.setIfInBounds_toArray, List.set_cons_succ, List.set_cons_zero])); (refine bTakeL 18 rfl (by decide +kernel) (H) rfl (fun u hu => run_ld 0 hu rfl rfl rfl T31 rfl) ?_; (try simp only [Act.put, List.setIfInBounds_toArray, List.set_cons_succ, List.set_cons_zero])); (refine bTakeL 21 rfl (by decide +kernel) (H) rfl (fun u hu => run_ld 1 hu rfl rfl rfl T9 rfl) ?_; (try simp only [Act.put, List.setIfInBounds_toArray, List.set_cons_succ, List.set_cons_zero])); (refine bTakeL 23 rfl (by decide +kernel) (H) rfl (fun u hu => run_ld 0 hu rfl rfl rfl T9 rfl) ?_; (try simp only [Act.put, List.setIfInBounds_toArray, List.set_cons_succ, List.set_cons_zero])); (refine bOneL 4 (by decide +kernel) rfl rfl ?_); (intro K hK; go_simp; go_at_call 66; (with_reducible refine (Cmp_i H x1 y1).mono ?_); rintro e w1 ⟨rfl, H1⟩; clear H; have H := H1; clear H1; (try simp only []); refine hK _ _ (H) ?_; clear hK K; (try simp only [Act.put, List.setIfInBounds_toArray, List.set_cons_succ, List.set_cons_zero]); (refine bOneL 9 (by decide +kernel) rfl rfl ?_); (intro K hK; go_simp; go_at_call 66; (with_reducible refine (Cmp_i H x2 y2).mono ?_); rintro e w1 ⟨rfl, H1⟩; clear H; have H := H1; clear H1; (try simp only []); refine hK _ _ (H) ?_; clear hK K; (try simp only [Act.put, List.setIfInBounds_toArray, List.set_cons_succ, List.set_cons_zero]); (refine bOneL 14 (by decide +kernel) rfl rfl ?_); (intro K hK; go_simp; go_at_call 66; (with_reducible refine (Cmp_i H x3 y3).mono ?_); rintro e w1 ⟨rfl, H1⟩; clear H; have H := H1; clear H1; (try simp only []); refine hK _ _ (H) ?_; clear hK K; (try simp only [Act.put, List.setIfInBounds_toArray, List.set_cons_succ, List.set_cons_zero]); (refine bOneL 19 (by decide +kernel) rfl rfl ?_); (intro K hK; go_simp; go_at_call 67; (with_reducible refine (Cmp_u H x4 y4).mono ?_); rintro e w1 ⟨rfl, H1⟩; clear H; have H := H1; clear H1; (try simp only []); refine hK _ _ (H) ?_; clear hK K; (try simp only [Act.put, List.setIfInBounds_toArray, List.set_cons_succ, List.set_cons_zero]); (refine bOneL 24 (by decide +kernel) rfl rfl ?_); (intro K hK; go_simp; go_at_call 68; (with_reducible refine (Cmp_s H x5 y5 HS5.out).mono ?_); rintro e w1 ⟨rfl, H1⟩; clear H; have H := H1; clear H1; (try simp only []); refine hK _ _ (H) ?_; clear hK K; (try simp only [Act.put, List.setIfInBounds_toArray, List.set_cons_succ, List.set_cons_zero]); (refine bOneL 25 (by decide +kernel) rfl rfl ?_); (intro K hK; refine oBsI (zs := [cmpI x1 y1, cmpI x2 y2, cmpI x3 y3, cmpI x4 y4, s5]) H rfl S41 rfl (by decide) (by decide) ?_; clear H; intro bo w1 H; refine hK _ _ ((H).dropAt 0) ?_; clear hK K; (try simp only [Act.put, List.setIfInBounds_toArray, List.set_cons_succ, List.set_cons_zero]); (refine bOneL 26 (by decide +kernel) rfl rfl ?_); (intro K hK; go_simp; go_at_call 65; (with_reducible refine (Or_spec (i := 0) (zs := [cmpI x1 y1, cmpI x2 y2, cmpI x3 y3, cmpI x4 y4, s5]) (N := 5) H rfl rfl (by decide) HC.out).mono ?_); rintro e w1 ⟨rfl, H1⟩; clear H; have H := H1; clear H1; (try simp only []); refine hK _ _ ((H).dropAt 0) ?_; clear hK K; (try simp only [Act.put, List.setIfInBounds_toArray, List.set_cons_succ, List.set_cons_zero]); (refine bTakeL 27 rfl (by decide +kernel) ((H).dropAt 0) rfl (by intro u hu; go_simp; rfl) ?_; (try simp only [Act.put, List.setIfInBounds_toArray, List.set_cons_succ, List.set_cons_zero])); (refine bDone (by decide +kernel) ?_); (replace H := ((H).dropAt 0))))))))))
    | (go_at_call 34; have H9 : Hp w0 D (⟨some by_, [.int .i64 y1, .int .i64 y2, .int .i64 y3, .int .u64 y4, .string y5, .int .i64 y6, .int .i64 y7], 33, 7⟩ :: ⟨some bx, [.int .i64 x1, .int .i64 x2, .int .i64 x3, .int .u64 x4, .string x5, .int .i64 x6, .int .i64 x7], 33, 7⟩ :: R) _ := H; ((with_reducible refine (rec1 H9).mono ?_); rintro e w1 ⟨rfl, H1⟩; clear H H9; have H := H1; clear H1))
    | (go_at_call 34; have H9 : Hp w0 D (⟨some by_, [.int .i64 y1, .int .i64 y2, .int .i64 y3, .int .u64 y4, .string y5, .int .i64 y6, .int .i64 y7], 33, 7⟩ :: ⟨some bx, [.int .i64 x1, .int .i64 x2, .int .i64 x3, .int .u64 x4, .string x5, .int .i64 x6, .int .i64 x7], 33, 7⟩ :: R) _ := H; ((with_reducible refine (rec2 H9).mono ?_); rintro e w1 ⟨rfl, H1⟩; clear H H9; have H := H1; clear H1))
    | ((with_reducible refine gLd ?_); refine eLd H rfl rfl ?_; first | ((repeat ((with_reducible refine gEx ?_); first | (refine kLd 0 rfl rfl (by exact TT _ rfl) rfl ?_) | (refine kLdA 0 rfl rfl (by exact TT _ rfl) (Nat.le_of_ble_eq_true rfl) (by simp only [Nd.cells, Nd.zero, LS2]; rfl) ?_) | (refine nxL ?_))); fail_if_success (with_reducible refine gEx ?_)))
    | ((with_reducible refine gSt ?_); (first | (refine eSt H rfl rfl ⟨.int _ _, rfl, ?_⟩) | (refine eSt H rfl rfl ⟨.bool _, rfl, ?_⟩) | (refine eSt H rfl rfl ⟨.slice _ _ _, rfl, ?_⟩) | (refine eSt H rfl rfl ⟨.pointer _, rfl, ?_⟩) | (refine eSt H rfl rfl ⟨.string _, rfl, ?_⟩) | (refine eSt H rfl rfl ⟨.agg (List.toArray _), rfl, ?_⟩)); (first | ((repeat ((with_reducible refine gES ?_); first | (refine kSt 0 rfl rfl (by exact TT _ rfl) rfl (Nat.le_of_ble_eq_true rfl) ?_) | (refine kStA 0 rfl rfl (by exact TT _ rfl) rfl rfl (Nat.le_of_ble_eq_true rfl) ?_) | (refine nxS ?_))); fail_if_success (with_reducible refine gES ?_))); clear H; intro w1 H; simp only [List.set_cons_zero, List.set_cons_succ] at H; (try simp only [lay, LS1, Nat.reduceAdd] at H))
    | ((with_reducible refine gBx ?_); refine bxA H rfl rfl rfl ?_; clear H; intro b1 w1 H)
    | ((with_reducible refine gBs ?_); (first | (refine bs1 H rfl (by exact SS _ rfl) rfl (Nat.le_of_ble_eq_true rfl) (Nat.le_of_ble_eq_true rfl) rfl ?_) | (refine wl_buildSlice0 rfl (by exact SS _ rfl) H ?_)); clear H; intro b1 w1 H)
    | ((with_reducible refine gEq ?_); (first | (refine wl_cmp rfl rfl rfl rfl ?_) | (refine wl_scmp rfl rfl rfl rfl ?_)); intro rb hrb; cases rb <;> (first | (exfalso; simp at hrb; done) | ((try simp only [CS1, gt_iff_lt, ge_iff_le, ne_eq, Decidable.not_not] at hrb); (try subst hrb); (try (exfalso; omega)))))
    | ((with_reducible refine gRg ?_); refine wp_region_text rfl (by decide +kernel) ?_; replace H := H.drew)
    | ((with_reducible refine EndQ.intro ?_ ?_); (· kernel_rfl)))
      all_goals go_ret
      all_goals exact ⟨rfl, H.drop.drop⟩
    · rw [if_neg h0]
      go_enter Try.func34, Try.ntmps34
      go_wp2_with (first
    | (go_at_call 30; first | (have hq := bx; clear hq; (refine (Node_R (n := ⟨y1, y2, y3, y4, y5, y6, y7⟩) H (HPL.out.push [_]) HL.out HNB.out HIB.out).mono ?_); rintro e w1 ⟨rfl, H1⟩; clear H; have H := H1; clear H1; (try simp only [Nd.cells])) | ((refine (Node_R (n := ⟨x1, x2, x3, x4, x5, x6, x7⟩) H HPL.out HL.out HNA.out HIA.out).mono ?_); rintro e w1 ⟨rfl, H1⟩; clear H; have H := H1; clear H1; (try simp only [Nd.cells])))
    | ((with_reducible refine gAl ?_); first | (have hq := bx; clear hq; refine al H Z33 rfl rfl ?_; clear H; intro by_ w1 H) | (refine al H Z33 rfl rfl ?_; clear H; intro bx w1 H))
    | ((with_reducible refine gEq ?_); refine wl_eqN (n := ⟨x1, x2, x3, x4, x5, x6, x7⟩) (m := ⟨y1, y2, y3, y4, y5, y6, y7⟩) rfl HB.out rfl rfl ?_)
    | ((with_reducible refine gRg ?_); refine wp_region_B (fun u => Hp w0 D (⟨some by_, [.int .i64 y1, .int .i64 y2, .int .i64 y3, .int .u64 y4, .string y5, .int .i64 y6, .int .i64 y7], 33, 7⟩ :: ⟨some bx, [.int .i64 x1, .int .i64 x2, .int .i64 x3, .int .u64 x4, .string x5, .int .i64 x6, .int .i64 x7], 33, 7⟩ :: R) u) rfl ?_; replace H := H.drew; (refine bTakeL 0 rfl (by decide +kernel) (H) rfl (by intro u hu; go_simp; rfl) ?_; (try simp only [Act.put, List.setIfInBounds_toArray, List.set_cons_succ, List.set_cons_zero])); (refine bTakeL 2 rfl (by decide +kernel) (H) rfl (by intro u hu; go_simp; rfl) ?_; (try simp only [Act.put, List.setIfInBounds_toArray, List.set_cons_succ, List.set_cons_zero])); (refine bTakeL 5 rfl (by decide +kernel) (H) rfl (by intro u hu; go_simp; rfl) ?_; (try simp only [Act.put, List.setIfInBounds_toArray, List.set_cons_succ, List.set_cons_zero])); (refine bTakeL 7 rfl (by decide +kernel) (H) rfl (by intro u hu; go_simp; rfl) ?_; (try simp only [Act.put, List.setIfInBounds_toArray, List.set_cons_succ, List.set_cons_zero])); (refine bTakeL 10 rfl (by decide +kernel) (H) rfl (by intro u hu; go_simp; rfl) ?_; (try simp only [Act.put, List.setIfInBounds_toArray, List.set_cons_succ, List.set_cons_zero])); (refine bTakeL 12 rfl (by decide +kernel) (H) rfl (by intro u hu; go_simp; rfl) ?_; (try simp only [Act.put, List.setIfInBounds_toArray, List.set_cons_succ, List.set_cons_zero])); (refine bTakeL 15 rfl (by decide +kernel) (H) rfl (by intro u hu; go_simp; rfl) ?_; (try simp only [Act.put, List.setIfInBounds_toArray, List.set_cons_succ, List.set_cons_zero])); (refine bTakeL 17 rfl (by decide +kernel) (H) rfl (by intro u hu; go_simp; rfl) ?_; (try simp only [Act.put, List.setIfInBounds_toArray, List.set_cons_succ, List.set_cons_zero])); (refine bTakeL 20 rfl (by decide +kernel) (H) rfl (by intro u hu; go_simp; rfl) ?_; (try simp only [Act.put, List.setIfInBounds_toArray, List.set_cons_succ, List.set_cons_zero])); (refine bTakeL 22 rfl (by decide +kernel) (H) rfl (by intro u hu; go_simp; rfl) ?_; (try simp only [Act.put, List.setIfInBounds_toArray, List.set_cons_succ, List.set_cons_zero])); (refine bTakeL 1 rfl (by decide +kernel) (H) rfl (fun u hu => run_ld 1 hu rfl rfl rfl T3 rfl) ?_; (try simp only [Act.put, List.setIfInBounds_toArray, List.set_cons_succ, List.set_cons_zero])); (refine bTakeL 3 rfl (by decide +kernel) (H) rfl (fun u hu => run_ld 0 hu rfl rfl rfl T3 rfl) ?_; (try simp only [Act.put, List.setIfInBounds_toArray, List.set_cons_succ, List.set_cons_zero])); (refine bTakeL 6 rfl (by decide +kernel) (H) rfl (fun u hu => run_ld 1 hu rfl rfl rfl T3 rfl) ?_; (try simp only [Act.put, List.setIfInBounds_toArray, List.set_cons_succ, List.set_cons_zero])); (refine bTakeL 8 rfl (by decide +kernel) (H) rfl (fun u hu => run_ld 0 hu rfl rfl rfl T3 rfl) ?_; (try simp only [Act.put, List.setIfInBounds_toArray, List.set_cons_succ, List.set_cons_zero])); (refine bTakeL 11 rfl (by decide +kernel) (H) rfl (fun u hu => run_ld 1 hu rfl rfl rfl T3 rfl) ?_; (try simp only [Act.put, List.setIfInBounds_toArray, List.set_cons_succ, List.set_cons_zero])); (refine bTakeL 13 rfl (by decide +kernel) (H) rfl (fun u hu => run_ld 0 hu rfl rfl rfl T3 rfl) ?_; (try simp only [Act.put, List.setIfInBounds_toArray, List.set_cons_succ, List.set_cons_zero])); (refine bTakeL 16 rfl (by decide +kernel) (H) rfl (fun u hu => run_ld 1 hu rfl rfl rfl T31 rfl) ?_; (try simp only [Act.put, List.setIfInBounds_toArray, List.set_cons_succ, List.set_cons_zero])); (refine bTakeL 18 rfl (by decide +kernel) (H) rfl (fun u hu => run_ld 0 hu rfl rfl rfl T31 rfl) ?_; (try simp only [Act.put, List.setIfInBounds_toArray, List.set_cons_succ, List.set_cons_zero])); (refine bTakeL 21 rfl (by decide +kernel) (H) rfl (fun u hu => run_ld 1 hu rfl rfl rfl T9 rfl) ?_; (try simp only [Act.put, List.setIfInBounds_toArray, List.set_cons_succ, List.set_cons_zero])); (refine bTakeL 23 rfl (by decide +kernel) (H) rfl (fun u hu => run_ld 0 hu rfl rfl rfl T9 rfl) ?_; (try simp only [Act.put, List.setIfInBounds_toArray, List.set_cons_succ, List.set_cons_zero])); (refine bOneL 4 (by decide +kernel) rfl rfl ?_); (intro K hK; go_simp; go_at_call 66; (with_reducible refine (Cmp_i H x1 y1).mono ?_); rintro e w1 ⟨rfl, H1⟩; clear H; have H := H1; clear H1; (try simp only []); refine hK _ _ (H) ?_; clear hK K; (try simp only [Act.put, List.setIfInBounds_toArray, List.set_cons_succ, List.set_cons_zero]); (refine bOneL 9 (by decide +kernel) rfl rfl ?_); (intro K hK; go_simp; go_at_call 66; (with_reducible refine (Cmp_i H x2 y2).mono ?_); rintro e w1 ⟨rfl, H1⟩; clear H; have H := H1; clear H1; (try simp only []); refine hK _ _ (H) ?_; clear hK K; (try simp only [Act.put, List.setIfInBounds_toArray, List.set_cons_succ, List.set_cons_zero]); (refine bOneL 14 (by decide +kernel) rfl rfl ?_); (intro K hK; go_simp; go_at_call 66; (with_reducible refine (Cmp_i H x3 y3).mono ?_); rintro e w1 ⟨rfl, H1⟩; clear H; have H := H1; clear H1; (try simp only []); refine hK _ _ (H) ?_; clear hK K; (try simp only [Act.put, List.setIfInBounds_toArray, List.set_cons_succ, List.set_cons_zero]); (refine bOneL 19 (by decide +kernel) rfl rfl ?_); (intro K hK; go_simp; go_at_call 67; (with_reducible refine (Cmp_u H x4 y4).mono ?_); rintro e w1 ⟨rfl, H1⟩; clear H; have H := H1; clear H1; (try simp only []); refine hK _ _ (H) ?_; clear hK K; (try simp only [Act.put, List.setIfInBounds_toArray, List.set_cons_succ, List.set_cons_zero]); (refine bOneL 24 (by decide +kernel) rfl rfl ?_); (intro K hK; go_simp; go_at_call 68; (with_reducible refine (Cmp_s H x5 y5 HS5.out).mono ?_); rintro e w1 ⟨rfl, H1⟩; clear H; have H := H1; clear H1; (try simp only []); refine hK _ _ (H) ?_; clear hK K; (try simp only [Act.put, List.setIfInBounds_toArray, List.set_cons_succ, List.set_cons_zero]); (refine bOneL 25 (by decide +kernel) rfl rfl ?_); (intro K hK; refine oBsI (zs := [cmpI x1 y1, cmpI x2 y2, cmpI x3 y3, cmpI x4 y4, s5]) H rfl S41 rfl (by decide) (by decide) ?_; clear H; intro bo w1 H; refine hK _ _ ((H).dropAt 0) ?_; clear hK K; (try simp only [Act.put, List.setIfInBounds_toArray, List.set_cons_succ, List.set_cons_zero]); (refine bOneL 26 (by decide +kernel) rfl rfl ?_); (intro K hK; go_simp; go_at_call 65; (with_reducible refine (Or_spec (i := 0) (zs := [cmpI x1 y1, cmpI x2 y2, cmpI x3 y3, cmpI x4 y4, s5]) (N := 5) H rfl rfl (by decide) HC.out).mono ?_); rintro e w1 ⟨rfl, H1⟩; clear H; have H := H1; clear H1; (try simp only []); refine hK _ _ ((H).dropAt 0) ?_; clear hK K; (try simp only [Act.put, List.setIfInBounds_toArray, List.set_cons_succ, List.set_cons_zero]); (refine bTakeL 27 rfl (by decide +kernel) ((H).dropAt 0) rfl (by intro u hu; go_simp; rfl) ?_; (try simp only [Act.put, List.setIfInBounds_toArray, List.set_cons_succ, List.set_cons_zero])); (refine bDone (by decide +kernel) ?_); (replace H := ((H).dropAt 0))))))))))
    | (go_at_call 34; have H9 : Hp w0 D (⟨some by_, [.int .i64 y1, .int .i64 y2, .int .i64 y3, .int .u64 y4, .string y5, .int .i64 y6, .int .i64 y7], 33, 7⟩ :: ⟨some bx, [.int .i64 x1, .int .i64 x2, .int .i64 x3, .int .u64 x4, .string x5, .int .i64 x6, .int .i64 x7], 33, 7⟩ :: R) _ := H; ((with_reducible refine (rec1 H9).mono ?_); rintro e w1 ⟨rfl, H1⟩; clear H H9; have H := H1; clear H1))
    | (go_at_call 34; have H9 : Hp w0 D (⟨some by_, [.int .i64 y1, .int .i64 y2, .int .i64 y3, .int .u64 y4, .string y5, .int .i64 y6, .int .i64 y7], 33, 7⟩ :: ⟨some bx, [.int .i64 x1, .int .i64 x2, .int .i64 x3, .int .u64 x4, .string x5, .int .i64 x6, .int .i64 x7], 33, 7⟩ :: R) _ := H; ((with_reducible refine (rec2 H9).mono ?_); rintro e w1 ⟨rfl, H1⟩; clear H H9; have H := H1; clear H1))
    | ((with_reducible refine gLd ?_); refine eLd H rfl rfl ?_; first | ((repeat ((with_reducible refine gEx ?_); first | (refine kLd 0 rfl rfl (by exact TT _ rfl) rfl ?_) | (refine kLdA 0 rfl rfl (by exact TT _ rfl) (Nat.le_of_ble_eq_true rfl) (by simp only [Nd.cells, Nd.zero, LS2]; rfl) ?_) | (refine nxL ?_))); fail_if_success (with_reducible refine gEx ?_)))
    | ((with_reducible refine gSt ?_); (first | (refine eSt H rfl rfl ⟨.int _ _, rfl, ?_⟩) | (refine eSt H rfl rfl ⟨.bool _, rfl, ?_⟩) | (refine eSt H rfl rfl ⟨.slice _ _ _, rfl, ?_⟩) | (refine eSt H rfl rfl ⟨.pointer _, rfl, ?_⟩) | (refine eSt H rfl rfl ⟨.string _, rfl, ?_⟩) | (refine eSt H rfl rfl ⟨.agg (List.toArray _), rfl, ?_⟩)); (first | ((repeat ((with_reducible refine gES ?_); first | (refine kSt 0 rfl rfl (by exact TT _ rfl) rfl (Nat.le_of_ble_eq_true rfl) ?_) | (refine kStA 0 rfl rfl (by exact TT _ rfl) rfl rfl (Nat.le_of_ble_eq_true rfl) ?_) | (refine nxS ?_))); fail_if_success (with_reducible refine gES ?_))); clear H; intro w1 H; simp only [List.set_cons_zero, List.set_cons_succ] at H; (try simp only [lay, LS1, Nat.reduceAdd] at H))
    | ((with_reducible refine gBx ?_); refine bxA H rfl rfl rfl ?_; clear H; intro b1 w1 H)
    | ((with_reducible refine gBs ?_); (first | (refine bs1 H rfl (by exact SS _ rfl) rfl (Nat.le_of_ble_eq_true rfl) (Nat.le_of_ble_eq_true rfl) rfl ?_) | (refine wl_buildSlice0 rfl (by exact SS _ rfl) H ?_)); clear H; intro b1 w1 H)
    | ((with_reducible refine gEq ?_); (first | (refine wl_cmp rfl rfl rfl rfl ?_) | (refine wl_scmp rfl rfl rfl rfl ?_)); intro rb hrb; cases rb <;> (first | (exfalso; simp at hrb; done) | ((try simp only [CS1, gt_iff_lt, ge_iff_le, ne_eq, Decidable.not_not] at hrb); (try subst hrb); (try (exfalso; omega)))))
    | ((with_reducible refine gRg ?_); refine wp_region_text rfl (by decide +kernel) ?_; replace H := H.drew)
    | ((with_reducible refine EndQ.intro ?_ ?_); (· kernel_rfl)))
      all_goals go_ret
      all_goals exact ⟨rfl, H.drop.drop⟩
end Go.Proofs.Ytebecelhcpljaaa
