/- The order of terms: the document's Compare. -/
import Derived.Test.YtebecelhcpljaaaW34
import Derived.Deep.Cut
import Derived.WalkKit
import Derived.Lib.Hide
import Derived.Deep.LoopGhost
import Derived.WalkSpells
set_option linter.unusedVariables false
set_option linter.unusedSimpArgs false
namespace Go.Proofs.Ytebecelhcpljaaa
open Go.RowKit Go.Gx Go.Gx.Trm
set_option maxRecDepth 100000
set_option maxHeartbeats 16000000 in
theorem rCmp_out {w0 : World} {D : Nat → Prop} {p fu : Nat} {l : List En} {R : List Ent} {w : World} {a b : Int} (hl : l.length ≤ 65536) (H : Hp w0 D R w) (hp : PlQ R p l) (h : ¬ (inP l a = true ∧ inP l b = true)) : Calls Try.prog 35 #[.pointer (some ⟨p, 0, none⟩), .int .i64 a, .int .i64 b] w fun e w' => e = .returned (.int .i64 (cmpI (b2i (inP l a)) (b2i (inP l b)))) ∧ Hp w0 D R w' := by
  obtain ⟨⟨x1, x2, x3, x4, x5, x6, x7⟩, hx⟩ : ∃ n, nodeQ l a = n := ⟨_, rfl⟩
  obtain ⟨⟨y1, y2, y3, y4, y5, y6, y7⟩, hy⟩ : ∃ n, nodeQ l b = n := ⟨_, rfl⟩
  have HPL := Lib.hid hp
  have HL := Lib.hid hl
  have HNA : Hid (nodeP l a = ⟨x1, x2, x3, x4, x5, x6, x7⟩) := Lib.hid hx
  have HNB : Hid (nodeP l b = ⟨y1, y2, y3, y4, y5, y6, y7⟩) := Lib.hid hy
  cases ha : inP l a <;> cases hb : inP l b
  · skip
    have HIA : Hid (inP l a = false) := Lib.hid ha
    have HIB : Hid (inP l b = false) := Lib.hid hb
    have e9 : cmpI (b2i false) (b2i false) = cmpI 0 0 := rfl
    rw [e9]
    clear e9 hl hp hx hy ha hb h
    go_enter Try.func35, Try.ntmps35
    go_wp2_with (first
    | (go_at_call 52; first | (have hq := bx; clear hq; (refine (rNode_R H (HPL.out.push [_]) HL.out HNB.out HIB.out).mono ?_); rintro e w1 ⟨rfl, H1⟩; clear H; have H := H1; clear H1; (try simp only [Nd.cells])) | ((refine (rNode_R H HPL.out HL.out HNA.out HIA.out).mono ?_); rintro e w1 ⟨rfl, H1⟩; clear H; have H := H1; clear H1; (try simp only [Nd.cells])))
    | ((with_reducible refine gAl ?_); first | (have hq := bx; clear hq; refine al H Z33 rfl rfl ?_; clear H; intro by_ w1 H) | (refine al H Z33 rfl rfl ?_; clear H; intro bx w1 H))
    | (go_at_call 69; ((with_reducible refine (order_ H _ _).mono ?_); rintro e w1 ⟨rfl, H1⟩; clear H; have H := H1; clear H1))
    | ((with_reducible refine gLd ?_); refine eLd H rfl rfl ?_; first | ((repeat ((with_reducible refine gEx ?_); first | (refine kLd 0 rfl rfl (by exact TT _ rfl) rfl ?_) | (refine kLdA 0 rfl rfl (by exact TT _ rfl) (Nat.le_of_ble_eq_true rfl) (by simp only [Nd.cells, Nd.zero, LS2]; rfl) ?_) | (refine nxL ?_))); fail_if_success (with_reducible refine gEx ?_)))
    | ((with_reducible refine gSt ?_); (first | (refine eSt H rfl rfl ⟨.int _ _, rfl, ?_⟩) | (refine eSt H rfl rfl ⟨.bool _, rfl, ?_⟩) | (refine eSt H rfl rfl ⟨.slice _ _ _, rfl, ?_⟩) | (refine eSt H rfl rfl ⟨.pointer _, rfl, ?_⟩) | (refine eSt H rfl rfl ⟨.string _, rfl, ?_⟩) | (refine eSt H rfl rfl ⟨.agg (List.toArray _), rfl, ?_⟩)); (first | ((repeat ((with_reducible refine gES ?_); first | (refine kSt 0 rfl rfl (by exact TT _ rfl) rfl (Nat.le_of_ble_eq_true rfl) ?_) | (refine kStA 0 rfl rfl (by exact TT _ rfl) rfl rfl (Nat.le_of_ble_eq_true rfl) ?_) | (refine nxS ?_))); fail_if_success (with_reducible refine gES ?_))); clear H; intro w1 H; simp only [List.set_cons_zero, List.set_cons_succ] at H; (try simp only [lay, LS1, Nat.reduceAdd] at H))
    | ((with_reducible refine gBx ?_); refine bxA H rfl rfl rfl ?_; clear H; intro b1 w1 H)
    | ((with_reducible refine gBs ?_); (first | (refine bs1 H rfl (by exact SS _ rfl) rfl (Nat.le_of_ble_eq_true rfl) (Nat.le_of_ble_eq_true rfl) rfl ?_) | (refine wl_buildSlice0 rfl (by exact SS _ rfl) H ?_)); clear H; intro b1 w1 H)
    | ((with_reducible refine gEq ?_); (first | (refine wl_cmp rfl rfl rfl rfl ?_) | (refine wl_scmp rfl rfl rfl rfl ?_)); intro rb hrb; cases rb <;> (first | (exfalso; simp at hrb; done) | ((try simp only [CS1, gt_iff_lt, ge_iff_le, ne_eq, Decidable.not_not] at hrb); (try subst hrb); (try (exfalso; omega)))))
    | ((with_reducible refine gRg ?_); refine wp_region_text rfl (by decide +kernel) ?_; replace H := H.drew)
    | ((with_reducible refine EndQ.intro ?_ ?_); (· kernel_rfl)))
    go_ret
    exact ⟨rfl, H.drop.drop⟩
  · skip
    have HIA : Hid (inP l a = false) := Lib.hid ha
    have HIB : Hid (inP l b = true) := Lib.hid hb
    have e9 : cmpI (b2i false) (b2i true) = cmpI 0 1 := rfl
    rw [e9]
    clear e9 hl hp hx hy ha hb h
    go_enter Try.func35, Try.ntmps35
    go_wp2_with (first
    | (go_at_call 52; first | (have hq := bx; clear hq; (refine (rNode_R H (HPL.out.push [_]) HL.out HNB.out HIB.out).mono ?_); rintro e w1 ⟨rfl, H1⟩; clear H; have H := H1; clear H1; (try simp only [Nd.cells])) | ((refine (rNode_R H HPL.out HL.out HNA.out HIA.out).mono ?_); rintro e w1 ⟨rfl, H1⟩; clear H; have H := H1; clear H1; (try simp only [Nd.cells])))
    | ((with_reducible refine gAl ?_); first | (have hq := bx; clear hq; refine al H Z33 rfl rfl ?_; clear H; intro by_ w1 H) | (refine al H Z33 rfl rfl ?_; clear H; intro bx w1 H))
    | (go_at_call 69; ((with_reducible refine (order_ H _ _).mono ?_); rintro e w1 ⟨rfl, H1⟩; clear H; have H := H1; clear H1))
    | ((with_reducible refine gLd ?_); refine eLd H rfl rfl ?_; first | ((repeat ((with_reducible refine gEx ?_); first | (refine kLd 0 rfl rfl (by exact TT _ rfl) rfl ?_) | (refine kLdA 0 rfl rfl (by exact TT _ rfl) (Nat.le_of_ble_eq_true rfl) (by simp only [Nd.cells, Nd.zero, LS2]; rfl) ?_) | (refine nxL ?_))); fail_if_success (with_reducible refine gEx ?_)))
    | ((with_reducible refine gSt ?_); (first | (refine eSt H rfl rfl ⟨.int _ _, rfl, ?_⟩) | (refine eSt H rfl rfl ⟨.bool _, rfl, ?_⟩) | (refine eSt H rfl rfl ⟨.slice _ _ _, rfl, ?_⟩) | (refine eSt H rfl rfl ⟨.pointer _, rfl, ?_⟩) | (refine eSt H rfl rfl ⟨.string _, rfl, ?_⟩) | (refine eSt H rfl rfl ⟨.agg (List.toArray _), rfl, ?_⟩)); (first | ((repeat ((with_reducible refine gES ?_); first | (refine kSt 0 rfl rfl (by exact TT _ rfl) rfl (Nat.le_of_ble_eq_true rfl) ?_) | (refine kStA 0 rfl rfl (by exact TT _ rfl) rfl rfl (Nat.le_of_ble_eq_true rfl) ?_) | (refine nxS ?_))); fail_if_success (with_reducible refine gES ?_))); clear H; intro w1 H; simp only [List.set_cons_zero, List.set_cons_succ] at H; (try simp only [lay, LS1, Nat.reduceAdd] at H))
    | ((with_reducible refine gBx ?_); refine bxA H rfl rfl rfl ?_; clear H; intro b1 w1 H)
    | ((with_reducible refine gBs ?_); (first | (refine bs1 H rfl (by exact SS _ rfl) rfl (Nat.le_of_ble_eq_true rfl) (Nat.le_of_ble_eq_true rfl) rfl ?_) | (refine wl_buildSlice0 rfl (by exact SS _ rfl) H ?_)); clear H; intro b1 w1 H)
    | ((with_reducible refine gEq ?_); (first | (refine wl_cmp rfl rfl rfl rfl ?_) | (refine wl_scmp rfl rfl rfl rfl ?_)); intro rb hrb; cases rb <;> (first | (exfalso; simp at hrb; done) | ((try simp only [CS1, gt_iff_lt, ge_iff_le, ne_eq, Decidable.not_not] at hrb); (try subst hrb); (try (exfalso; omega)))))
    | ((with_reducible refine gRg ?_); refine wp_region_text rfl (by decide +kernel) ?_; replace H := H.drew)
    | ((with_reducible refine EndQ.intro ?_ ?_); (· kernel_rfl)))
    go_ret
    exact ⟨rfl, H.drop.drop⟩
  · skip
    have HIA : Hid (inP l a = true) := Lib.hid ha
    have HIB : Hid (inP l b = false) := Lib.hid hb
    have e9 : cmpI (b2i true) (b2i false) = cmpI 1 0 := rfl
    rw [e9]
    clear e9 hl hp hx hy ha hb h
    go_enter Try.func35, Try.ntmps35
    go_wp2_with (first
    | (go_at_call 52; first | (have hq := bx; clear hq; (refine (rNode_R H (HPL.out.push [_]) HL.out HNB.out HIB.out).mono ?_); rintro e w1 ⟨rfl, H1⟩; clear H; have H := H1; clear H1; (try simp only [Nd.cells])) | ((refine (rNode_R H HPL.out HL.out HNA.out HIA.out).mono ?_); rintro e w1 ⟨rfl, H1⟩; clear H; have H := H1; clear H1; (try simp only [Nd.cells])))
    | ((with_reducible refine gAl ?_); first | (have hq := bx; clear hq; refine al H Z33 rfl rfl ?_; clear H; intro by_ w1 H) | (refine al H Z33 rfl rfl ?_; clear H; intro bx w1 H))
    | (go_at_call 69; ((with_reducible refine (order_ H _ _).mono ?_); rintro e w1 ⟨rfl, H1⟩; clear H; have H := H1; clear H1))
    | ((with_reducible refine gLd ?_); refine eLd H rfl rfl ?_; first | ((repeat ((with_reducible refine gEx ?_); first | (refine kLd 0 rfl rfl (by exact TT _ rfl) rfl ?_) | (refine kLdA 0 rfl rfl (by exact TT _ rfl) (Nat.le_of_ble_eq_true rfl) (by simp only [Nd.cells, Nd.zero, LS2]; rfl) ?_) | (refine nxL ?_))); fail_if_success (with_reducible refine gEx ?_)))
    | ((with_reducible refine gSt ?_); (first | (refine eSt H rfl rfl ⟨.int _ _, rfl, ?_⟩) | (refine eSt H rfl rfl ⟨.bool _, rfl, ?_⟩) | (refine eSt H rfl rfl ⟨.slice _ _ _, rfl, ?_⟩) | (refine eSt H rfl rfl ⟨.pointer _, rfl, ?_⟩) | (refine eSt H rfl rfl ⟨.string _, rfl, ?_⟩) | (refine eSt H rfl rfl ⟨.agg (List.toArray _), rfl, ?_⟩)); (first | ((repeat ((with_reducible refine gES ?_); first | (refine kSt 0 rfl rfl (by exact TT _ rfl) rfl (Nat.le_of_ble_eq_true rfl) ?_) | (refine kStA 0 rfl rfl (by exact TT _ rfl) rfl rfl (Nat.le_of_ble_eq_true rfl) ?_) | (refine nxS ?_))); fail_if_success (with_reducible refine gES ?_))); clear H; intro w1 H; simp only [List.set_cons_zero, List.set_cons_succ] at H; (try simp only [lay, LS1, Nat.reduceAdd] at H))
    | ((with_reducible refine gBx ?_); refine bxA H rfl rfl rfl ?_; clear H; intro b1 w1 H)
    | ((with_reducible refine gBs ?_); (first | (refine bs1 H rfl (by exact SS _ rfl) rfl (Nat.le_of_ble_eq_true rfl) (Nat.le_of_ble_eq_true rfl) rfl ?_) | (refine wl_buildSlice0 rfl (by exact SS _ rfl) H ?_)); clear H; intro b1 w1 H)
    | ((with_reducible refine gEq ?_); (first | (refine wl_cmp rfl rfl rfl rfl ?_) | (refine wl_scmp rfl rfl rfl rfl ?_)); intro rb hrb; cases rb <;> (first | (exfalso; simp at hrb; done) | ((try simp only [CS1, gt_iff_lt, ge_iff_le, ne_eq, Decidable.not_not] at hrb); (try subst hrb); (try (exfalso; omega)))))
    | ((with_reducible refine gRg ?_); refine wp_region_text rfl (by decide +kernel) ?_; replace H := H.drew)
    | ((with_reducible refine EndQ.intro ?_ ?_); (· kernel_rfl)))
    go_ret
    exact ⟨rfl, H.drop.drop⟩
  · exact absurd ⟨ha, hb⟩ h
set_option maxHeartbeats 16000000 in
theorem rCmp_same {w0 : World} {D : Nat → Prop} {p fu : Nat} {l : List En} {R : List Ent} {w : World} {a b : Int} (hl : l.length ≤ 65536) (H : Hp w0 D R w) (hp : PlQ R p l) (ha : inP l a = true) (h : a = b) : Calls Try.prog 35 #[.pointer (some ⟨p, 0, none⟩), .int .i64 a, .int .i64 b] w fun e w' => e = .returned (.int .i64 (0)) ∧ Hp w0 D R w' := by
  subst h
  obtain ⟨⟨x1, x2, x3, x4, x5, x6, x7⟩, hx⟩ : ∃ n, nodeQ l a = n := ⟨_, rfl⟩
  have HPL := Lib.hid hp
  have HL := Lib.hid hl
  have HNA : Hid (nodeP l a = ⟨x1, x2, x3, x4, x5, x6, x7⟩) := Lib.hid hx
  have HNB := HNA
  have HIA := Lib.hid ha
  have HIB := HIA
  clear hl hp hx ha
  go_enter Try.func35, Try.ntmps35
  go_wp2_with (first
    | (go_at_call 52; first | (have hq := bx; clear hq; (refine (rNode_R H (HPL.out.push [_]) HL.out HNB.out HIB.out).mono ?_); rintro e w1 ⟨rfl, H1⟩; clear H; have H := H1; clear H1; (try simp only [Nd.cells])) | ((refine (rNode_R H HPL.out HL.out HNA.out HIA.out).mono ?_); rintro e w1 ⟨rfl, H1⟩; clear H; have H := H1; clear H1; (try simp only [Nd.cells])))
    | ((with_reducible refine gAl ?_); first | (have hq := bx; clear hq; refine al H Z33 rfl rfl ?_; clear H; intro by_ w1 H) | (refine al H Z33 rfl rfl ?_; clear H; intro bx w1 H))
    | ((with_reducible refine gLd ?_); refine eLd H rfl rfl ?_; first | ((repeat ((with_reducible refine gEx ?_); first | (refine kLd 0 rfl rfl (by exact TT _ rfl) rfl ?_) | (refine kLdA 0 rfl rfl (by exact TT _ rfl) (Nat.le_of_ble_eq_true rfl) (by simp only [Nd.cells, Nd.zero, LS2]; rfl) ?_) | (refine nxL ?_))); fail_if_success (with_reducible refine gEx ?_)))
    | ((with_reducible refine gSt ?_); (first | (refine eSt H rfl rfl ⟨.int _ _, rfl, ?_⟩) | (refine eSt H rfl rfl ⟨.bool _, rfl, ?_⟩) | (refine eSt H rfl rfl ⟨.slice _ _ _, rfl, ?_⟩) | (refine eSt H rfl rfl ⟨.pointer _, rfl, ?_⟩) | (refine eSt H rfl rfl ⟨.string _, rfl, ?_⟩) | (refine eSt H rfl rfl ⟨.agg (List.toArray _), rfl, ?_⟩)); (first | ((repeat ((with_reducible refine gES ?_); first | (refine kSt 0 rfl rfl (by exact TT _ rfl) rfl (Nat.le_of_ble_eq_true rfl) ?_) | (refine kStA 0 rfl rfl (by exact TT _ rfl) rfl rfl (Nat.le_of_ble_eq_true rfl) ?_) | (refine nxS ?_))); fail_if_success (with_reducible refine gES ?_))); clear H; intro w1 H; simp only [List.set_cons_zero, List.set_cons_succ] at H; (try simp only [lay, LS1, Nat.reduceAdd] at H))
    | ((with_reducible refine gBx ?_); refine bxA H rfl rfl rfl ?_; clear H; intro b1 w1 H)
    | ((with_reducible refine gBs ?_); (first | (refine bs1 H rfl (by exact SS _ rfl) rfl (Nat.le_of_ble_eq_true rfl) (Nat.le_of_ble_eq_true rfl) rfl ?_) | (refine wl_buildSlice0 rfl (by exact SS _ rfl) H ?_)); clear H; intro b1 w1 H)
    | ((with_reducible refine gEq ?_); (first | (refine wl_cmp rfl rfl rfl rfl ?_) | (refine wl_scmp rfl rfl rfl rfl ?_)); intro rb hrb; cases rb <;> (first | (exfalso; simp at hrb; done) | ((try simp only [CS1, gt_iff_lt, ge_iff_le, ne_eq, Decidable.not_not] at hrb); (try subst hrb); (try (exfalso; omega)))))
    | ((with_reducible refine gRg ?_); refine wp_region_text rfl (by decide +kernel) ?_; replace H := H.drew)
    | ((with_reducible refine EndQ.intro ?_ ?_); (· kernel_rfl)))
  go_ret
  exact ⟨rfl, H.drop.drop⟩
set_option maxHeartbeats 64000000 in
theorem rCmp_both {w0 : World} {D : Nat → Prop} {p fu : Nat} {l : List En} {R : List Ent} {w : World} {a b : Int} {x1 x2 x3 x4 x6 x7 y1 y2 y3 y4 y6 y7 k1 k2 k3 c0 d1 d2 r0 : Int} {x5 y5 : ByteArray} {nl tl : List Int} (HL : Hid (l.length ≤ 65536)) (H : Hp w0 D R w) (HPL : Hid (PlQ R p l)) (HIA : Hid (inP l a = true)) (HIB : Hid (inP l b = true)) (hab : ¬ a = b)
    (HNA : Hid (nodeP l a = ⟨x1, x2, x3, x4, x5, x6, x7⟩)) (HNB : Hid (nodeP l b = ⟨y1, y2, y3, y4, y5, y6, y7⟩)) (HK1 : Hid (cmpI x1 y1 = k1)) (HK2 : Hid (cmpI x2 y2 = k2)) (HK3 : Hid (cmpI x3 y3 = k3))
    (hn : (x4 = y4 ∧ nl = []) ∨ (x4 < y4 ∧ nl = [-1]) ∨ (y4 < x4 ∧ nl = [1])) (ht : (x5 = y5 ∧ tl = []) ∨ (Hid ((x5.toList == y5.toList) = false) ∧ Hid (Op.bytesLess x5.toList y5.toList = true) ∧ tl = [-1]) ∨ (Hid ((x5.toList == y5.toList) = false) ∧ Hid (Op.bytesLess x5.toList y5.toList = false) ∧ tl = [1]))
    (hc : orE ([k1, k2, k3] ++ nl ++ tl) = c0) (hr1 : Hid (¬ c0 = 0 → r0 = c0)) (hr2 : Hid (c0 = 0 → (d1 = 0 → r0 = d2) ∧ (¬ d1 = 0 → r0 = d1)))
    (rec1 : ∀ {E1 : Ent} {b1 b2 : Nat} {u : World}, Hp w0 D (E1 :: ⟨some b1, [.int .i64 y1, .int .i64 y2, .int .i64 y3, .int .u64 y4, .string y5, .int .i64 y6, .int .i64 y7], 33, 7⟩ :: ⟨some b2, [.int .i64 x1, .int .i64 x2, .int .i64 x3, .int .u64 x4, .string x5, .int .i64 x6, .int .i64 x7], 33, 7⟩ :: R) u → Calls Try.prog 35 #[.pointer (some ⟨p, 0, none⟩), .int .i64 x6, .int .i64 y6] u fun e w' => e = .returned (.int .i64 d1) ∧ Hp w0 D (E1 :: ⟨some b1, [.int .i64 y1, .int .i64 y2, .int .i64 y3, .int .u64 y4, .string y5, .int .i64 y6, .int .i64 y7], 33, 7⟩ :: ⟨some b2, [.int .i64 x1, .int .i64 x2, .int .i64 x3, .int .u64 x4, .string x5, .int .i64 x6, .int .i64 x7], 33, 7⟩ :: R) w') (rec2 : ∀ {E1 : Ent} {b1 b2 : Nat} {u : World}, Hp w0 D (E1 :: ⟨some b1, [.int .i64 y1, .int .i64 y2, .int .i64 y3, .int .u64 y4, .string y5, .int .i64 y6, .int .i64 y7], 33, 7⟩ :: ⟨some b2, [.int .i64 x1, .int .i64 x2, .int .i64 x3, .int .u64 x4, .string x5, .int .i64 x6, .int .i64 x7], 33, 7⟩ :: R) u → Calls Try.prog 35 #[.pointer (some ⟨p, 0, none⟩), .int .i64 x7, .int .i64 y7] u fun e w' => e = .returned (.int .i64 d2) ∧ Hp w0 D (E1 :: ⟨some b1, [.int .i64 y1, .int .i64 y2, .int .i64 y3, .int .u64 y4, .string y5, .int .i64 y6, .int .i64 y7], 33, 7⟩ :: ⟨some b2, [.int .i64 x1, .int .i64 x2, .int .i64 x3, .int .u64 x4, .string x5, .int .i64 x6, .int .i64 x7], 33, 7⟩ :: R) w') : Calls Try.prog 35 #[.pointer (some ⟨p, 0, none⟩), .int .i64 a, .int .i64 b] w fun e w' => e = .returned (.int .i64 (r0)) ∧ Hp w0 D R w' := by
  rcases hn with ⟨h4, hnl⟩ | ⟨h4, hnl⟩ | ⟨h4, hnl⟩ <;> rcases ht with ⟨h5, htl⟩ | ⟨HSE, HA1, htl⟩ | ⟨HSE, HA1, htl⟩
  all_goals
    obtain ⟨zs, hzs⟩ : ∃ zs, zs = [k1, k2, k3] ++ nl ++ tl := ⟨_, rfl⟩
    rw [← hzs] at hc
    rw [hnl, htl] at hzs
    simp only [List.cons_append, List.nil_append, List.append_nil] at hzs
    have hlen : zs.length = _ := congrArg List.length hzs
    simp only [List.length_cons, List.length_nil, Nat.zero_add, Nat.reduceAdd] at hlen
    have HZS := Lib.hid hzs
    have HC := Lib.hid hc
    (try subst h4)
    (try subst h5)
    clear hnl htl hzs hc
    go_enter Try.func35, Try.ntmps35
    go_wp2_with (first
        | (go_at_call 52; first | (have hq := bx; clear hq; (refine (rNode_R H (HPL.out.push [_]) HL.out HNB.out HIB.out).mono ?_); rintro e w1 ⟨rfl, H1⟩; clear H; have H := H1; clear H1; (try simp only [Nd.cells])) | ((refine (rNode_R H HPL.out HL.out HNA.out HIA.out).mono ?_); rintro e w1 ⟨rfl, H1⟩; clear H; have H := H1; clear H1; (try simp only [Nd.cells])))
        | ((with_reducible refine gAl ?_); first | (have hq := bx; clear hq; refine al H Z33 rfl rfl ?_; clear H; intro by_ w1 H) | (refine al H Z33 rfl rfl ?_; clear H; intro bx w1 H))
        | ((with_reducible refine gRg ?_); refine wp_region_BH (A := []) H rfl ?_; replace H := H.drew; (try simp only [List.nil_append] at H); (refine bTakeL 0 rfl (by decide +kernel) (H) rfl (by intro u hu; go_simp; rfl) ?_; (try simp only [Act.put, List.setIfInBounds_toArray, List.set_cons_succ, List.set_cons_zero])); (refine bTakeL 2 rfl (by decide +kernel) (H) rfl (by intro u hu; go_simp; rfl) ?_; (try simp only [Act.put, List.setIfInBounds_toArray, List.set_cons_succ, List.set_cons_zero])); (refine bTakeL 5 rfl (by decide +kernel) (H) rfl (by intro u hu; go_simp; rfl) ?_; (try simp only [Act.put, List.setIfInBounds_toArray, List.set_cons_succ, List.set_cons_zero])); (refine bTakeL 7 rfl (by decide +kernel) (H) rfl (by intro u hu; go_simp; rfl) ?_; (try simp only [Act.put, List.setIfInBounds_toArray, List.set_cons_succ, List.set_cons_zero])); (refine bTakeL 10 rfl (by decide +kernel) (H) rfl (by intro u hu; go_simp; rfl) ?_; (try simp only [Act.put, List.setIfInBounds_toArray, List.set_cons_succ, List.set_cons_zero])); (refine bTakeL 12 rfl (by decide +kernel) (H) rfl (by intro u hu; go_simp; rfl) ?_; (try simp only [Act.put, List.setIfInBounds_toArray, List.set_cons_succ, List.set_cons_zero])); (refine bTakeL 1 rfl (by decide +kernel) (H) rfl (fun u hu => run_ld 1 hu rfl rfl rfl T3 rfl) ?_; (try simp only [Act.put, List.setIfInBounds_toArray, List.set_cons_succ, List.set_cons_zero])); (refine bTakeL 3 rfl (by decide +kernel) (H) rfl (fun u hu => run_ld 0 hu rfl rfl rfl T3 rfl) ?_; (try simp only [Act.put, List.setIfInBounds_toArray, List.set_cons_succ, List.set_cons_zero])); (refine bTakeL 6 rfl (by decide +kernel) (H) rfl (fun u hu => run_ld 1 hu rfl rfl rfl T3 rfl) ?_; (try simp only [Act.put, List.setIfInBounds_toArray, List.set_cons_succ, List.set_cons_zero])); (refine bTakeL 8 rfl (by decide +kernel) (H) rfl (fun u hu => run_ld 0 hu rfl rfl rfl T3 rfl) ?_; (try simp only [Act.put, List.setIfInBounds_toArray, List.set_cons_succ, List.set_cons_zero])); (refine bTakeL 11 rfl (by decide +kernel) (H) rfl (fun u hu => run_ld 1 hu rfl rfl rfl T3 rfl) ?_; (try simp only [Act.put, List.setIfInBounds_toArray, List.set_cons_succ, List.set_cons_zero])); (refine bTakeL 13 rfl (by decide +kernel) (H) rfl (fun u hu => run_ld 0 hu rfl rfl rfl T3 rfl) ?_; (try simp only [Act.put, List.setIfInBounds_toArray, List.set_cons_succ, List.set_cons_zero])); (refine bOneL 4 (by decide +kernel) rfl rfl ?_); (intro K hK; go_simp; go_at_call 69; (with_reducible refine (order_ H x1 y1).mono ?_); rintro e w1 ⟨rfl, H1⟩; clear H; have H := H1; clear H1; (try simp only []); rw [HK1.out]; refine hK _ _ (H) ?_; clear hK K; (try simp only [Act.put, List.setIfInBounds_toArray, List.set_cons_succ, List.set_cons_zero]); (refine bOneL 9 (by decide +kernel) rfl rfl ?_); (intro K hK; go_simp; go_at_call 69; (with_reducible refine (order_ H x2 y2).mono ?_); rintro e w1 ⟨rfl, H1⟩; clear H; have H := H1; clear H1; (try simp only []); rw [HK2.out]; refine hK _ _ (H) ?_; clear hK K; (try simp only [Act.put, List.setIfInBounds_toArray, List.set_cons_succ, List.set_cons_zero]); (refine bOneL 14 (by decide +kernel) rfl rfl ?_); (intro K hK; go_simp; go_at_call 69; (with_reducible refine (order_ H x3 y3).mono ?_); rintro e w1 ⟨rfl, H1⟩; clear H; have H := H1; clear H1; (try simp only []); rw [HK3.out]; refine hK _ _ (H) ?_; clear hK K; (try simp only [Act.put, List.setIfInBounds_toArray, List.set_cons_succ, List.set_cons_zero]); (refine bOneL 15 (by decide +kernel) rfl rfl ?_); (intro K hK; refine oBsI (zs := [k1, k2, k3]) H rfl S41 rfl (by decide) (by decide) ?_; clear H; intro bo w1 H; simp only [List.map_cons, List.map_nil] at H; refine hK _ _ ((H).dropAt 0) ?_; clear hK K; (try simp only [Act.put, List.setIfInBounds_toArray, List.set_cons_succ, List.set_cons_zero]); (refine bTakeL 16 rfl (by decide +kernel) ((H).dropAt 0) rfl (by intro u hu; go_simp; rfl) ?_; (try simp only [Act.put, List.setIfInBounds_toArray, List.set_cons_succ, List.set_cons_zero])); (refine bDone (by decide +kernel) ?_); (skip))))))
        | ((with_reducible refine gBs ?_); refine wl_buildSlice1 (v := .int .i64 1) rfl rfl S41 rfl (by decide) (by decide) H ?_; clear H; intro b1 w1 H; replace H : Hp w0 D (⟨some b1, [.int .i64 1], 3, 1⟩ :: _) w1 := H)
        | ((with_reducible refine gAp ?_); refine wl_append 1 0 rfl H rfl rfl rfl rfl S41 (by decide) (Or.inl rfl) rfl rfl (fun h => by cases h) (Nat.le_of_ble_eq_true rfl) rfl (by unfold maxLen; omega) (by omega) ?_; clear H; intro a' c' w1 H h0; (obtain ⟨a9, e9⟩ : ∃ z, a' = some z := (by cases a' with | none => (have := h0 rfl; omega) | some z => exact ⟨z, rfl⟩)); subst e9; clear h0; simp only [List.set_cons_zero, List.set_cons_succ, List.drop_zero, Nat.one_mul, List.take_succ_cons, List.take_zero, List.cons_append, List.nil_append] at H; replace H := H.drop)
        | ((with_reducible refine gEq ?_); refine wl_scmp (r := true) rfl rfl (by simp only [scmpB]; rw [HSE.out]; rfl) rfl ?_; intro rb hrb; subst hrb)
        | ((with_reducible refine gLs ?_); refine wl_slt (m := x5) (n := y5) HA1.out rfl rfl rfl ?_)
        | ((with_reducible refine gLd ?_); refine eLd H rfl rfl ?_; first | ((repeat ((with_reducible refine gEx ?_); first | (refine kLd 0 rfl rfl (by exact TT _ rfl) rfl ?_) | (refine kLdA 0 rfl rfl (by exact TT _ rfl) (Nat.le_of_ble_eq_true rfl) (by simp only [Nd.cells, Nd.zero, LS2]; rfl) ?_) | (refine nxL ?_))); fail_if_success (with_reducible refine gEx ?_)))
        | ((with_reducible refine gSt ?_); (first | (refine eSt H rfl rfl ⟨.int _ _, rfl, ?_⟩) | (refine eSt H rfl rfl ⟨.bool _, rfl, ?_⟩) | (refine eSt H rfl rfl ⟨.slice _ _ _, rfl, ?_⟩) | (refine eSt H rfl rfl ⟨.pointer _, rfl, ?_⟩) | (refine eSt H rfl rfl ⟨.string _, rfl, ?_⟩) | (refine eSt H rfl rfl ⟨.agg (List.toArray _), rfl, ?_⟩)); (first | ((repeat ((with_reducible refine gES ?_); first | (refine kSt 0 rfl rfl (by exact TT _ rfl) rfl (Nat.le_of_ble_eq_true rfl) ?_) | (refine kStA 0 rfl rfl (by exact TT _ rfl) rfl rfl (Nat.le_of_ble_eq_true rfl) ?_) | (refine nxS ?_))); fail_if_success (with_reducible refine gES ?_))); clear H; intro w1 H; simp only [List.set_cons_zero, List.set_cons_succ] at H; (try simp only [lay, LS1, Nat.reduceAdd] at H))
        | ((with_reducible refine gBx ?_); refine bxA H rfl rfl rfl ?_; clear H; intro b1 w1 H)
        | ((with_reducible refine gBs ?_); (first | (refine bs1 H rfl (by exact SS _ rfl) rfl (Nat.le_of_ble_eq_true rfl) (Nat.le_of_ble_eq_true rfl) rfl ?_) | (refine wl_buildSlice0 rfl (by exact SS _ rfl) H ?_)); clear H; intro b1 w1 H)
        | ((with_reducible refine gEq ?_); (first | (refine wl_cmp rfl rfl rfl rfl ?_) | (refine wl_scmp rfl rfl rfl rfl ?_)); intro rb hrb; cases rb <;> (first | (exfalso; simp at hrb; done) | ((try simp only [CS1, gt_iff_lt, ge_iff_le, ne_eq, Decidable.not_not] at hrb); (try subst hrb); (try (exfalso; omega)))))
        | ((with_reducible refine gRg ?_); refine wp_region_text rfl (by decide +kernel) ?_; replace H := H.drew)
        | ((with_reducible refine EndQ.intro ?_ ?_); (· kernel_rfl)))
    obtain ⟨L9, hL, H⟩ := (show ∃ L', L' = _ ∧ Hp w0 D L' _ from ⟨_, rfl, H⟩)
    go_loopg [14] zs.length (fun g v14 wr => ∃ k : Nat, v14 = .int .i64 (k : Int) ∧ k + g = zs.length ∧ Hid (orE (zs.drop k) = c0) ∧ Hp w0 D L9 wr)
    case atStart => exact ⟨0, rfl, by omega, HC, H⟩
    case round =>
      clear H HC
      obtain ⟨k, rfl, hkg, HR, H⟩ := hrel
      subst hL
      have HKG := Lib.hid hkg
      by_cases hk : k < zs.length
      · obtain ⟨z, hz⟩ : ∃ z, zs[k]? = some z := ⟨_, List.getElem?_eq_getElem hk⟩
        have hz9 : (zs.map (Value.int .i64))[k]? = some (.int .i64 z) := by simp [hz]
        rw [HZS.out] at hz9
        have HZ := Lib.hid hz9
        have hst := HR.out
        obtain ⟨hlt, he⟩ := List.getElem?_eq_some_iff.1 hz
        rw [List.drop_eq_getElem_cons hlt, he] at hst
        simp only [orE] at hst
        have hkb : k < 5 := by omega
        by_cases h0 : z = 0
        · subst h0
          rw [if_pos rfl] at hst
          have HR2 := Lib.hid hst
          clear hst hkg HR he hlt hz hz9
          go_wp2_with (first
        | ((with_reducible refine gLd ?_); refine eLd H rfl rfl ?_; refine kLd 0 rfl rfl T3 HZ.out ?_)
        | ((with_reducible refine gLd ?_); refine eLd H rfl rfl ?_; first | ((repeat ((with_reducible refine gEx ?_); first | (refine kLd 0 rfl rfl (by exact TT _ rfl) rfl ?_) | (refine kLdA 0 rfl rfl (by exact TT _ rfl) (Nat.le_of_ble_eq_true rfl) (by simp only [Nd.cells, Nd.zero, LS2]; rfl) ?_) | (refine nxL ?_))); fail_if_success (with_reducible refine gEx ?_)))
        | ((with_reducible refine gSt ?_); (first | (refine eSt H rfl rfl ⟨.int _ _, rfl, ?_⟩) | (refine eSt H rfl rfl ⟨.bool _, rfl, ?_⟩) | (refine eSt H rfl rfl ⟨.slice _ _ _, rfl, ?_⟩) | (refine eSt H rfl rfl ⟨.pointer _, rfl, ?_⟩) | (refine eSt H rfl rfl ⟨.string _, rfl, ?_⟩) | (refine eSt H rfl rfl ⟨.agg (List.toArray _), rfl, ?_⟩)); (first | ((repeat ((with_reducible refine gES ?_); first | (refine kSt 0 rfl rfl (by exact TT _ rfl) rfl (Nat.le_of_ble_eq_true rfl) ?_) | (refine kStA 0 rfl rfl (by exact TT _ rfl) rfl rfl (Nat.le_of_ble_eq_true rfl) ?_) | (refine nxS ?_))); fail_if_success (with_reducible refine gES ?_))); clear H; intro w1 H; simp only [List.set_cons_zero, List.set_cons_succ] at H; (try simp only [lay, LS1, Nat.reduceAdd] at H))
        | ((with_reducible refine gBx ?_); refine bxA H rfl rfl rfl ?_; clear H; intro b1 w1 H)
        | ((with_reducible refine gBs ?_); (first | (refine bs1 H rfl (by exact SS _ rfl) rfl (Nat.le_of_ble_eq_true rfl) (Nat.le_of_ble_eq_true rfl) rfl ?_) | (refine wl_buildSlice0 rfl (by exact SS _ rfl) H ?_)); clear H; intro b1 w1 H)
        | ((with_reducible refine gEq ?_); (first | (refine wl_cmp rfl rfl rfl rfl ?_) | (refine wl_scmp rfl rfl rfl rfl ?_)); intro rb hrb; cases rb <;> (first | (exfalso; simp at hrb; done) | ((try simp only [CS1, gt_iff_lt, ge_iff_le, ne_eq, Decidable.not_not] at hrb); (try subst hrb); (try (exfalso; omega)))))
        | ((with_reducible refine gRg ?_); refine wp_region_text rfl (by decide +kernel) ?_; replace H := H.drew)
        | ((with_reducible refine EndQ.intro ?_ ?_); (· kernel_rfl)))
          go_roundg (gk - 1)
          case measure => have := HKG.out; omega
          case rel => exact ⟨k + 1, by go_num, by have := HKG.out; omega, HR2, H⟩
        · rw [if_neg h0] at hst
          subst hst
          have hr9 := hr1.out h0
          subst hr9
          clear hkg HR he hlt hz hz9
          go_wp2_with (first
        | ((with_reducible refine gLd ?_); refine eLd H rfl rfl ?_; refine kLd 0 rfl rfl T3 HZ.out ?_)
        | ((with_reducible refine gLd ?_); refine eLd H rfl rfl ?_; first | ((repeat ((with_reducible refine gEx ?_); first | (refine kLd 0 rfl rfl (by exact TT _ rfl) rfl ?_) | (refine kLdA 0 rfl rfl (by exact TT _ rfl) (Nat.le_of_ble_eq_true rfl) (by simp only [Nd.cells, Nd.zero, LS2]; rfl) ?_) | (refine nxL ?_))); fail_if_success (with_reducible refine gEx ?_)))
        | ((with_reducible refine gSt ?_); (first | (refine eSt H rfl rfl ⟨.int _ _, rfl, ?_⟩) | (refine eSt H rfl rfl ⟨.bool _, rfl, ?_⟩) | (refine eSt H rfl rfl ⟨.slice _ _ _, rfl, ?_⟩) | (refine eSt H rfl rfl ⟨.pointer _, rfl, ?_⟩) | (refine eSt H rfl rfl ⟨.string _, rfl, ?_⟩) | (refine eSt H rfl rfl ⟨.agg (List.toArray _), rfl, ?_⟩)); (first | ((repeat ((with_reducible refine gES ?_); first | (refine kSt 0 rfl rfl (by exact TT _ rfl) rfl (Nat.le_of_ble_eq_true rfl) ?_) | (refine kStA 0 rfl rfl (by exact TT _ rfl) rfl rfl (Nat.le_of_ble_eq_true rfl) ?_) | (refine nxS ?_))); fail_if_success (with_reducible refine gES ?_))); clear H; intro w1 H; simp only [List.set_cons_zero, List.set_cons_succ] at H; (try simp only [lay, LS1, Nat.reduceAdd] at H))
        | ((with_reducible refine gBx ?_); refine bxA H rfl rfl rfl ?_; clear H; intro b1 w1 H)
        | ((with_reducible refine gBs ?_); (first | (refine bs1 H rfl (by exact SS _ rfl) rfl (Nat.le_of_ble_eq_true rfl) (Nat.le_of_ble_eq_true rfl) rfl ?_) | (refine wl_buildSlice0 rfl (by exact SS _ rfl) H ?_)); clear H; intro b1 w1 H)
        | ((with_reducible refine gEq ?_); (first | (refine wl_cmp rfl rfl rfl rfl ?_) | (refine wl_scmp rfl rfl rfl rfl ?_)); intro rb hrb; cases rb <;> (first | (exfalso; simp at hrb; done) | ((try simp only [CS1, gt_iff_lt, ge_iff_le, ne_eq, Decidable.not_not] at hrb); (try subst hrb); (try (exfalso; omega)))))
        | ((with_reducible refine gRg ?_); refine wp_region_text rfl (by decide +kernel) ?_; replace H := H.drew)
        | ((with_reducible refine EndQ.intro ?_ ?_); (· kernel_rfl)))
          go_ret
          exact ⟨rfl, H.drop.drop.drop⟩
      · have hst := HR.out
        rw [List.drop_of_length_le (by omega)] at hst
        simp only [orE] at hst
        have hr9 := hr2.out hst.symm
        have hkb : zs.length ≤ k := by omega
        clear hkg HR hk hst
        by_cases h0 : d1 = 0
        · have hr9 := hr9.1 h0
          subst hr9 h0
          go_wp2_with (first
        | (go_at_call 35; have H9 : Hp w0 D (_ :: ⟨some by_, [_, _, _, _, _, _, _], 33, 7⟩ :: ⟨some bx, [_, _, _, _, _, _, _], 33, 7⟩ :: R) _ := H; ((with_reducible refine (rec1 H9).mono ?_); rintro e w1 ⟨rfl, H1⟩; clear H H9; have H := H1; clear H1))
        | (go_at_call 35; have H9 : Hp w0 D (_ :: ⟨some by_, [_, _, _, _, _, _, _], 33, 7⟩ :: ⟨some bx, [_, _, _, _, _, _, _], 33, 7⟩ :: R) _ := H; ((with_reducible refine (rec2 H9).mono ?_); rintro e w1 ⟨rfl, H1⟩; clear H H9; have H := H1; clear H1))
        | ((with_reducible refine gLd ?_); refine eLd H rfl rfl ?_; first | ((repeat ((with_reducible refine gEx ?_); first | (refine kLd 0 rfl rfl (by exact TT _ rfl) rfl ?_) | (refine kLdA 0 rfl rfl (by exact TT _ rfl) (Nat.le_of_ble_eq_true rfl) (by simp only [Nd.cells, Nd.zero, LS2]; rfl) ?_) | (refine nxL ?_))); fail_if_success (with_reducible refine gEx ?_)))
        | ((with_reducible refine gSt ?_); (first | (refine eSt H rfl rfl ⟨.int _ _, rfl, ?_⟩) | (refine eSt H rfl rfl ⟨.bool _, rfl, ?_⟩) | (refine eSt H rfl rfl ⟨.slice _ _ _, rfl, ?_⟩) | (refine eSt H rfl rfl ⟨.pointer _, rfl, ?_⟩) | (refine eSt H rfl rfl ⟨.string _, rfl, ?_⟩) | (refine eSt H rfl rfl ⟨.agg (List.toArray _), rfl, ?_⟩)); (first | ((repeat ((with_reducible refine gES ?_); first | (refine kSt 0 rfl rfl (by exact TT _ rfl) rfl (Nat.le_of_ble_eq_true rfl) ?_) | (refine kStA 0 rfl rfl (by exact TT _ rfl) rfl rfl (Nat.le_of_ble_eq_true rfl) ?_) | (refine nxS ?_))); fail_if_success (with_reducible refine gES ?_))); clear H; intro w1 H; simp only [List.set_cons_zero, List.set_cons_succ] at H; (try simp only [lay, LS1, Nat.reduceAdd] at H))
        | ((with_reducible refine gBx ?_); refine bxA H rfl rfl rfl ?_; clear H; intro b1 w1 H)
        | ((with_reducible refine gBs ?_); (first | (refine bs1 H rfl (by exact SS _ rfl) rfl (Nat.le_of_ble_eq_true rfl) (Nat.le_of_ble_eq_true rfl) rfl ?_) | (refine wl_buildSlice0 rfl (by exact SS _ rfl) H ?_)); clear H; intro b1 w1 H)
        | ((with_reducible refine gEq ?_); (first | (refine wl_cmp rfl rfl rfl rfl ?_) | (refine wl_scmp rfl rfl rfl rfl ?_)); intro rb hrb; cases rb <;> (first | (exfalso; simp at hrb; done) | ((try simp only [CS1, gt_iff_lt, ge_iff_le, ne_eq, Decidable.not_not] at hrb); (try subst hrb); (try (exfalso; omega)))))
        | ((with_reducible refine gRg ?_); refine wp_region_text rfl (by decide +kernel) ?_; replace H := H.drew)
        | ((with_reducible refine EndQ.intro ?_ ?_); (· kernel_rfl)))
          go_ret
          exact ⟨rfl, H.drop.drop.drop⟩
        · have hr9 := hr9.2 h0
          subst hr9
          go_wp2_with (first
        | (go_at_call 35; have H9 : Hp w0 D (_ :: ⟨some by_, [_, _, _, _, _, _, _], 33, 7⟩ :: ⟨some bx, [_, _, _, _, _, _, _], 33, 7⟩ :: R) _ := H; ((with_reducible refine (rec1 H9).mono ?_); rintro e w1 ⟨rfl, H1⟩; clear H H9; have H := H1; clear H1))
        | (go_at_call 35; have H9 : Hp w0 D (_ :: ⟨some by_, [_, _, _, _, _, _, _], 33, 7⟩ :: ⟨some bx, [_, _, _, _, _, _, _], 33, 7⟩ :: R) _ := H; ((with_reducible refine (rec2 H9).mono ?_); rintro e w1 ⟨rfl, H1⟩; clear H H9; have H := H1; clear H1))
        | ((with_reducible refine gLd ?_); refine eLd H rfl rfl ?_; first | ((repeat ((with_reducible refine gEx ?_); first | (refine kLd 0 rfl rfl (by exact TT _ rfl) rfl ?_) | (refine kLdA 0 rfl rfl (by exact TT _ rfl) (Nat.le_of_ble_eq_true rfl) (by simp only [Nd.cells, Nd.zero, LS2]; rfl) ?_) | (refine nxL ?_))); fail_if_success (with_reducible refine gEx ?_)))
        | ((with_reducible refine gSt ?_); (first | (refine eSt H rfl rfl ⟨.int _ _, rfl, ?_⟩) | (refine eSt H rfl rfl ⟨.bool _, rfl, ?_⟩) | (refine eSt H rfl rfl ⟨.slice _ _ _, rfl, ?_⟩) | (refine eSt H rfl rfl ⟨.pointer _, rfl, ?_⟩) | (refine eSt H rfl rfl ⟨.string _, rfl, ?_⟩) | (refine eSt H rfl rfl ⟨.agg (List.toArray _), rfl, ?_⟩)); (first | ((repeat ((with_reducible refine gES ?_); first | (refine kSt 0 rfl rfl (by exact TT _ rfl) rfl (Nat.le_of_ble_eq_true rfl) ?_) | (refine kStA 0 rfl rfl (by exact TT _ rfl) rfl rfl (Nat.le_of_ble_eq_true rfl) ?_) | (refine nxS ?_))); fail_if_success (with_reducible refine gES ?_))); clear H; intro w1 H; simp only [List.set_cons_zero, List.set_cons_succ] at H; (try simp only [lay, LS1, Nat.reduceAdd] at H))
        | ((with_reducible refine gBx ?_); refine bxA H rfl rfl rfl ?_; clear H; intro b1 w1 H)
        | ((with_reducible refine gBs ?_); (first | (refine bs1 H rfl (by exact SS _ rfl) rfl (Nat.le_of_ble_eq_true rfl) (Nat.le_of_ble_eq_true rfl) rfl ?_) | (refine wl_buildSlice0 rfl (by exact SS _ rfl) H ?_)); clear H; intro b1 w1 H)
        | ((with_reducible refine gEq ?_); (first | (refine wl_cmp rfl rfl rfl rfl ?_) | (refine wl_scmp rfl rfl rfl rfl ?_)); intro rb hrb; cases rb <;> (first | (exfalso; simp at hrb; done) | ((try simp only [CS1, gt_iff_lt, ge_iff_le, ne_eq, Decidable.not_not] at hrb); (try subst hrb); (try (exfalso; omega)))))
        | ((with_reducible refine gRg ?_); refine wp_region_text rfl (by decide +kernel) ?_; replace H := H.drew)
        | ((with_reducible refine EndQ.intro ?_ ?_); (· kernel_rfl)))
          go_ret
          exact ⟨rfl, H.drop.drop.drop⟩
end Go.Proofs.Ytebecelhcpljaaa
