/- Trees: Of, where nothing fails. -/
import Derived.Test.YtebecelhcpljaaaW23
import Derived.Deep.Cut
import Derived.WalkKit
import Derived.Lib.Hide
import Derived.Deep.LoopGhost
import Derived.WalkSpells
set_option linter.unusedVariables false
set_option linter.unusedSimpArgs false
namespace Go.Proofs.Ytebecelhcpljaaa
open Go.RowKit Go.Gx Go.Gx.Trm
set_option maxRecDepth 100000
set_option maxHeartbeats 8000000 in
theorem Of_spec {W w : World} {E : Nat → Prop} {M : List (Nat × List (Value × Value))} {L : List Ent} {p : Nat} {l l2 : List En} {t : Tr} {tm er : Int} (h0 : Pl W E M L p l w) (ht : TrR W E L t) (hl : l.length ≤ 65536) (hok : okP l) (hr : ofE l t.pt = (l2, tm, er)) (hng : (looksT t.pt 0 0).1 = 0 → (growT t.pt l).2.2 = 0) :
    Calls Try.prog 25 #[.pointer (some ⟨p, 0, none⟩), .agg t.cells.toArray] w fun e w' => MkP W E M L p l2 tm er e w' := by
  obtain ⟨mb, a, c, hg⟩ := h0
  obtain ⟨w0, D, H, back, bk2⟩ := hg.openX
  have HT := Lib.hid ht
  have HTD := Lib.hid (TrR.down bk2 ht)
  have HL := Lib.hid (And.intro hl hok)
  obtain ⟨q, sn, hq⟩ : ∃ q sn, looksT t.pt 0 0 = (q, sn) := ⟨_, _, rfl⟩
  have HLK := Lib.hid hq
  unfold ofE at hr
  rw [hq] at hr hng
  simp only at hr hng
  have hb1 := looksT_er t.pt 0 0
  rw [hq] at hb1
  obtain ⟨hb1, hb2⟩ := hb1
  by_cases h0 : q = 0
  · subst h0
    rw [if_pos rfl] at hr
    have hng := hng rfl
    rw [hr] at hng
    dsimp only at hng
    subst hng
    have hgd := (looksT_ok t.pt 0 0 sn hq).1
    have HGR := Lib.hid hr
    have HG := Lib.hid hgd
    obtain ⟨xk, xf, xd, xn, xt, xa, xc, ks⟩ := t
    clear ht hl hok hq hr hgd hg
    simp only [Tr.cells] at *
    go_enter Try.func25, Try.ntmps25
    go_wp2_with (first
    | ((with_reducible refine gBx ?_); first | (refine bxA H rfl rfl rfl ?_; clear H; intro bx w1 H))
    | ((with_reducible refine gAl ?_); refine wl_alloc rfl Z3 H ?_; clear H; intro b4 w1 H; replace H : Hp _ _ (⟨some b4, [.int .i64 0], 3, 1⟩ :: _) w1 := H)
    | (go_at_call 55; (refine (looks_spec (.mk xk xf xd xn xt xa xc ks) _ _ H (HTD.out.push [_, _, _]) (by omega) (by omega) (by omega) (by omega) HLK.out).mono ?_; rintro e w1 ⟨rfl, H1⟩; clear H; have H := H1; clear H1))
    | (go_at_call 56; (refine (grow_spec (.mk xk xf xd xn xt xa xc ks) (L := eI b4 sn :: ⟨some bx, [.int .i64 xk, .int .i64 xf, .int .i64 xd, .int .u64 xn, .string xt, .slice xa ks.length xc], 50, 6⟩ :: L) _ ⟨mb, a, c, back _ _ (Hp.swap (A := [_, _]) (B := [_, _]) H)⟩ (HT.out.push [eI b4 sn, ⟨some bx, [.int .i64 xk, .int .i64 xf, .int .i64 xd, .int .u64 xn, .string xt, .slice xa ks.length xc], 50, 6⟩]) HG.out HL.out.1 HL.out.2 HGR.out).mono ?_; rintro e w1 ⟨rfl, h1⟩))
    | ((with_reducible refine gLd ?_); refine eLd H rfl rfl ?_; first | ((repeat ((with_reducible refine gEx ?_); first | (refine kLd 0 rfl rfl (by exact TT _ rfl) rfl ?_) | (refine kLdA 0 rfl rfl (by exact TT _ rfl) (Nat.le_of_ble_eq_true rfl) (by simp only [Nd.cells, Nd.zero, LS2]; rfl) ?_) | (refine nxL ?_))); fail_if_success (with_reducible refine gEx ?_)))
    | ((with_reducible refine gSt ?_); (first | (refine eSt H rfl rfl ⟨.int _ _, rfl, ?_⟩) | (refine eSt H rfl rfl ⟨.bool _, rfl, ?_⟩) | (refine eSt H rfl rfl ⟨.slice _ _ _, rfl, ?_⟩) | (refine eSt H rfl rfl ⟨.pointer _, rfl, ?_⟩) | (refine eSt H rfl rfl ⟨.string _, rfl, ?_⟩) | (refine eSt H rfl rfl ⟨.agg (List.toArray _), rfl, ?_⟩)); (first | ((repeat ((with_reducible refine gES ?_); first | (refine kSt 0 rfl rfl (by exact TT _ rfl) rfl (Nat.le_of_ble_eq_true rfl) ?_) | (refine kStA 0 rfl rfl (by exact TT _ rfl) rfl rfl (Nat.le_of_ble_eq_true rfl) ?_) | (refine nxS ?_))); fail_if_success (with_reducible refine gES ?_))); clear H; intro w1 H; simp only [List.set_cons_zero, List.set_cons_succ] at H; (try simp only [lay, LS1, Nat.reduceAdd] at H))
    | ((with_reducible refine gBx ?_); refine bxA H rfl rfl rfl ?_; clear H; intro b1 w1 H)
    | ((with_reducible refine gBs ?_); (first | (refine bs1 H rfl (by exact SS _ rfl) rfl (Nat.le_of_ble_eq_true rfl) (Nat.le_of_ble_eq_true rfl) rfl ?_) | (refine wl_buildSlice0 rfl (by exact SS _ rfl) H ?_)); clear H; intro b1 w1 H)
    | ((with_reducible refine gEq ?_); (first | (refine wl_cmp rfl rfl rfl rfl ?_) | (refine wl_scmp rfl rfl rfl rfl ?_)); intro rb hrb; cases rb <;> (first | (exfalso; simp at hrb; done) | ((try simp only [CS1, gt_iff_lt, ge_iff_le, ne_eq, Decidable.not_not] at hrb); (try subst hrb); (try (exfalso; omega)))))
    | ((with_reducible refine gRg ?_); refine wp_region_text rfl (by decide +kernel) ?_; replace H := H.drew)
    | ((with_reducible refine EndQ.intro ?_ ?_); (· kernel_rfl)))
    all_goals go_ret2
    all_goals exact ⟨rfl, h1.dropL.dropL⟩
  · rw [if_neg h0] at hr
    simp only [Prod.mk.injEq] at hr
    obtain ⟨rfl, rfl, rfl⟩ := hr
    obtain ⟨xk, xf, xd, xn, xt, xa, xc, ks⟩ := t
    clear ht hl hok hq hg hng
    simp only [Tr.cells] at *
    go_enter Try.func25, Try.ntmps25
    go_wp2_with (first
    | ((with_reducible refine gBx ?_); first | (refine bxA H rfl rfl rfl ?_; clear H; intro bx w1 H))
    | ((with_reducible refine gAl ?_); refine wl_alloc rfl Z3 H ?_; clear H; intro b4 w1 H; replace H : Hp _ _ (⟨some b4, [.int .i64 0], 3, 1⟩ :: _) w1 := H)
    | (go_at_call 55; (refine (looks_spec (.mk xk xf xd xn xt xa xc ks) _ _ H (HTD.out.push [_, _, _]) (by omega) (by omega) (by omega) (by omega) HLK.out).mono ?_; rintro e w1 ⟨rfl, H1⟩; clear H; have H := H1; clear H1))
    | ((with_reducible refine gLd ?_); refine eLd H rfl rfl ?_; first | ((repeat ((with_reducible refine gEx ?_); first | (refine kLd 0 rfl rfl (by exact TT _ rfl) rfl ?_) | (refine kLdA 0 rfl rfl (by exact TT _ rfl) (Nat.le_of_ble_eq_true rfl) (by simp only [Nd.cells, Nd.zero, LS2]; rfl) ?_) | (refine nxL ?_))); fail_if_success (with_reducible refine gEx ?_)))
    | ((with_reducible refine gSt ?_); (first | (refine eSt H rfl rfl ⟨.int _ _, rfl, ?_⟩) | (refine eSt H rfl rfl ⟨.bool _, rfl, ?_⟩) | (refine eSt H rfl rfl ⟨.slice _ _ _, rfl, ?_⟩) | (refine eSt H rfl rfl ⟨.pointer _, rfl, ?_⟩) | (refine eSt H rfl rfl ⟨.string _, rfl, ?_⟩) | (refine eSt H rfl rfl ⟨.agg (List.toArray _), rfl, ?_⟩)); (first | ((repeat ((with_reducible refine gES ?_); first | (refine kSt 0 rfl rfl (by exact TT _ rfl) rfl (Nat.le_of_ble_eq_true rfl) ?_) | (refine kStA 0 rfl rfl (by exact TT _ rfl) rfl rfl (Nat.le_of_ble_eq_true rfl) ?_) | (refine nxS ?_))); fail_if_success (with_reducible refine gES ?_))); clear H; intro w1 H; simp only [List.set_cons_zero, List.set_cons_succ] at H; (try simp only [lay, LS1, Nat.reduceAdd] at H))
    | ((with_reducible refine gBx ?_); refine bxA H rfl rfl rfl ?_; clear H; intro b1 w1 H)
    | ((with_reducible refine gBs ?_); (first | (refine bs1 H rfl (by exact SS _ rfl) rfl (Nat.le_of_ble_eq_true rfl) (Nat.le_of_ble_eq_true rfl) rfl ?_) | (refine wl_buildSlice0 rfl (by exact SS _ rfl) H ?_)); clear H; intro b1 w1 H)
    | ((with_reducible refine gEq ?_); (first | (refine wl_cmp rfl rfl rfl rfl ?_) | (refine wl_scmp rfl rfl rfl rfl ?_)); intro rb hrb; cases rb <;> (first | (exfalso; simp at hrb; done) | ((try simp only [CS1, gt_iff_lt, ge_iff_le, ne_eq, Decidable.not_not] at hrb); (try subst hrb); (try (exfalso; omega)))))
    | ((with_reducible refine gRg ?_); refine wp_region_text rfl (by decide +kernel) ?_; replace H := H.drew)
    | ((with_reducible refine EndQ.intro ?_ ?_); (· kernel_rfl)))
    all_goals go_ret2
    all_goals exact ⟨rfl, mb, a, c, back _ _ H.drop.drop⟩
set_option maxHeartbeats 8000000 in
theorem rOf_spec {w0 : World} {D : Nat → Prop} {R : List Ent} {q : Nat} {b s d : Option Nat} {cb cs cd : Nat} {w : World} {l l2 : List En} {t : Tr} {tm er : Int} (H : Hp w0 D (eQ q b s d cb cs cd l :: eQn b cb l :: eQs s cs l :: eQd d cd l :: R) w) (ht : TrR w0 D R t) (hl : l.length ≤ 65536) (hok : okP l) (hr : ofE l t.pt = (l2, tm, er)) (hng : (looksT t.pt 0 0).1 = 0 → (growT t.pt l).2.2 = 0) :
    Calls Try.prog 26 #[.pointer (some ⟨q, 0, none⟩), .agg t.cells.toArray] w fun e w' => RMkP w0 D R q l2 tm er e w' := by
  have HT := Lib.hid ht
  have HL := Lib.hid (And.intro hl hok)
  obtain ⟨z, sn, hq⟩ : ∃ z sn, looksT t.pt 0 0 = (z, sn) := ⟨_, _, rfl⟩
  have HLK := Lib.hid hq
  unfold ofE at hr
  rw [hq] at hr hng
  simp only at hr hng
  have hb1 := looksT_er t.pt 0 0
  rw [hq] at hb1
  obtain ⟨hb1, hb2⟩ := hb1
  by_cases h0 : z = 0
  · subst h0
    rw [if_pos rfl] at hr
    have hng := hng rfl
    rw [hr] at hng
    dsimp only at hng
    subst hng
    have hgd := (looksT_ok t.pt 0 0 sn hq).1
    have HGR := Lib.hid hr
    have HG := Lib.hid hgd
    obtain ⟨xk, xf, xd, xn, xt, xa, xc, ks⟩ := t
    clear ht hl hok hq hr hgd
    simp only [Tr.cells] at *
    go_enter Try.func26, Try.ntmps26
    go_wp2_with (first
    | ((with_reducible refine gBx ?_); first | (refine bxA H rfl rfl rfl ?_; clear H; intro bx w1 H))
    | (go_at_call 58; (refine (Looks_spec (t := (.mk xk xf xd xn xt xa xc ks)) H (HT.out.push [_, _, _, _, _]) HLK.out).mono ?_; rintro e w1 ⟨rfl, H1⟩; clear H; have H := H1; clear H1))
    | (go_at_call 59; (refine (made_spec (.mk xk xf xd xn xt xa xc ks) (R := ⟨some bx, [.int .i64 xk, .int .i64 xf, .int .i64 xd, .int .u64 xn, .string xt, .slice xa ks.length xc], 50, 6⟩ :: R) _ (Hp.swap (A := [_]) (B := [_, _, _, _]) H) (HT.out.push [⟨some bx, [.int .i64 xk, .int .i64 xf, .int .i64 xd, .int .u64 xn, .string xt, .slice xa ks.length xc], 50, 6⟩]) HG.out HL.out.1 HL.out.2 HGR.out).mono ?_; rintro e w1 ⟨b, s, d, cb, cs, cd, rfl, h1⟩; clear H; have H := Hp.swap (A := [_, _, _, _]) (B := [_]) h1; clear h1; simp only [List.cons_append, List.nil_append] at H))
    | ((with_reducible refine gLd ?_); refine eLd H rfl rfl ?_; first | ((repeat ((with_reducible refine gEx ?_); first | (refine kLd 0 rfl rfl (by exact TT _ rfl) rfl ?_) | (refine kLdA 0 rfl rfl (by exact TT _ rfl) (Nat.le_of_ble_eq_true rfl) (by simp only [Nd.cells, Nd.zero, LS2]; rfl) ?_) | (refine nxL ?_))); fail_if_success (with_reducible refine gEx ?_)))
    | ((with_reducible refine gSt ?_); (first | (refine eSt H rfl rfl ⟨.int _ _, rfl, ?_⟩) | (refine eSt H rfl rfl ⟨.bool _, rfl, ?_⟩) | (refine eSt H rfl rfl ⟨.slice _ _ _, rfl, ?_⟩) | (refine eSt H rfl rfl ⟨.pointer _, rfl, ?_⟩) | (refine eSt H rfl rfl ⟨.string _, rfl, ?_⟩) | (refine eSt H rfl rfl ⟨.agg (List.toArray _), rfl, ?_⟩)); (first | ((repeat ((with_reducible refine gES ?_); first | (refine kSt 0 rfl rfl (by exact TT _ rfl) rfl (Nat.le_of_ble_eq_true rfl) ?_) | (refine kStA 0 rfl rfl (by exact TT _ rfl) rfl rfl (Nat.le_of_ble_eq_true rfl) ?_) | (refine nxS ?_))); fail_if_success (with_reducible refine gES ?_))); clear H; intro w1 H; simp only [List.set_cons_zero, List.set_cons_succ] at H; (try simp only [lay, LS1, Nat.reduceAdd] at H))
    | ((with_reducible refine gBx ?_); refine bxA H rfl rfl rfl ?_; clear H; intro b1 w1 H)
    | ((with_reducible refine gBs ?_); (first | (refine bs1 H rfl (by exact SS _ rfl) rfl (Nat.le_of_ble_eq_true rfl) (Nat.le_of_ble_eq_true rfl) rfl ?_) | (refine wl_buildSlice0 rfl (by exact SS _ rfl) H ?_)); clear H; intro b1 w1 H)
    | ((with_reducible refine gEq ?_); (first | (refine wl_cmp rfl rfl rfl rfl ?_) | (refine wl_scmp rfl rfl rfl rfl ?_)); intro rb hrb; cases rb <;> (first | (exfalso; simp at hrb; done) | ((try simp only [CS1, gt_iff_lt, ge_iff_le, ne_eq, Decidable.not_not] at hrb); (try subst hrb); (try (exfalso; omega)))))
    | ((with_reducible refine gRg ?_); refine wp_region_text rfl (by decide +kernel) ?_; replace H := H.drew)
    | ((with_reducible refine EndQ.intro ?_ ?_); (· kernel_rfl)))
    all_goals go_ret2
    all_goals exact ⟨b, s, d, cb, cs, cd, rfl, H.drop⟩
  · rw [if_neg h0] at hr
    simp only [Prod.mk.injEq] at hr
    obtain ⟨rfl, rfl, rfl⟩ := hr
    obtain ⟨xk, xf, xd, xn, xt, xa, xc, ks⟩ := t
    clear ht hl hok hq hng
    simp only [Tr.cells] at *
    go_enter Try.func26, Try.ntmps26
    go_wp2_with (first
    | ((with_reducible refine gBx ?_); first | (refine bxA H rfl rfl rfl ?_; clear H; intro bx w1 H))
    | (go_at_call 58; (refine (Looks_spec (t := (.mk xk xf xd xn xt xa xc ks)) H (HT.out.push [_, _, _, _, _]) HLK.out).mono ?_; rintro e w1 ⟨rfl, H1⟩; clear H; have H := H1; clear H1))
    | ((with_reducible refine gLd ?_); refine eLd H rfl rfl ?_; first | ((repeat ((with_reducible refine gEx ?_); first | (refine kLd 0 rfl rfl (by exact TT _ rfl) rfl ?_) | (refine kLdA 0 rfl rfl (by exact TT _ rfl) (Nat.le_of_ble_eq_true rfl) (by simp only [Nd.cells, Nd.zero, LS2]; rfl) ?_) | (refine nxL ?_))); fail_if_success (with_reducible refine gEx ?_)))
    | ((with_reducible refine gSt ?_); (first | (refine eSt H rfl rfl ⟨.int _ _, rfl, ?_⟩) | (refine eSt H rfl rfl ⟨.bool _, rfl, ?_⟩) | (refine eSt H rfl rfl ⟨.slice _ _ _, rfl, ?_⟩) | (refine eSt H rfl rfl ⟨.pointer _, rfl, ?_⟩) | (refine eSt H rfl rfl ⟨.string _, rfl, ?_⟩) | (refine eSt H rfl rfl ⟨.agg (List.toArray _), rfl, ?_⟩)); (first | ((repeat ((with_reducible refine gES ?_); first | (refine kSt 0 rfl rfl (by exact TT _ rfl) rfl (Nat.le_of_ble_eq_true rfl) ?_) | (refine kStA 0 rfl rfl (by exact TT _ rfl) rfl rfl (Nat.le_of_ble_eq_true rfl) ?_) | (refine nxS ?_))); fail_if_success (with_reducible refine gES ?_))); clear H; intro w1 H; simp only [List.set_cons_zero, List.set_cons_succ] at H; (try simp only [lay, LS1, Nat.reduceAdd] at H))
    | ((with_reducible refine gBx ?_); refine bxA H rfl rfl rfl ?_; clear H; intro b1 w1 H)
    | ((with_reducible refine gBs ?_); (first | (refine bs1 H rfl (by exact SS _ rfl) rfl (Nat.le_of_ble_eq_true rfl) (Nat.le_of_ble_eq_true rfl) rfl ?_) | (refine wl_buildSlice0 rfl (by exact SS _ rfl) H ?_)); clear H; intro b1 w1 H)
    | ((with_reducible refine gEq ?_); (first | (refine wl_cmp rfl rfl rfl rfl ?_) | (refine wl_scmp rfl rfl rfl rfl ?_)); intro rb hrb; cases rb <;> (first | (exfalso; simp at hrb; done) | ((try simp only [CS1, gt_iff_lt, ge_iff_le, ne_eq, Decidable.not_not] at hrb); (try subst hrb); (try (exfalso; omega)))))
    | ((with_reducible refine gRg ?_); refine wp_region_text rfl (by decide +kernel) ?_; replace H := H.drew)
    | ((with_reducible refine EndQ.intro ?_ ?_); (· kernel_rfl)))
    all_goals go_ret2
    all_goals exact ⟨b, s, d, cb, cs, cd, rfl, H.drop⟩
end Go.Proofs.Ytebecelhcpljaaa
