/- Trees: grown in a pool. -/
import Derived.Test.YtebecelhcpljaaaW21
import Derived.Deep.Cut
import Derived.WalkKit
import Derived.Lib.Hide
import Derived.Deep.LoopGhost
import Derived.WalkSpells
set_option linter.unusedVariables false
set_option linter.unusedSimpArgs false
namespace Go.Proofs.Ytebecelhcpljaaa
open Go.RowKit Go.Gx Go.Gx.Trm
set_option maxRecDepth 100000
end Go.Proofs.Ytebecelhcpljaaa
section
open Go.Proofs.Ytebecelhcpljaaa
open Go.RowKit Go.Gx Go.Gx.Trm
set_option maxRecDepth 100000
theorem Go.Gx.Hg.openX {W w : World} {E : Nat → Prop} {L : List Ent} {M : List (Nat × List (Value × Value))} (h : Hg W E M L w) : ∃ w0 D, Hp w0 D L w ∧ (∀ L' u, Hp w0 D L' u → Hg W E M L' u) ∧ (∀ L' u, Hp w0 D L' u → Hp W E L' u) := by
  obtain ⟨w0, D, X, H, h1, h2⟩ := h
  exact ⟨w0, D, H, fun L' u hu => ⟨w0, D, X, hu, h1, h2⟩, fun L' u hu => X.hp hu⟩
end
namespace Go.Proofs.Ytebecelhcpljaaa
open Go.RowKit Go.Gx Go.Gx.Trm
set_option maxRecDepth 100000
theorem makeE_full {l l2 : List En} {n : Nd} {t er : Int} (hl : l.length ≤ 65536) (hm : makeE l n = (l2, t, er)) : l2.length ≤ 65536 := by
  unfold makeE at hm
  split at hm
  · cases hm; exact hl
  split at hm
  · cases hm; exact hl
  split at hm
  · cases hm; exact hl
  · cases hm; simp only [List.length_append, List.length_cons, List.length_nil]; omega
mutual
theorem grow_full : ∀ (t : Pt) (l : List En), l.length ≤ 65536 → (growT t l).1.length ≤ 65536
  | .mk k f d n t ks, l, h => by simp only [growT]; exact growK_full ks l 0 _ h
theorem growK_full : ∀ (ks : List Pt) (l : List En) (i : Nat) (nd : Nd), l.length ≤ 65536 → (growK ks l i nd).1.length ≤ 65536
  | [], l, i, nd, h => by simp only [growK]; exact makeE_full h rfl
  | x :: xs, l, i, nd, h => by
    simp only [growK]
    split
    · exact growK_full xs _ _ _ (grow_full x l h)
    · exact grow_full x l h
end
mutual
theorem grow_okP : ∀ (t : Pt) (l : List En), okP l → okP (growT t l).1
  | .mk k f d n t ks, l, h => by simp only [growT]; exact growK_okP ks l 0 _ h
theorem growK_okP : ∀ (ks : List Pt) (l : List En) (i : Nat) (nd : Nd), okP l → okP (growK ks l i nd).1
  | [], l, i, nd, h => by simp only [growK]; exact okP_make h
  | x :: xs, l, i, nd, h => by
    simp only [growK]
    split
    · exact growK_okP xs _ _ _ (grow_okP x l h)
    · exact grow_okP x l h
end
theorem growK_step {x : Pt} {xs : List Pt} {l l3 : List En} {i : Nat} {nd : Nd} {tt ee : Int} (h : growT x l = (l3, tt, ee)) : growK (x :: xs) l i nd = if ee = 0 then growK xs l3 (i + 1) (setK nd i tt) else (l3, 0, ee) := by
  simp only [growK, h]
theorem good_len {k f d n : Int} {t : ByteArray} {ks : List Pt} (h : (Pt.mk k f d n t ks).good) : ks.length ≤ 2 := by
  simp only [Pt.good] at h
  have h1 := (head_ok h.1).2.1
  have h2 := kidsN_le k
  have h1 : kidsN k = (ks.length : Int) := h1
  omega
set_option maxHeartbeats 16000000 in
theorem grow_spec {W : World} {E : Nat → Prop} {M : List (Nat × List (Value × Value))} {p : Nat} : ∀ (t : Tr), ∀ {L : List Ent} {l l2 : List En} {tm er : Int} (w : World), Pl W E M L p l w → TrR W E L t → t.pt.good → l.length ≤ 65536 → okP l → growT t.pt l = (l2, tm, er) →
    Calls Try.prog 56 #[.pointer (some ⟨p, 0, none⟩), .agg t.cells.toArray] w fun e w' => MkP W E M L p l2 tm er e w' := by
  intro t
  induction t using Tr.ind with
  | h t ih =>
  obtain ⟨xk, xf, xd, xn, xt, xa, xc, ks⟩ := t
  intro L l l2 tm er w h0 ht hgd hl hok hr
  cases ht with
  | mk hrd hc hle hks =>
  simp only [Tr.pt] at hr hgd
  have hn2 := good_len hgd
  rw [ptL_len] at hn2
  simp only [growT] at hr
  simp only [Pt.good] at hgd
  have hgl := hgd.2
  clear hgd
  obtain ⟨N, hN⟩ : ∃ N, ks.length = N := ⟨_, rfl⟩
  have HN := Lib.hid hN
  have HRD := Lib.hid hrd
  have HS := Lib.hid hks
  have HL0 := Lib.hid (And.intro hl hok)
  have HGL0 := Lib.hid hgl
  have HR0 := Lib.hid hr
  obtain ⟨mb, a, c, hg⟩ := h0
  obtain ⟨w0, D, H, back, bk2⟩ := hg.openX
  simp only [Tr.cells]
  rw [hN] at hc hle hn2 ⊢
  clear hN hrd hks hl hok hgl hr hg
  go_enter Try.func56, Try.ntmps56
  go_wp2_with (first
    | ((with_reducible refine gBx ?_); first | (refine bxA H rfl rfl rfl ?_; clear H; intro bx w1 H))
    | ((with_reducible refine gAl ?_); refine al H Z33 rfl rfl ?_; clear H; intro bn w1 H)
    | (go_at_call 75; ((refine (nodeOf_spec H).mono ?_); rintro e w1 ⟨rfl, H1⟩; clear H; have H := H1; clear H1; (try simp only [Nd.cells])))
    | ((with_reducible refine gBs ?_); refine bs2 H rfl rfl rfl S115 rfl rfl ?_; clear H; intro bs w1 H)
    | ((with_reducible refine gLd ?_); refine eLd H rfl rfl ?_; first | ((repeat ((with_reducible refine gEx ?_); first | (refine kLd 0 rfl rfl (by exact TT _ rfl) rfl ?_) | (refine kLdA 0 rfl rfl (by exact TT _ rfl) (Nat.le_of_ble_eq_true rfl) (by simp only [Nd.cells, Nd.zero, LS2]; rfl) ?_) | (refine nxL ?_))); fail_if_success (with_reducible refine gEx ?_)))
    | ((with_reducible refine gSt ?_); (first | (refine eSt H rfl rfl ⟨.int _ _, rfl, ?_⟩) | (refine eSt H rfl rfl ⟨.bool _, rfl, ?_⟩) | (refine eSt H rfl rfl ⟨.slice _ _ _, rfl, ?_⟩) | (refine eSt H rfl rfl ⟨.pointer _, rfl, ?_⟩) | (refine eSt H rfl rfl ⟨.string _, rfl, ?_⟩) | (refine eSt H rfl rfl ⟨.agg (List.toArray _), rfl, ?_⟩)); (first | ((repeat ((with_reducible refine gES ?_); first | (refine kSt 0 rfl rfl (by exact TT _ rfl) rfl (Nat.le_of_ble_eq_true rfl) ?_) | (refine kStA 0 rfl rfl (by exact TT _ rfl) rfl rfl (Nat.le_of_ble_eq_true rfl) ?_) | (refine nxS ?_))); fail_if_success (with_reducible refine gES ?_))); clear H; intro w1 H; simp only [List.set_cons_zero, List.set_cons_succ] at H; (try simp only [lay, LS1, Nat.reduceAdd] at H)))
  have hP : Pl W E M (⟨some bs, [.pointer (some ⟨bn, 5, none⟩), .pointer (some ⟨bn, 6, none⟩)], 114, 2⟩ :: ⟨some bn, [.int .i64 xk, .int .i64 xf, .int .i64 xd, .int .u64 xn, .string xt, .int .i64 0, .int .i64 0], 33, 7⟩ :: ⟨some bx, [.int .i64 xk, .int .i64 xf, .int .i64 xd, .int .u64 xn, .string xt, .slice xa N xc], 50, 6⟩ :: L) p l _ := ⟨mb, a, c, back _ _ (Hp.swap (A := [_, _, _]) (B := [_, _]) H)⟩
  clear H back bk2
  go_loopg [20] N (fun g v20 wr => ∃ (k : Nat) (l' : List En) (av bv : Int), v20 = .int .i64 (k : Int) ∧ k + g = N ∧ Hid (growK (ptL (ks.drop k)) l' k ⟨xk, xf, xd, xn, xt, av, bv⟩ = (l2, tm, er)) ∧ Hid (l'.length ≤ 65536 ∧ okP l') ∧ Hid (goodL (ptL (ks.drop k))) ∧ Pl W E M (⟨some bs, [.pointer (some ⟨bn, 5, none⟩), .pointer (some ⟨bn, 6, none⟩)], 114, 2⟩ :: ⟨some bn, [.int .i64 xk, .int .i64 xf, .int .i64 xd, .int .u64 xn, .string xt, .int .i64 av, .int .i64 bv], 33, 7⟩ :: ⟨some bx, [.int .i64 xk, .int .i64 xf, .int .i64 xd, .int .u64 xn, .string xt, .slice xa N xc], 50, 6⟩ :: L) p l' wr)
  case atStart => exact ⟨0, l, 0, 0, rfl, by omega, HR0, HL0, HGL0, hP⟩
  case round =>
    clear hP HR0 HL0 HGL0
    obtain ⟨k, l', av, bv, rfl, hkg, HR, HL, HGL, hP⟩ := hrel
    have HKG := Lib.hid hkg
    by_cases hk : k < N
    · have hkl : k < ks.length := by rw [HN.out]; exact hk
      obtain ⟨⟨yk, yf, yd, yn, yt, ya, yc, js⟩, hx⟩ : ∃ y, ks[k]? = some y := ⟨_, List.getElem?_eq_getElem hkl⟩
      have hst := HR.out
      rw [ptL_step hx] at hst
      have hgd := HGL.out
      rw [ptL_step hx] at hgd
      simp only [goodL] at hgd
      have hE := rowsT_at hx
      simp only [Tr.cells] at hE
      have HE := Lib.hid hE
      obtain ⟨xb, xo, rfl, hO⟩ := HRD.out.some_of (by rw [rowsT_length]; omega)
      have HTX := Lib.hid (HS.out _ (List.mem_of_getElem? hx))
      have HX : Hid (.mk yk yf yd yn yt ya yc js ∈ (Tr.mk xk xf xd xn xt (some ⟨xb, xo, none⟩) xc ks).kids) := Lib.hid (List.mem_of_getElem? hx)
      have HGY := Lib.hid hgd.1
      have HGL2 := Lib.hid hgd.2
      obtain ⟨l3, tt, ee, hq⟩ : ∃ l3 tt ee, growT (Tr.pt (.mk yk yf yd yn yt ya yc js)) l' = (l3, tt, ee) := ⟨_, _, _, rfl⟩
      rw [growK_step hq] at hst
      have hf := grow_full (Tr.pt (.mk yk yf yd yn yt ya yc js)) l' HL.out.1
      have ho := grow_okP (Tr.pt (.mk yk yf yd yn yt ya yc js)) l' HL.out.2
      rw [hq] at hf ho
      have HL2 := Lib.hid (And.intro hf ho)
      have HPX := Lib.hid hq
      obtain ⟨mb, a, c, hg⟩ := hP
      obtain ⟨w0, D, H, back, bk2⟩ := hg.openX
      clear hg hx hkg hq hkl HR HRD HS HGL hgd hE hf ho
      by_cases he : ee = 0
      · subst he
        rw [if_pos rfl] at hst
        have HR2 := Lib.hid hst
        clear hst
        rcases (show k = 0 ∨ k = 1 by omega) with rfl | rfl
        · go_wp2_with (first
    | ((with_reducible refine gLd ?_); refine wl_loadR (agg := true) (n := 6) (hO [_, _, _, _, _] _ (bk2 _ _ H)) rfl rfl (by first | rfl | omega) T50 HE.out ?_)
    | ((with_reducible refine gAl ?_); refine al H Z50 rfl rfl ?_; clear H; intro b9 w1 H)
    | (go_at_call 56; (refine (ih (.mk yk yf yd yn yt ya yc js) HX.out (L := ⟨some b9, [.int .i64 yk, .int .i64 yf, .int .i64 yd, .int .u64 yn, .string yt, .slice ya js.length yc], 50, 6⟩ :: ⟨some bs, [.pointer (some ⟨bn, 5, none⟩), .pointer (some ⟨bn, 6, none⟩)], 114, 2⟩ :: ⟨some bn, [.int .i64 xk, .int .i64 xf, .int .i64 xd, .int .u64 xn, .string xt, .int .i64 av, .int .i64 bv], 33, 7⟩ :: ⟨some bx, [.int .i64 xk, .int .i64 xf, .int .i64 xd, .int .u64 xn, .string xt, .slice (some ⟨xb, xo, none⟩) N xc], 50, 6⟩ :: L) _ ⟨mb, a, c, back _ _ (Hp.swap (A := [_]) (B := [_, _]) H)⟩ (HTX.out.push [⟨some b9, [.int .i64 yk, .int .i64 yf, .int .i64 yd, .int .u64 yn, .string yt, .slice ya js.length yc], 50, 6⟩, ⟨some bs, [.pointer (some ⟨bn, 5, none⟩), .pointer (some ⟨bn, 6, none⟩)], 114, 2⟩, ⟨some bn, [.int .i64 xk, .int .i64 xf, .int .i64 xd, .int .u64 xn, .string xt, .int .i64 av, .int .i64 bv], 33, 7⟩, ⟨some bx, [.int .i64 xk, .int .i64 xf, .int .i64 xd, .int .u64 xn, .string xt, .slice (some ⟨xb, xo, none⟩) N xc], 50, 6⟩]) HGY.out HL.out.1 HL.out.2 HPX.out).mono ?_); rintro e w1 ⟨rfl, h1⟩; clear H back bk2; obtain ⟨mb, a, c, hg⟩ := h1; obtain ⟨w0, D, H, back, bk2⟩ := hg.openX; clear hg)
    | ((with_reducible refine gLd ?_); refine eLd H rfl rfl ?_; first | ((repeat ((with_reducible refine gEx ?_); first | (refine kLd 0 rfl rfl (by exact TT _ rfl) rfl ?_) | (refine kLdA 0 rfl rfl (by exact TT _ rfl) (Nat.le_of_ble_eq_true rfl) (by simp only [Nd.cells, Nd.zero, LS2]; rfl) ?_) | (refine nxL ?_))); fail_if_success (with_reducible refine gEx ?_)))
    | ((with_reducible refine gSt ?_); (first | (refine eSt H rfl rfl ⟨.int _ _, rfl, ?_⟩) | (refine eSt H rfl rfl ⟨.bool _, rfl, ?_⟩) | (refine eSt H rfl rfl ⟨.slice _ _ _, rfl, ?_⟩) | (refine eSt H rfl rfl ⟨.pointer _, rfl, ?_⟩) | (refine eSt H rfl rfl ⟨.string _, rfl, ?_⟩) | (refine eSt H rfl rfl ⟨.agg (List.toArray _), rfl, ?_⟩)); (first | ((repeat ((with_reducible refine gES ?_); first | (refine kSt 0 rfl rfl (by exact TT _ rfl) rfl (Nat.le_of_ble_eq_true rfl) ?_) | (refine kStA 0 rfl rfl (by exact TT _ rfl) rfl rfl (Nat.le_of_ble_eq_true rfl) ?_) | (refine nxS ?_))); fail_if_success (with_reducible refine gES ?_))); clear H; intro w1 H; simp only [List.set_cons_zero, List.set_cons_succ] at H; (try simp only [lay, LS1, Nat.reduceAdd] at H))
    | ((with_reducible refine gEq ?_); (first | (refine wl_cmp rfl rfl rfl rfl ?_) | (refine wl_scmp rfl rfl rfl rfl ?_)); intro rb hrb; cases rb <;> (first | (exfalso; simp at hrb; done) | ((try simp only [CS1, gt_iff_lt, ge_iff_le, ne_eq, Decidable.not_not] at hrb); (try subst hrb); (try (exfalso; omega))))))
          go_roundg (gk - 1)
          case measure => have := HKG.out; omega
          case rel => exact ⟨1, l3, tt, bv, by go_num, by have := HKG.out; omega, HR2, HL2, HGL2, mb, a, c, back _ _ (H.dropAt 2)⟩
        · go_wp2_with (first
    | ((with_reducible refine gLd ?_); refine wl_loadR (agg := true) (n := 6) (hO [_, _, _, _, _] _ (bk2 _ _ H)) rfl rfl (by first | rfl | omega) T50 HE.out ?_)
    | ((with_reducible refine gAl ?_); refine al H Z50 rfl rfl ?_; clear H; intro b9 w1 H)
    | (go_at_call 56; (refine (ih (.mk yk yf yd yn yt ya yc js) HX.out (L := ⟨some b9, [.int .i64 yk, .int .i64 yf, .int .i64 yd, .int .u64 yn, .string yt, .slice ya js.length yc], 50, 6⟩ :: ⟨some bs, [.pointer (some ⟨bn, 5, none⟩), .pointer (some ⟨bn, 6, none⟩)], 114, 2⟩ :: ⟨some bn, [.int .i64 xk, .int .i64 xf, .int .i64 xd, .int .u64 xn, .string xt, .int .i64 av, .int .i64 bv], 33, 7⟩ :: ⟨some bx, [.int .i64 xk, .int .i64 xf, .int .i64 xd, .int .u64 xn, .string xt, .slice (some ⟨xb, xo, none⟩) N xc], 50, 6⟩ :: L) _ ⟨mb, a, c, back _ _ (Hp.swap (A := [_]) (B := [_, _]) H)⟩ (HTX.out.push [⟨some b9, [.int .i64 yk, .int .i64 yf, .int .i64 yd, .int .u64 yn, .string yt, .slice ya js.length yc], 50, 6⟩, ⟨some bs, [.pointer (some ⟨bn, 5, none⟩), .pointer (some ⟨bn, 6, none⟩)], 114, 2⟩, ⟨some bn, [.int .i64 xk, .int .i64 xf, .int .i64 xd, .int .u64 xn, .string xt, .int .i64 av, .int .i64 bv], 33, 7⟩, ⟨some bx, [.int .i64 xk, .int .i64 xf, .int .i64 xd, .int .u64 xn, .string xt, .slice (some ⟨xb, xo, none⟩) N xc], 50, 6⟩]) HGY.out HL.out.1 HL.out.2 HPX.out).mono ?_); rintro e w1 ⟨rfl, h1⟩; clear H back bk2; obtain ⟨mb, a, c, hg⟩ := h1; obtain ⟨w0, D, H, back, bk2⟩ := hg.openX; clear hg)
    | ((with_reducible refine gLd ?_); refine eLd H rfl rfl ?_; first | ((repeat ((with_reducible refine gEx ?_); first | (refine kLd 0 rfl rfl (by exact TT _ rfl) rfl ?_) | (refine kLdA 0 rfl rfl (by exact TT _ rfl) (Nat.le_of_ble_eq_true rfl) (by simp only [Nd.cells, Nd.zero, LS2]; rfl) ?_) | (refine nxL ?_))); fail_if_success (with_reducible refine gEx ?_)))
    | ((with_reducible refine gSt ?_); (first | (refine eSt H rfl rfl ⟨.int _ _, rfl, ?_⟩) | (refine eSt H rfl rfl ⟨.bool _, rfl, ?_⟩) | (refine eSt H rfl rfl ⟨.slice _ _ _, rfl, ?_⟩) | (refine eSt H rfl rfl ⟨.pointer _, rfl, ?_⟩) | (refine eSt H rfl rfl ⟨.string _, rfl, ?_⟩) | (refine eSt H rfl rfl ⟨.agg (List.toArray _), rfl, ?_⟩)); (first | ((repeat ((with_reducible refine gES ?_); first | (refine kSt 0 rfl rfl (by exact TT _ rfl) rfl (Nat.le_of_ble_eq_true rfl) ?_) | (refine kStA 0 rfl rfl (by exact TT _ rfl) rfl rfl (Nat.le_of_ble_eq_true rfl) ?_) | (refine nxS ?_))); fail_if_success (with_reducible refine gES ?_))); clear H; intro w1 H; simp only [List.set_cons_zero, List.set_cons_succ] at H; (try simp only [lay, LS1, Nat.reduceAdd] at H))
    | ((with_reducible refine gEq ?_); (first | (refine wl_cmp rfl rfl rfl rfl ?_) | (refine wl_scmp rfl rfl rfl rfl ?_)); intro rb hrb; cases rb <;> (first | (exfalso; simp at hrb; done) | ((try simp only [CS1, gt_iff_lt, ge_iff_le, ne_eq, Decidable.not_not] at hrb); (try subst hrb); (try (exfalso; omega))))))
          go_roundg (gk - 1)
          case measure => have := HKG.out; omega
          case rel => exact ⟨2, l3, av, tt, by go_num, by have := HKG.out; omega, HR2, HL2, HGL2, mb, a, c, back _ _ (H.dropAt 2)⟩
      · rw [if_neg he] at hst
        simp only [Prod.mk.injEq] at hst
        obtain ⟨rfl, rfl, rfl⟩ := hst
        go_wp2_with (first
    | ((with_reducible refine gLd ?_); refine wl_loadR (agg := true) (n := 6) (hO [_, _, _, _, _] _ (bk2 _ _ H)) rfl rfl (by first | rfl | omega) T50 HE.out ?_)
    | ((with_reducible refine gAl ?_); refine al H Z50 rfl rfl ?_; clear H; intro b9 w1 H)
    | (go_at_call 56; (refine (ih (.mk yk yf yd yn yt ya yc js) HX.out (L := ⟨some b9, [.int .i64 yk, .int .i64 yf, .int .i64 yd, .int .u64 yn, .string yt, .slice ya js.length yc], 50, 6⟩ :: ⟨some bs, [.pointer (some ⟨bn, 5, none⟩), .pointer (some ⟨bn, 6, none⟩)], 114, 2⟩ :: ⟨some bn, [.int .i64 xk, .int .i64 xf, .int .i64 xd, .int .u64 xn, .string xt, .int .i64 av, .int .i64 bv], 33, 7⟩ :: ⟨some bx, [.int .i64 xk, .int .i64 xf, .int .i64 xd, .int .u64 xn, .string xt, .slice (some ⟨xb, xo, none⟩) N xc], 50, 6⟩ :: L) _ ⟨mb, a, c, back _ _ (Hp.swap (A := [_]) (B := [_, _]) H)⟩ (HTX.out.push [⟨some b9, [.int .i64 yk, .int .i64 yf, .int .i64 yd, .int .u64 yn, .string yt, .slice ya js.length yc], 50, 6⟩, ⟨some bs, [.pointer (some ⟨bn, 5, none⟩), .pointer (some ⟨bn, 6, none⟩)], 114, 2⟩, ⟨some bn, [.int .i64 xk, .int .i64 xf, .int .i64 xd, .int .u64 xn, .string xt, .int .i64 av, .int .i64 bv], 33, 7⟩, ⟨some bx, [.int .i64 xk, .int .i64 xf, .int .i64 xd, .int .u64 xn, .string xt, .slice (some ⟨xb, xo, none⟩) N xc], 50, 6⟩]) HGY.out HL.out.1 HL.out.2 HPX.out).mono ?_); rintro e w1 ⟨rfl, h1⟩; clear H back bk2; obtain ⟨mb, a, c, hg⟩ := h1; obtain ⟨w0, D, H, back, bk2⟩ := hg.openX; clear hg)
    | ((with_reducible refine gLd ?_); refine eLd H rfl rfl ?_; first | ((repeat ((with_reducible refine gEx ?_); first | (refine kLd 0 rfl rfl (by exact TT _ rfl) rfl ?_) | (refine kLdA 0 rfl rfl (by exact TT _ rfl) (Nat.le_of_ble_eq_true rfl) (by simp only [Nd.cells, Nd.zero, LS2]; rfl) ?_) | (refine nxL ?_))); fail_if_success (with_reducible refine gEx ?_)))
    | ((with_reducible refine gSt ?_); (first | (refine eSt H rfl rfl ⟨.int _ _, rfl, ?_⟩) | (refine eSt H rfl rfl ⟨.bool _, rfl, ?_⟩) | (refine eSt H rfl rfl ⟨.slice _ _ _, rfl, ?_⟩) | (refine eSt H rfl rfl ⟨.pointer _, rfl, ?_⟩) | (refine eSt H rfl rfl ⟨.string _, rfl, ?_⟩) | (refine eSt H rfl rfl ⟨.agg (List.toArray _), rfl, ?_⟩)); (first | ((repeat ((with_reducible refine gES ?_); first | (refine kSt 0 rfl rfl (by exact TT _ rfl) rfl (Nat.le_of_ble_eq_true rfl) ?_) | (refine kStA 0 rfl rfl (by exact TT _ rfl) rfl rfl (Nat.le_of_ble_eq_true rfl) ?_) | (refine nxS ?_))); fail_if_success (with_reducible refine gES ?_))); clear H; intro w1 H; simp only [List.set_cons_zero, List.set_cons_succ] at H; (try simp only [lay, LS1, Nat.reduceAdd] at H))
    | ((with_reducible refine gEq ?_); (first | (refine wl_cmp rfl rfl rfl rfl ?_) | (refine wl_scmp rfl rfl rfl rfl ?_)); intro rb hrb; cases rb <;> (first | (exfalso; simp at hrb; done) | ((try simp only [CS1, gt_iff_lt, ge_iff_le, ne_eq, Decidable.not_not] at hrb); (try subst hrb); (try (exfalso; omega))))))
        all_goals go_ret2
        all_goals exact ⟨rfl, mb, a, c, back _ _ ((((H.dropAt 2).dropAt 2).dropAt 2).dropAt 2)⟩
    · have hst := HR.out
      rw [ptL_end (by have := HN.out; omega)] at hst
      simp only [growK] at hst
      clear HR
      have HR := Lib.hid hst
      obtain ⟨mb, a, c, hg⟩ := hP
      obtain ⟨w0, D, H, back, bk2⟩ := hg.openX
      clear hst hkg HRD HS HGL hg
      go_wp2_with (first
    | (go_at_call 39; (refine (Make_spec (n := ⟨xk, xf, xd, xn, xt, av, bv⟩) (L := ⟨some bs, [.pointer (some ⟨bn, 5, none⟩), .pointer (some ⟨bn, 6, none⟩)], 114, 2⟩ :: ⟨some bn, [.int .i64 xk, .int .i64 xf, .int .i64 xd, .int .u64 xn, .string xt, .int .i64 av, .int .i64 bv], 33, 7⟩ :: ⟨some bx, [.int .i64 xk, .int .i64 xf, .int .i64 xd, .int .u64 xn, .string xt, .slice xa N xc], 50, 6⟩ :: L) ⟨mb, a, c, back _ _ H⟩ HL.out.1 HL.out.2 HR.out).mono ?_; rintro e w1 ⟨rfl, h1⟩))
    | ((with_reducible refine gLd ?_); refine eLd H rfl rfl ?_; first | ((repeat ((with_reducible refine gEx ?_); first | (refine kLd 0 rfl rfl (by exact TT _ rfl) rfl ?_) | (refine kLdA 0 rfl rfl (by exact TT _ rfl) (Nat.le_of_ble_eq_true rfl) (by simp only [Nd.cells, Nd.zero, LS2]; rfl) ?_) | (refine nxL ?_))); fail_if_success (with_reducible refine gEx ?_)))
    | ((with_reducible refine gEq ?_); (first | (refine wl_cmp rfl rfl rfl rfl ?_) | (refine wl_scmp rfl rfl rfl rfl ?_)); intro rb hrb; cases rb <;> (first | (exfalso; simp at hrb; done) | ((try simp only [CS1, gt_iff_lt, ge_iff_le, ne_eq, Decidable.not_not] at hrb); (try subst hrb); (try (exfalso; omega))))))
      all_goals go_ret2
      all_goals exact ⟨rfl, h1.dropL.dropL.dropL⟩
set_option maxHeartbeats 16000000 in
theorem made_spec {w0 : World} {D : Nat → Prop} {q : Nat} : ∀ (t : Tr), ∀ {R : List Ent} {b s d : Option Nat} {cb cs cd : Nat} {l l2 : List En} {tm er : Int} (w : World), Hp w0 D (eQ q b s d cb cs cd l :: eQn b cb l :: eQs s cs l :: eQd d cd l :: R) w → TrR w0 D R t → t.pt.good → l.length ≤ 65536 → okP l → growT t.pt l = (l2, tm, er) →
    Calls Try.prog 59 #[.pointer (some ⟨q, 0, none⟩), .agg t.cells.toArray] w fun e w' => RMkP w0 D R q l2 tm er e w' := by
  intro t
  induction t using Tr.ind with
  | h t ih =>
  obtain ⟨xk, xf, xd, xn, xt, xa, xc, ks⟩ := t
  intro R b s d cb cs cd l l2 tm er w H ht hgd hl hok hr
  cases ht with
  | mk hrd hc hle hks =>
  simp only [Tr.pt] at hr hgd
  have hn2 := good_len hgd
  rw [ptL_len] at hn2
  simp only [growT] at hr
  simp only [Pt.good] at hgd
  have hgl := hgd.2
  clear hgd
  obtain ⟨N, hN⟩ : ∃ N, ks.length = N := ⟨_, rfl⟩
  have HN := Lib.hid hN
  have HRD := Lib.hid hrd
  have HS := Lib.hid hks
  have HL0 := Lib.hid (And.intro hl hok)
  have HGL0 := Lib.hid hgl
  have HR0 := Lib.hid hr
  simp only [Tr.cells]
  rw [hN] at hc hle hn2 ⊢
  clear hN hrd hks hl hok hgl hr
  go_enter Try.func59, Try.ntmps59
  go_wp2_with (first
    | ((with_reducible refine gBx ?_); first | (refine bxA H rfl rfl rfl ?_; clear H; intro bx w1 H))
    | ((with_reducible refine gAl ?_); refine al H Z33 rfl rfl ?_; clear H; intro bn w1 H)
    | (go_at_call 79; ((refine (rnode_spec H).mono ?_); rintro e w1 ⟨rfl, H1⟩; clear H; have H := H1; clear H1; (try simp only [Nd.cells])))
    | ((with_reducible refine gLd ?_); refine eLd H rfl rfl ?_; first | ((repeat ((with_reducible refine gEx ?_); first | (refine kLd 0 rfl rfl (by exact TT _ rfl) rfl ?_) | (refine kLdA 0 rfl rfl (by exact TT _ rfl) (Nat.le_of_ble_eq_true rfl) (by simp only [Nd.cells, Nd.zero, LS2]; rfl) ?_) | (refine nxL ?_))); fail_if_success (with_reducible refine gEx ?_)))
    | ((with_reducible refine gSt ?_); (first | (refine eSt H rfl rfl ⟨.int _ _, rfl, ?_⟩) | (refine eSt H rfl rfl ⟨.bool _, rfl, ?_⟩) | (refine eSt H rfl rfl ⟨.slice _ _ _, rfl, ?_⟩) | (refine eSt H rfl rfl ⟨.pointer _, rfl, ?_⟩) | (refine eSt H rfl rfl ⟨.string _, rfl, ?_⟩) | (refine eSt H rfl rfl ⟨.agg (List.toArray _), rfl, ?_⟩)); (first | ((repeat ((with_reducible refine gES ?_); first | (refine kSt 0 rfl rfl (by exact TT _ rfl) rfl (Nat.le_of_ble_eq_true rfl) ?_) | (refine kStA 0 rfl rfl (by exact TT _ rfl) rfl rfl (Nat.le_of_ble_eq_true rfl) ?_) | (refine nxS ?_))); fail_if_success (with_reducible refine gES ?_))); clear H; intro w1 H; simp only [List.set_cons_zero, List.set_cons_succ] at H; (try simp only [lay, LS1, Nat.reduceAdd] at H)))
  go_loopg [7] N (fun g v7 wr => ∃ (k : Nat) (l' : List En) (av bv : Int) (b s d : Option Nat) (cb cs cd : Nat), v7 = .int .i64 (k : Int) ∧ k + g = N ∧ Hid (growK (ptL (ks.drop k)) l' k ⟨xk, xf, xd, xn, xt, av, bv⟩ = (l2, tm, er)) ∧ Hid (l'.length ≤ 65536 ∧ okP l') ∧ Hid (goodL (ptL (ks.drop k))) ∧ Hp w0 D (⟨some bn, [.int .i64 xk, .int .i64 xf, .int .i64 xd, .int .u64 xn, .string xt, .int .i64 av, .int .i64 bv], 33, 7⟩ :: ⟨some bx, [.int .i64 xk, .int .i64 xf, .int .i64 xd, .int .u64 xn, .string xt, .slice xa N xc], 50, 6⟩ :: eQ q b s d cb cs cd l' :: eQn b cb l' :: eQs s cs l' :: eQd d cd l' :: R) wr)
  case atStart => exact ⟨0, l, 0, 0, b, s, d, cb, cs, cd, rfl, by omega, HR0, HL0, HGL0, H⟩
  case round =>
    clear H HR0 HL0 HGL0
    clear b s d cb cs cd
    obtain ⟨k, l', av, bv, b, s, d, cb, cs, cd, rfl, hkg, HR, HL, HGL, H⟩ := hrel
    have HKG := Lib.hid hkg
    by_cases hk : k < N
    · have hkl : k < ks.length := by rw [HN.out]; exact hk
      obtain ⟨⟨yk, yf, yd, yn, yt, ya, yc, js⟩, hx⟩ : ∃ y, ks[k]? = some y := ⟨_, List.getElem?_eq_getElem hkl⟩
      have hst := HR.out
      rw [ptL_step hx] at hst
      have hgd := HGL.out
      rw [ptL_step hx] at hgd
      simp only [goodL] at hgd
      have hE := rowsT_at hx
      simp only [Tr.cells] at hE
      have HE := Lib.hid hE
      obtain ⟨xb, xo, rfl, hO⟩ := HRD.out.some_of (by rw [rowsT_length]; omega)
      have HTX := Lib.hid (HS.out _ (List.mem_of_getElem? hx))
      have HX : Hid (.mk yk yf yd yn yt ya yc js ∈ (Tr.mk xk xf xd xn xt (some ⟨xb, xo, none⟩) xc ks).kids) := Lib.hid (List.mem_of_getElem? hx)
      have HGY := Lib.hid hgd.1
      have HGL2 := Lib.hid hgd.2
      obtain ⟨l3, tt, ee, hq⟩ : ∃ l3 tt ee, growT (Tr.pt (.mk yk yf yd yn yt ya yc js)) l' = (l3, tt, ee) := ⟨_, _, _, rfl⟩
      rw [growK_step hq] at hst
      have hf := grow_full (Tr.pt (.mk yk yf yd yn yt ya yc js)) l' HL.out.1
      have ho := grow_okP (Tr.pt (.mk yk yf yd yn yt ya yc js)) l' HL.out.2
      rw [hq] at hf ho
      have HL2 := Lib.hid (And.intro hf ho)
      have HPX := Lib.hid hq
      clear hx hkg hq hkl HR HRD HS HGL hgd hE hf ho
      by_cases he : ee = 0
      · subst he
        rw [if_pos rfl] at hst
        have HR2 := Lib.hid hst
        clear hst
        rcases (show k = 0 ∨ k = 1 by omega) with rfl | rfl
        · go_wp2_with (first
    | ((with_reducible refine gLd ?_); refine wl_loadR (agg := true) (n := 6) (hO [_, _, _, _, _, _] _ H) rfl rfl (by first | rfl | omega) T50 HE.out ?_)
    | (go_at_call 59; (refine (ih (.mk yk yf yd yn yt ya yc js) HX.out (R := ⟨some bn, [.int .i64 xk, .int .i64 xf, .int .i64 xd, .int .u64 xn, .string xt, .int .i64 av, .int .i64 bv], 33, 7⟩ :: ⟨some bx, [.int .i64 xk, .int .i64 xf, .int .i64 xd, .int .u64 xn, .string xt, .slice (some ⟨xb, xo, none⟩) N xc], 50, 6⟩ :: R) _ (Hp.swap (A := [_, _]) (B := [_, _, _, _]) H) (HTX.out.push [⟨some bn, [.int .i64 xk, .int .i64 xf, .int .i64 xd, .int .u64 xn, .string xt, .int .i64 av, .int .i64 bv], 33, 7⟩, ⟨some bx, [.int .i64 xk, .int .i64 xf, .int .i64 xd, .int .u64 xn, .string xt, .slice (some ⟨xb, xo, none⟩) N xc], 50, 6⟩]) HGY.out HL.out.1 HL.out.2 HPX.out).mono ?_); rintro e w1 ⟨b, s, d, cb, cs, cd, rfl, h1⟩; clear H; have H := Hp.swap (A := [_, _, _, _]) (B := [_, _]) h1; clear h1; simp only [List.cons_append, List.nil_append] at H)
    | ((with_reducible refine gLd ?_); refine eLd H rfl rfl ?_; first | ((repeat ((with_reducible refine gEx ?_); first | (refine kLd 0 rfl rfl (by exact TT _ rfl) rfl ?_) | (refine kLdA 0 rfl rfl (by exact TT _ rfl) (Nat.le_of_ble_eq_true rfl) (by simp only [Nd.cells, Nd.zero, LS2]; rfl) ?_) | (refine nxL ?_))); fail_if_success (with_reducible refine gEx ?_)))
    | ((with_reducible refine gSt ?_); (first | (refine eSt H rfl rfl ⟨.int _ _, rfl, ?_⟩) | (refine eSt H rfl rfl ⟨.bool _, rfl, ?_⟩) | (refine eSt H rfl rfl ⟨.slice _ _ _, rfl, ?_⟩) | (refine eSt H rfl rfl ⟨.pointer _, rfl, ?_⟩) | (refine eSt H rfl rfl ⟨.string _, rfl, ?_⟩) | (refine eSt H rfl rfl ⟨.agg (List.toArray _), rfl, ?_⟩)); (first | ((repeat ((with_reducible refine gES ?_); first | (refine kSt 0 rfl rfl (by exact TT _ rfl) rfl (Nat.le_of_ble_eq_true rfl) ?_) | (refine kStA 0 rfl rfl (by exact TT _ rfl) rfl rfl (Nat.le_of_ble_eq_true rfl) ?_) | (refine nxS ?_))); fail_if_success (with_reducible refine gES ?_))); clear H; intro w1 H; simp only [List.set_cons_zero, List.set_cons_succ] at H; (try simp only [lay, LS1, Nat.reduceAdd] at H))
    | ((with_reducible refine gEq ?_); (first | (refine wl_cmp rfl rfl rfl rfl ?_) | (refine wl_scmp rfl rfl rfl rfl ?_)); intro rb hrb; cases rb <;> (first | (exfalso; simp at hrb; done) | ((try simp only [CS1, gt_iff_lt, ge_iff_le, ne_eq, Decidable.not_not] at hrb); (try subst hrb); (try (exfalso; omega))))))
          go_roundg (gk - 1)
          case measure => have := HKG.out; omega
          case rel => exact ⟨1, l3, tt, bv, b, s, d, cb, cs, cd, by go_num, by have := HKG.out; omega, HR2, HL2, HGL2, H⟩
        · go_wp2_with (first
    | ((with_reducible refine gLd ?_); refine wl_loadR (agg := true) (n := 6) (hO [_, _, _, _, _, _] _ H) rfl rfl (by first | rfl | omega) T50 HE.out ?_)
    | (go_at_call 59; (refine (ih (.mk yk yf yd yn yt ya yc js) HX.out (R := ⟨some bn, [.int .i64 xk, .int .i64 xf, .int .i64 xd, .int .u64 xn, .string xt, .int .i64 av, .int .i64 bv], 33, 7⟩ :: ⟨some bx, [.int .i64 xk, .int .i64 xf, .int .i64 xd, .int .u64 xn, .string xt, .slice (some ⟨xb, xo, none⟩) N xc], 50, 6⟩ :: R) _ (Hp.swap (A := [_, _]) (B := [_, _, _, _]) H) (HTX.out.push [⟨some bn, [.int .i64 xk, .int .i64 xf, .int .i64 xd, .int .u64 xn, .string xt, .int .i64 av, .int .i64 bv], 33, 7⟩, ⟨some bx, [.int .i64 xk, .int .i64 xf, .int .i64 xd, .int .u64 xn, .string xt, .slice (some ⟨xb, xo, none⟩) N xc], 50, 6⟩]) HGY.out HL.out.1 HL.out.2 HPX.out).mono ?_); rintro e w1 ⟨b, s, d, cb, cs, cd, rfl, h1⟩; clear H; have H := Hp.swap (A := [_, _, _, _]) (B := [_, _]) h1; clear h1; simp only [List.cons_append, List.nil_append] at H)
    | ((with_reducible refine gLd ?_); refine eLd H rfl rfl ?_; first | ((repeat ((with_reducible refine gEx ?_); first | (refine kLd 0 rfl rfl (by exact TT _ rfl) rfl ?_) | (refine kLdA 0 rfl rfl (by exact TT _ rfl) (Nat.le_of_ble_eq_true rfl) (by simp only [Nd.cells, Nd.zero, LS2]; rfl) ?_) | (refine nxL ?_))); fail_if_success (with_reducible refine gEx ?_)))
    | ((with_reducible refine gSt ?_); (first | (refine eSt H rfl rfl ⟨.int _ _, rfl, ?_⟩) | (refine eSt H rfl rfl ⟨.bool _, rfl, ?_⟩) | (refine eSt H rfl rfl ⟨.slice _ _ _, rfl, ?_⟩) | (refine eSt H rfl rfl ⟨.pointer _, rfl, ?_⟩) | (refine eSt H rfl rfl ⟨.string _, rfl, ?_⟩) | (refine eSt H rfl rfl ⟨.agg (List.toArray _), rfl, ?_⟩)); (first | ((repeat ((with_reducible refine gES ?_); first | (refine kSt 0 rfl rfl (by exact TT _ rfl) rfl (Nat.le_of_ble_eq_true rfl) ?_) | (refine kStA 0 rfl rfl (by exact TT _ rfl) rfl rfl (Nat.le_of_ble_eq_true rfl) ?_) | (refine nxS ?_))); fail_if_success (with_reducible refine gES ?_))); clear H; intro w1 H; simp only [List.set_cons_zero, List.set_cons_succ] at H; (try simp only [lay, LS1, Nat.reduceAdd] at H))
    | ((with_reducible refine gEq ?_); (first | (refine wl_cmp rfl rfl rfl rfl ?_) | (refine wl_scmp rfl rfl rfl rfl ?_)); intro rb hrb; cases rb <;> (first | (exfalso; simp at hrb; done) | ((try simp only [CS1, gt_iff_lt, ge_iff_le, ne_eq, Decidable.not_not] at hrb); (try subst hrb); (try (exfalso; omega))))))
          go_roundg (gk - 1)
          case measure => have := HKG.out; omega
          case rel => exact ⟨2, l3, av, tt, b, s, d, cb, cs, cd, by go_num, by have := HKG.out; omega, HR2, HL2, HGL2, H⟩
      · rw [if_neg he] at hst
        simp only [Prod.mk.injEq] at hst
        obtain ⟨rfl, rfl, rfl⟩ := hst
        go_wp2_with (first
    | ((with_reducible refine gLd ?_); refine wl_loadR (agg := true) (n := 6) (hO [_, _, _, _, _, _] _ H) rfl rfl (by first | rfl | omega) T50 HE.out ?_)
    | (go_at_call 59; (refine (ih (.mk yk yf yd yn yt ya yc js) HX.out (R := ⟨some bn, [.int .i64 xk, .int .i64 xf, .int .i64 xd, .int .u64 xn, .string xt, .int .i64 av, .int .i64 bv], 33, 7⟩ :: ⟨some bx, [.int .i64 xk, .int .i64 xf, .int .i64 xd, .int .u64 xn, .string xt, .slice (some ⟨xb, xo, none⟩) N xc], 50, 6⟩ :: R) _ (Hp.swap (A := [_, _]) (B := [_, _, _, _]) H) (HTX.out.push [⟨some bn, [.int .i64 xk, .int .i64 xf, .int .i64 xd, .int .u64 xn, .string xt, .int .i64 av, .int .i64 bv], 33, 7⟩, ⟨some bx, [.int .i64 xk, .int .i64 xf, .int .i64 xd, .int .u64 xn, .string xt, .slice (some ⟨xb, xo, none⟩) N xc], 50, 6⟩]) HGY.out HL.out.1 HL.out.2 HPX.out).mono ?_); rintro e w1 ⟨b, s, d, cb, cs, cd, rfl, h1⟩; clear H; have H := Hp.swap (A := [_, _, _, _]) (B := [_, _]) h1; clear h1; simp only [List.cons_append, List.nil_append] at H)
    | ((with_reducible refine gLd ?_); refine eLd H rfl rfl ?_; first | ((repeat ((with_reducible refine gEx ?_); first | (refine kLd 0 rfl rfl (by exact TT _ rfl) rfl ?_) | (refine kLdA 0 rfl rfl (by exact TT _ rfl) (Nat.le_of_ble_eq_true rfl) (by simp only [Nd.cells, Nd.zero, LS2]; rfl) ?_) | (refine nxL ?_))); fail_if_success (with_reducible refine gEx ?_)))
    | ((with_reducible refine gEq ?_); (first | (refine wl_cmp rfl rfl rfl rfl ?_) | (refine wl_scmp rfl rfl rfl rfl ?_)); intro rb hrb; cases rb <;> (first | (exfalso; simp at hrb; done) | ((try simp only [CS1, gt_iff_lt, ge_iff_le, ne_eq, Decidable.not_not] at hrb); (try subst hrb); (try (exfalso; omega))))))
        all_goals go_ret2
        all_goals exact ⟨b, s, d, cb, cs, cd, rfl, H.drop.drop⟩
    · have hst := HR.out
      rw [ptL_end (by have := HN.out; omega)] at hst
      simp only [growK] at hst
      clear HR
      have HR := Lib.hid hst
      clear hst hkg HRD HS HGL
      go_wp2_with (first
    | (go_at_call 17; (refine (rMake_spec (n := ⟨xk, xf, xd, xn, xt, av, bv⟩) (R := ⟨some bn, [.int .i64 xk, .int .i64 xf, .int .i64 xd, .int .u64 xn, .string xt, .int .i64 av, .int .i64 bv], 33, 7⟩ :: ⟨some bx, [.int .i64 xk, .int .i64 xf, .int .i64 xd, .int .u64 xn, .string xt, .slice xa N xc], 50, 6⟩ :: R) (Hp.swap (A := [_, _]) (B := [_, _, _, _]) H) HL.out.1 HL.out.2 HR.out).mono ?_; rintro e w1 ⟨b, s, d, cb, cs, cd, rfl, h1⟩; clear H; have H := Hp.swap (A := [_, _, _, _]) (B := [_, _]) h1; clear h1; simp only [List.cons_append, List.nil_append] at H))
    | ((with_reducible refine gLd ?_); refine eLd H rfl rfl ?_; first | ((repeat ((with_reducible refine gEx ?_); first | (refine kLd 0 rfl rfl (by exact TT _ rfl) rfl ?_) | (refine kLdA 0 rfl rfl (by exact TT _ rfl) (Nat.le_of_ble_eq_true rfl) (by simp only [Nd.cells, Nd.zero, LS2]; rfl) ?_) | (refine nxL ?_))); fail_if_success (with_reducible refine gEx ?_)))
    | ((with_reducible refine gEq ?_); (first | (refine wl_cmp rfl rfl rfl rfl ?_) | (refine wl_scmp rfl rfl rfl rfl ?_)); intro rb hrb; cases rb <;> (first | (exfalso; simp at hrb; done) | ((try simp only [CS1, gt_iff_lt, ge_iff_le, ne_eq, Decidable.not_not] at hrb); (try subst hrb); (try (exfalso; omega))))))
      all_goals go_ret2
      all_goals exact ⟨b, s, d, cb, cs, cd, rfl, H.drop.drop⟩
end Go.Proofs.Ytebecelhcpljaaa
