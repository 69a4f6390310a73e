/- TermOnce: what the law computes. -/
import Derived.Test.YtebecelhcpljaaaW24
import Derived.Test.YtebecelhcpljaaaW25
import Derived.Deep.Cut
import Derived.WalkKit
import Derived.Lib.Hide
import Derived.Deep.LoopGhost
import Derived.WalkSpells
set_option linter.unusedVariables false
set_option linter.unusedSimpArgs false
namespace Go.Proofs.Ytebecelhcpljaaa
open Go.RowKit Go.Gx Go.Gx.Trm
set_option maxRecDepth 100000
theorem once_iff {a b : Pt} {l1 l2 : List En} {s t : Int} (ha : a.size ≤ 6000) (hb : b.size ≤ 6000) (h1 : ofE [] a = (l1, s, 0)) (h2 : ofE l1 b = (l2, t, 0)) :
    (s == t) = a.beq b ∧ treeP l2 s = a ∧ treeP l2 t = b ∧ wfP l2 ∧ l2.length ≤ 12000 := by
  obtain ⟨m, k, e1, g1, e2, e3, _, _, e6, e7⟩ := of_ok (l := []) (t := a) wfP_nil (by simp; omega) (by rw [h1])
  rw [h1] at e1
  simp only [Prod.mk.injEq, List.nil_append] at e1
  obtain ⟨rfl, rfl, _⟩ := e1
  simp only [List.nil_append] at *
  obtain ⟨m2, k2, f1, g2, f2, f3, _, _, f6, f7⟩ := of_ok (l := l1) (t := b) e7 (by omega) (by rw [h2])
  have f1' := f1
  rw [h2] at f1
  simp only [Prod.mk.injEq] at f1
  obtain ⟨rfl, rfl, _⟩ := f1
  have hs := inP_bd e3
  have hts : treeP (l1 ++ m2) s = a := by rw [treeP_mono e7 hs.2, e6]
  refine ⟨?_, hts, f6, f7, by rw [List.length_append]; omega⟩
  by_cases hab : a = b
  · subst hab
    have h3 := grow_tree e7 _ s (Nat.le_refl _) e3
    rw [e6, g2] at h3
    simp only [Prod.mk.injEq] at h3
    rw [Pt.beq_rfl, h3.2.1]; simp
  · have h3 : ¬ s = t := fun h => hab (by rw [← hts, h, f6])
    have h4 : a.beq b = false := by cases h : a.beq b with | false => rfl | true => exact absurd (Pt.beq_eq _ _ h) hab
    rw [h4]; simp [h3]
theorem once_ent {l : List En} (hw : wfP l) {k : Nat} {e : En} (h : l[k]? = some e) : e.n.a < (k : Int) + 1 ∧ e.n.b < (k : Int) + 1 ∧ sizeP l e.n.a < sizeP l ((k : Int) + 1) ∧ deepP l e.n.b < deepP l ((k : Int) + 1) := by
  have hE := hw.wf k e h
  have hl := hE.lt
  have h1 := entP_i h
  have a1 := sizeP_le hw.ok e.n.a; have a2 := sizeP_le hw.ok e.n.b
  have b1 := deepP_le hw.ok e.n.a; have b2 := deepP_le hw.ok e.n.b
  have hs := hE.sz
  have hd := hE.dp
  unfold bigS at hs
  unfold bigD at hd
  have h2 : sizeP l ((k : Int) + 1) = e.size := by simp [sizeP, h1]
  have h3 : deepP l ((k : Int) + 1) = e.deep := by simp [deepP, h1]
  rw [h2, h3]
  omega
theorem large_t {w0 w : World} {D : Nat → Prop} {R : List Ent} {k f d n : Int} {t : ByteArray} {x : Option Addr} {c0 N : Nat} {ts : List Tr} {q : Int} {r : Bool} (H : Hp w0 D R w) (hN : ts.length = N) (ht : TrR w0 D R (.mk k f d n t x c0 ts)) (hq : partsT (Tr.pt (.mk k f d n t x c0 ts)) 6000 = q) (hr : decide (6000 < q) = r) :
    Calls Try.prog 23 #[.agg (List.toArray [.int .i64 k, .int .i64 f, .int .i64 d, .int .u64 n, .string t, .slice x N c0])] w fun e w' => e = .returned (.bool r) ∧ Hp w0 D R w' := by
  subst hN
  have h := large_spec (w := w) (R := R) (t := .mk k f d n t x c0 ts) H ht hq hr
  simp only [Tr.cells] at h
  exact h
theorem small_of {t : Pt} {q : Int} (h : partsT t 6000 = q) (hr : decide (6000 < q) = false) : t.size ≤ 6000 := by
  have h1 : ¬ 6000 < q := by simpa using hr
  have h2 := partsT_eq t 6000 (by omega) (by rw [h]; omega)
  omega
set_option maxHeartbeats 32000000 in
theorem Once_spec {w0 w : World} {D : Nat → Prop} {R : List Ent} (H : Hp w0 D R w) (ta tb : Tr) (hA : TrA w0 D ta) (hB : TrA w0 D tb) :
    Calls Try.prog 5 #[.agg ta.cells.toArray, .agg tb.cells.toArray] w fun e w' => e = .returned (.bool true) ∧ ∃ L, Hp w0 D L w' := by
  have hta := hA.rd R
  have htb := hB.rd R
  obtain ⟨qa, hqa⟩ : ∃ q, partsT ta.pt 6000 = q := ⟨_, rfl⟩
  obtain ⟨qb, hqb⟩ : ∃ q, partsT tb.pt 6000 = q := ⟨_, rfl⟩
  obtain ⟨ra, hra⟩ : ∃ r, decide (6000 < qa) = r := ⟨_, rfl⟩
  obtain ⟨rb, hrb⟩ : ∃ r, decide (6000 < qb) = r := ⟨_, rfl⟩
  have hsa : ra = false → ta.pt.size ≤ 6000 := fun h => small_of hqa (hra.trans h)
  have hsb : rb = false → tb.pt.size ≤ 6000 := fun h => small_of hqb (hrb.trans h)
  obtain ⟨xk, xf, xd, xn, xt, xa, xc, ks⟩ := ta
  obtain ⟨yk, yf, yd, yn, yt, ya, yc, js⟩ := tb
  have HRA := Lib.hid hta
  have HRB := Lib.hid htb
  have HTA : ∀ b2 b3 : Nat, TrR w0 D (⟨some b3, [.int .i64 yk, .int .i64 yf, .int .i64 yd, .int .u64 yn, .string yt, .slice ya js.length yc], 50, 6⟩ :: ⟨some b2, [.int .i64 xk, .int .i64 xf, .int .i64 xd, .int .u64 xn, .string xt, .slice xa ks.length xc], 50, 6⟩ :: R) (.mk xk xf xd xn xt xa xc ks) := fun b2 b3 => hta.push [⟨some b3, [.int .i64 yk, .int .i64 yf, .int .i64 yd, .int .u64 yn, .string yt, .slice ya js.length yc], 50, 6⟩, ⟨some b2, [.int .i64 xk, .int .i64 xf, .int .i64 xd, .int .u64 xn, .string xt, .slice xa ks.length xc], 50, 6⟩]
  have HTB : ∀ b2 b3 : Nat, TrR w0 D (⟨some b3, [.int .i64 yk, .int .i64 yf, .int .i64 yd, .int .u64 yn, .string yt, .slice ya js.length yc], 50, 6⟩ :: ⟨some b2, [.int .i64 xk, .int .i64 xf, .int .i64 xd, .int .u64 xn, .string xt, .slice xa ks.length xc], 50, 6⟩ :: R) (.mk yk yf yd yn yt ya yc js) := fun b2 b3 => htb.push [⟨some b3, [.int .i64 yk, .int .i64 yf, .int .i64 yd, .int .u64 yn, .string yt, .slice ya js.length yc], 50, 6⟩, ⟨some b2, [.int .i64 xk, .int .i64 xf, .int .i64 xd, .int .u64 xn, .string xt, .slice xa ks.length xc], 50, 6⟩]
  have HTA := Lib.hid HTA
  have HTB := Lib.hid HTB
  have HQA := Lib.hid hqa
  have HQB := Lib.hid hqb
  have HRRA := Lib.hid hra
  have HRRB := Lib.hid hrb
  clear hA hB hta htb hqa hqb hra hrb
  simp only [Tr.cells]
  cases ra with
  | true =>
    clear hsa hsb
    go_enter Try.func5, Try.ntmps5
    go_wp2_with (first
    | ((with_reducible refine gBx ?_); first | (have hqb2 := b2; clear hqb2; refine bxA H rfl rfl rfl ?_; clear H; intro b3 w1 H) | (refine bxA H rfl rfl rfl ?_; clear H; intro b2 w1 H))
    | (go_at_call 23; first | ((with_reducible refine (large_t (ts := ks) H rfl (HTA.out b2 b3) HQA.out HRRA.out).mono ?_); rintro e w1 ⟨rfl, H1⟩; clear H; have H := H1; clear H1) | ((with_reducible refine (large_t (ts := js) H rfl (HTB.out b2 b3) HQB.out HRRB.out).mono ?_); rintro e w1 ⟨rfl, H1⟩; clear H; have H := H1; clear H1))
    | (go_at_call 11; ((refine (live_hp H).mono ?_); rintro e w1 ⟨rfl, H1⟩; clear H; have H := H1; clear H1))
    | ((with_reducible refine gLd ?_); refine eLd H rfl rfl ?_; first | ((repeat ((with_reducible refine gEx ?_); first | (refine kLd 0 rfl rfl (by exact TT _ rfl) rfl ?_) | (refine kLdA 0 rfl rfl (by exact TT _ rfl) (Nat.le_of_ble_eq_true rfl) (by simp only [Nd.cells, Nd.zero, LS2]; rfl) ?_) | (refine nxL ?_))); fail_if_success (with_reducible refine gEx ?_)))
    | ((with_reducible refine gSt ?_); (first | (refine eSt H rfl rfl ⟨.int _ _, rfl, ?_⟩) | (refine eSt H rfl rfl ⟨.bool _, rfl, ?_⟩) | (refine eSt H rfl rfl ⟨.slice _ _ _, rfl, ?_⟩) | (refine eSt H rfl rfl ⟨.pointer _, rfl, ?_⟩) | (refine eSt H rfl rfl ⟨.string _, rfl, ?_⟩) | (refine eSt H rfl rfl ⟨.agg (List.toArray _), rfl, ?_⟩)); (first | ((repeat ((with_reducible refine gES ?_); first | (refine kSt 0 rfl rfl (by exact TT _ rfl) rfl (Nat.le_of_ble_eq_true rfl) ?_) | (refine kStA 0 rfl rfl (by exact TT _ rfl) rfl rfl (Nat.le_of_ble_eq_true rfl) ?_) | (refine nxS ?_))); fail_if_success (with_reducible refine gES ?_))); clear H; intro w1 H; simp only [List.set_cons_zero, List.set_cons_succ] at H; (try simp only [lay, LS1, Nat.reduceAdd] at H))
    | ((with_reducible refine gBx ?_); refine bxA H rfl rfl rfl ?_; clear H; intro b1 w1 H)
    | ((with_reducible refine gBs ?_); (first | (refine bs1 H rfl (by exact SS _ rfl) rfl (Nat.le_of_ble_eq_true rfl) (Nat.le_of_ble_eq_true rfl) rfl ?_) | (refine wl_buildSlice0 rfl (by exact SS _ rfl) H ?_)); clear H; intro b1 w1 H)
    | ((with_reducible refine gEq ?_); (first | (refine wl_cmp rfl rfl rfl rfl ?_) | (refine wl_scmp rfl rfl rfl rfl ?_)); intro rb hrb; cases rb <;> (first | (exfalso; simp at hrb; done) | ((try simp only [CS1, gt_iff_lt, ge_iff_le, ne_eq, Decidable.not_not] at hrb); (try subst hrb); (try (exfalso; omega)))))
    | ((with_reducible refine gRg ?_); refine wp_region_text rfl (by decide +kernel) ?_; replace H := H.drew)
    | ((with_reducible refine EndQ.intro ?_ ?_); (· kernel_rfl)))
    go_ret
    exact ⟨rfl, _, H⟩
  | false =>
  cases rb with
  | true =>
    clear hsa hsb
    go_enter Try.func5, Try.ntmps5
    go_wp2_with (first
    | ((with_reducible refine gBx ?_); first | (have hqb2 := b2; clear hqb2; refine bxA H rfl rfl rfl ?_; clear H; intro b3 w1 H) | (refine bxA H rfl rfl rfl ?_; clear H; intro b2 w1 H))
    | (go_at_call 23; first | ((with_reducible refine (large_t (ts := ks) H rfl (HTA.out b2 b3) HQA.out HRRA.out).mono ?_); rintro e w1 ⟨rfl, H1⟩; clear H; have H := H1; clear H1) | ((with_reducible refine (large_t (ts := js) H rfl (HTB.out b2 b3) HQB.out HRRB.out).mono ?_); rintro e w1 ⟨rfl, H1⟩; clear H; have H := H1; clear H1))
    | (go_at_call 11; ((refine (live_hp H).mono ?_); rintro e w1 ⟨rfl, H1⟩; clear H; have H := H1; clear H1))
    | ((with_reducible refine gLd ?_); refine eLd H rfl rfl ?_; first | ((repeat ((with_reducible refine gEx ?_); first | (refine kLd 0 rfl rfl (by exact TT _ rfl) rfl ?_) | (refine kLdA 0 rfl rfl (by exact TT _ rfl) (Nat.le_of_ble_eq_true rfl) (by simp only [Nd.cells, Nd.zero, LS2]; rfl) ?_) | (refine nxL ?_))); fail_if_success (with_reducible refine gEx ?_)))
    | ((with_reducible refine gSt ?_); (first | (refine eSt H rfl rfl ⟨.int _ _, rfl, ?_⟩) | (refine eSt H rfl rfl ⟨.bool _, rfl, ?_⟩) | (refine eSt H rfl rfl ⟨.slice _ _ _, rfl, ?_⟩) | (refine eSt H rfl rfl ⟨.pointer _, rfl, ?_⟩) | (refine eSt H rfl rfl ⟨.string _, rfl, ?_⟩) | (refine eSt H rfl rfl ⟨.agg (List.toArray _), rfl, ?_⟩)); (first | ((repeat ((with_reducible refine gES ?_); first | (refine kSt 0 rfl rfl (by exact TT _ rfl) rfl (Nat.le_of_ble_eq_true rfl) ?_) | (refine kStA 0 rfl rfl (by exact TT _ rfl) rfl rfl (Nat.le_of_ble_eq_true rfl) ?_) | (refine nxS ?_))); fail_if_success (with_reducible refine gES ?_))); clear H; intro w1 H; simp only [List.set_cons_zero, List.set_cons_succ] at H; (try simp only [lay, LS1, Nat.reduceAdd] at H))
    | ((with_reducible refine gBx ?_); refine bxA H rfl rfl rfl ?_; clear H; intro b1 w1 H)
    | ((with_reducible refine gBs ?_); (first | (refine bs1 H rfl (by exact SS _ rfl) rfl (Nat.le_of_ble_eq_true rfl) (Nat.le_of_ble_eq_true rfl) rfl ?_) | (refine wl_buildSlice0 rfl (by exact SS _ rfl) H ?_)); clear H; intro b1 w1 H)
    | ((with_reducible refine gEq ?_); (first | (refine wl_cmp rfl rfl rfl rfl ?_) | (refine wl_scmp rfl rfl rfl rfl ?_)); intro rb hrb; cases rb <;> (first | (exfalso; simp at hrb; done) | ((try simp only [CS1, gt_iff_lt, ge_iff_le, ne_eq, Decidable.not_not] at hrb); (try subst hrb); (try (exfalso; omega)))))
    | ((with_reducible refine gRg ?_); refine wp_region_text rfl (by decide +kernel) ?_; replace H := H.drew)
    | ((with_reducible refine EndQ.intro ?_ ?_); (· kernel_rfl)))
    go_ret
    exact ⟨rfl, _, H⟩
  | false =>
  have hsa := hsa rfl
  have hsb := hsb rfl
  obtain ⟨l1, s, e1, ho1⟩ : ∃ l s e, ofE [] (Tr.pt (.mk xk xf xd xn xt xa xc ks)) = (l, s, e) := ⟨_, _, _, rfl⟩
  obtain ⟨l2, t, e2, ho2⟩ : ∃ l s e, ofE l1 (Tr.pt (.mk yk yf yd yn yt ya yc js)) = (l, s, e) := ⟨_, _, _, rfl⟩
  have hw1 : wfP l1 := by have := ofE_wf (l := []) (t := Tr.pt (.mk xk xf xd xn xt xa xc ks)) wfP_nil; rw [ho1] at this; exact this
  have hw2 : wfP l2 := by have := ofE_wf (l := l1) (t := Tr.pt (.mk yk yf yd yn yt ya yc js)) hw1; rw [ho2] at this; exact this
  have hl1 : l1.length ≤ 6000 := by obtain ⟨m, h1, h2⟩ := ofE_len [] (Tr.pt (.mk xk xf xd xn xt xa xc ks)); rw [ho1] at h1; dsimp only at h1; rw [h1]; simp; omega
  have hl2 : l2.length ≤ 12000 := by obtain ⟨m, h1, h2⟩ := ofE_len l1 (Tr.pt (.mk yk yf yd yn yt ya yc js)); rw [ho2] at h1; dsimp only at h1; rw [h1]; simp; omega
  have HG1 := Lib.hid (fun h => grow_ok' (l := []) (t := Tr.pt (.mk xk xf xd xn xt xa xc ks)) wfP_nil (by simp; omega) h)
  have HG2 := Lib.hid (fun h => grow_ok' (l := l1) (t := Tr.pt (.mk yk yf yd yn yt ya yc js)) hw1 (by omega) h)
  have hbe1 : 0 ≤ e1 ∧ e1 ≤ 53 := by
    by_cases h : (looksT (Tr.pt (.mk xk xf xd xn xt xa xc ks)) 0 0).1 = 0
    · have h2 := HG1.out h; unfold ofE at ho1; rw [if_pos h] at ho1; rw [ho1] at h2; dsimp only at h2; omega
    · have h2 := looksT_er (Tr.pt (.mk xk xf xd xn xt xa xc ks)) 0 0; unfold ofE at ho1; rw [if_neg h] at ho1; simp only [Prod.mk.injEq] at ho1; omega
  have hbe2 : 0 ≤ e2 ∧ e2 ≤ 53 := by
    by_cases h : (looksT (Tr.pt (.mk yk yf yd yn yt ya yc js)) 0 0).1 = 0
    · have h2 := HG2.out h; unfold ofE at ho2; rw [if_pos h] at ho2; rw [ho2] at h2; dsimp only at h2; omega
    · have h2 := looksT_er (Tr.pt (.mk yk yf yd yn yt ya yc js)) 0 0; unfold ofE at ho2; rw [if_neg h] at ho2; simp only [Prod.mk.injEq] at ho2; omega
  have hon : e1 = 0 → e2 = 0 → _ := fun h h' => once_iff hsa hsb (by rw [ho1, h]) (by rw [ho2, h'])
  obtain ⟨hbe1, hbe3⟩ := hbe1
  obtain ⟨hbe2, hbe4⟩ := hbe2
  have HRAS := Lib.hid hsa
  have HRBS := Lib.hid hsb
  have HO1 := Lib.hid ho1
  have HO2 := Lib.hid ho2
  have HL1 : Hid (l1.length ≤ 65536) := Lib.hid (by omega)
  have HL2 : Hid (l2.length ≤ 65536) := Lib.hid (by omega)
  have HK1 := Lib.hid hw1.ok
  have HWF2 := Lib.hid hw2
  clear hsa hsb ho1 ho2 hw1 hw2 hl1 hl2
  by_cases h1 : e1 = 0
  · by_cases h2 : e2 = 0
    · have hon2 := hon h1 h2
      clear hon
      subst h1 h2
      obtain ⟨hrr, ht1, ht2, _, _⟩ := hon2
      obtain ⟨rr, hrr2⟩ : ∃ rr, (s == t) = rr := ⟨_, rfl⟩
      rw [hrr2] at hrr
      have HRR := Lib.hid hrr2
      have HBQ := Lib.hid hrr.symm
      have HT1 := Lib.hid ht1
      have HT2 := Lib.hid ht2
      clear hrr hrr2 ht1 ht2
      go_enter Try.func5, Try.ntmps5
      go_wp2_with (first
    | ((with_reducible refine gBx ?_); first | (have hqb2 := b2; clear hqb2; refine bxA H rfl rfl rfl ?_; clear H; intro b3 w1 H) | (refine bxA H rfl rfl rfl ?_; clear H; intro b2 w1 H))
    | (go_at_call 23; first | ((with_reducible refine (large_t (ts := ks) H rfl (HTA.out b2 b3) HQA.out HRRA.out).mono ?_); rintro e w1 ⟨rfl, H1⟩; clear H; have H := H1; clear H1) | ((with_reducible refine (large_t (ts := js) H rfl (HTB.out b2 b3) HQB.out HRRB.out).mono ?_); rintro e w1 ⟨rfl, H1⟩; clear H; have H := H1; clear H1))
    | (go_at_call 12; (refine (New_spec (Hg.of H)).mono ?_; rintro e w1 ⟨p, rfl, hP⟩; clear H; obtain ⟨mb, a, c, hg⟩ := hP; obtain ⟨wz, Dz, H, back, bk2⟩ := hg.openX; clear hg; replace H : Hp wz Dz (eP p mb a c [] :: eE a c [] :: ⟨some b3, [.int .i64 yk, .int .i64 yf, .int .i64 yd, .int .u64 yn, .string yt, .slice ya js.length yc], 50, 6⟩ :: ⟨some b2, [.int .i64 xk, .int .i64 xf, .int .i64 xd, .int .u64 xn, .string xt, .slice xa ks.length xc], 50, 6⟩ :: R) _ := H))
    | (go_at_call 24; have hq := N1; clear hq; (refine (Lent_spec (.mk yk yf yd yn yt ya yc js) _ H (TrR.down bk2 (HRB.out.push (_ :: _ :: _ :: _ :: N1))) HRBS.out).mono ?_; rintro e w1 ⟨⟨vk, vf, vd, vn, vt, va, vc, vs⟩, N2, rfl, hptv, htwv, H1⟩; clear H; have H := Hp.swap (A := N2) (B := [_, _, _, _]) H1; clear H1; simp only [List.cons_append, List.nil_append] at H; (try simp only [Tr.cells])))
    | (go_at_call 24; (refine (Lent_spec (.mk xk xf xd xn xt xa xc ks) _ H (TrR.down bk2 (HRA.out.push (_ :: _ :: _ :: _ :: []))) HRAS.out).mono ?_; rintro e w1 ⟨⟨zk, zf, zd, zn, zt, za, zc, zs⟩, N1, rfl, hptz, htwz, H1⟩; clear H; have H := Hp.swap (A := N1) (B := [_, _, _, _]) H1; clear H1; simp only [List.cons_append, List.nil_append] at H; (try simp only [Tr.cells])))
    | (go_at_call 25; have hq := N2; clear hq; (refine (Of_spec (l := l1) (l2 := l2) (tm := t) (L := ⟨some b3, [.int .i64 yk, .int .i64 yf, .int .i64 yd, .int .u64 yn, .string yt, .slice ya js.length yc], 50, 6⟩ :: ⟨some b2, [.int .i64 xk, .int .i64 xf, .int .i64 xd, .int .u64 xn, .string xt, .slice xa ks.length xc], 50, 6⟩ :: (N2 ++ (N1 ++ R))) (t := (.mk vk vf vd vn vt va vc vs)) ⟨mb, a, c, back _ _ H⟩ (((htwv.right _).push [⟨some b3, [.int .i64 yk, .int .i64 yf, .int .i64 yd, .int .u64 yn, .string yt, .slice ya js.length yc], 50, 6⟩, ⟨some b2, [.int .i64 xk, .int .i64 xf, .int .i64 xd, .int .u64 xn, .string xt, .slice xa ks.length xc], 50, 6⟩]) w0 D) HL1.out HK1.out (by rw [hptv]; exact HO2.out) (by rw [hptv]; exact HG2.out)).mono ?_; rintro e w1 ⟨rfl, h1⟩; clear H back bk2; obtain ⟨mb, a, c, hg⟩ := h1; obtain ⟨wz, Dz, H, back, bk2⟩ := hg.openX; clear hg); have HPLR : Hid (PlR (eP p mb a c l2 :: eE a c l2 :: ⟨some b3, [.int .i64 yk, .int .i64 yf, .int .i64 yd, .int .u64 yn, .string yt, .slice ya js.length yc], 50, 6⟩ :: ⟨some b2, [.int .i64 xk, .int .i64 xf, .int .i64 xd, .int .u64 xn, .string xt, .slice xa ks.length xc], 50, 6⟩ :: (N2 ++ (N1 ++ R))) p l2) := Lib.hid ⟨mb, a, c, 0, 1, rfl, rfl⟩; have HAD : Hid (TrR wz Dz (eP p mb a c l2 :: eE a c l2 :: ⟨some b3, [.int .i64 yk, .int .i64 yf, .int .i64 yd, .int .u64 yn, .string yt, .slice ya js.length yc], 50, 6⟩ :: ⟨some b2, [.int .i64 xk, .int .i64 xf, .int .i64 xd, .int .u64 xn, .string xt, .slice xa ks.length xc], 50, 6⟩ :: (N2 ++ (N1 ++ R))) (.mk xk xf xd xn xt xa xc ks)) := Lib.hid (TrR.down bk2 (((HRA.out.push N1).push N2).push [_, _, _, _])); have HBD : Hid (TrR wz Dz (eP p mb a c l2 :: eE a c l2 :: ⟨some b3, [.int .i64 yk, .int .i64 yf, .int .i64 yd, .int .u64 yn, .string yt, .slice ya js.length yc], 50, 6⟩ :: ⟨some b2, [.int .i64 xk, .int .i64 xf, .int .i64 xd, .int .u64 xn, .string xt, .slice xa ks.length xc], 50, 6⟩ :: (N2 ++ (N1 ++ R))) (.mk yk yf yd yn yt ya yc js)) := Lib.hid (TrR.down bk2 (((HRB.out.push N1).push N2).push [_, _, _, _])))
    | (go_at_call 25; (refine (Of_spec (l := []) (l2 := l1) (tm := s) (L := ⟨some b3, [.int .i64 yk, .int .i64 yf, .int .i64 yd, .int .u64 yn, .string yt, .slice ya js.length yc], 50, 6⟩ :: ⟨some b2, [.int .i64 xk, .int .i64 xf, .int .i64 xd, .int .u64 xn, .string xt, .slice xa ks.length xc], 50, 6⟩ :: (N1 ++ R)) (t := (.mk zk zf zd zn zt za zc zs)) ⟨mb, a, c, back _ _ H⟩ (((htwz.right _).push [⟨some b3, [.int .i64 yk, .int .i64 yf, .int .i64 yd, .int .u64 yn, .string yt, .slice ya js.length yc], 50, 6⟩, ⟨some b2, [.int .i64 xk, .int .i64 xf, .int .i64 xd, .int .u64 xn, .string xt, .slice xa ks.length xc], 50, 6⟩]) w0 D) (Nat.zero_le _) okP_nil (by rw [hptz]; exact HO1.out) (by rw [hptz]; exact HG1.out)).mono ?_; rintro e w1 ⟨rfl, h1⟩; clear H back bk2; obtain ⟨mb, a, c, hg⟩ := h1; obtain ⟨wz, Dz, H, back, bk2⟩ := hg.openX; clear hg))
    | (go_at_call 18; ((with_reducible refine (num_spec H _).mono ?_); rintro e w1 ⟨rfl, H1⟩; clear H; have H := H1; clear H1))
    | ((with_reducible refine gRg ?_); refine wp_region_B (fun u => Hp wz Dz (eP p mb a c l2 :: eE a c l2 :: ⟨some b3, [.int .i64 yk, .int .i64 yf, .int .i64 yd, .int .u64 yn, .string yt, .slice ya js.length yc], 50, 6⟩ :: ⟨some b2, [.int .i64 xk, .int .i64 xf, .int .i64 xd, .int .u64 xn, .string xt, .slice xa ks.length xc], 50, 6⟩ :: (N2 ++ (N1 ++ R))) u) rfl ?_; replace H := H.drew; (refine bTakeL 0 rfl (by decide +kernel) H rfl (by intro u hu; go_simp; rfl) ?_; (try simp only [Act.put, List.setIfInBounds_toArray, List.set_cons_succ, List.set_cons_zero])); (refine bTakeL 1 rfl (by decide +kernel) H rfl (by intro u hu; go_simp; rfl) ?_; (try simp only [Act.put, List.setIfInBounds_toArray, List.set_cons_succ, List.set_cons_zero])); (refine bTakeL 3 rfl (by decide +kernel) H rfl (fun u hu => run_ldA 3 hu rfl rfl rfl T50 (Nat.le_of_ble_eq_true rfl) rfl) ?_; (try simp only [Act.put, List.setIfInBounds_toArray, List.set_cons_succ, List.set_cons_zero])); (refine bTakeL 4 rfl (by decide +kernel) H rfl (fun u hu => run_ldA 2 hu rfl rfl rfl T50 (Nat.le_of_ble_eq_true rfl) rfl) ?_; (try simp only [Act.put, List.setIfInBounds_toArray, List.set_cons_succ, List.set_cons_zero])); (refine bTakeL 2 rfl (by decide +kernel) H rfl (fun u _ => run_cmp (r := rr) rfl rfl (by simp only [cmpB]; rw [HRR.out])) ?_; (try simp only [Act.put, List.setIfInBounds_toArray, List.set_cons_succ, List.set_cons_zero])); (refine bOneL 5 (by decide +kernel) rfl rfl ?_); (intro K hK; go_simp; go_at_call 27; refine (Same_spec (r := rr) (.mk xk xf xd xn xt xa xc ks) (.mk yk yf yd yn yt ya yc js) _ H ((HAD.out : TrR wz Dz (eP p mb a c l2 :: eE a c l2 :: ⟨some b3, [.int .i64 yk, .int .i64 yf, .int .i64 yd, .int .u64 yn, .string yt, .slice ya js.length yc], 50, 6⟩ :: ⟨some b2, [.int .i64 xk, .int .i64 xf, .int .i64 xd, .int .u64 xn, .string xt, .slice xa ks.length xc], 50, 6⟩ :: (N2 ++ (N1 ++ R))) _)) ((HBD.out : TrR wz Dz (eP p mb a c l2 :: eE a c l2 :: ⟨some b3, [.int .i64 yk, .int .i64 yf, .int .i64 yd, .int .u64 yn, .string yt, .slice ya js.length yc], 50, 6⟩ :: ⟨some b2, [.int .i64 xk, .int .i64 xf, .int .i64 xd, .int .u64 xn, .string xt, .slice xa ks.length xc], 50, 6⟩ :: (N2 ++ (N1 ++ R))) _)) HBQ.out).mono ?_; rintro e w1 ⟨rfl, H1⟩; clear H; have H := H1; clear H1; (try simp only []); refine hK _ _ H ?_; clear hK K; (try simp only [Act.put, List.setIfInBounds_toArray, List.set_cons_succ, List.set_cons_zero]); (refine bTakeL 6 rfl (by decide +kernel) H rfl (fun u _ => run_neb rfl rfl) ?_; (try simp only [Act.put, List.setIfInBounds_toArray, List.set_cons_succ, List.set_cons_zero])); (refine bTakeL 7 rfl (by decide +kernel) H rfl (by intro u hu; go_simp; rfl) ?_; (try simp only [Act.put, List.setIfInBounds_toArray, List.set_cons_succ, List.set_cons_zero])); (refine bTakeL 8 rfl (by decide +kernel) H rfl (by intro u hu; go_simp; rfl) ?_; (try simp only [Act.put, List.setIfInBounds_toArray, List.set_cons_succ, List.set_cons_zero])); (refine bTakeL 9 rfl (by decide +kernel) H rfl (by intro u hu; go_simp; rfl) ?_; (try simp only [Act.put, List.setIfInBounds_toArray, List.set_cons_succ, List.set_cons_zero])); (refine bTakeL 11 rfl (by decide +kernel) H rfl (fun u hu => run_ldA 3 hu rfl rfl rfl T50 (Nat.le_of_ble_eq_true rfl) rfl) ?_; (try simp only [Act.put, List.setIfInBounds_toArray, List.set_cons_succ, List.set_cons_zero])); (refine bOneL 10 (by decide +kernel) rfl rfl ?_); (intro K hK; go_simp; go_at_call 28; refine (Tree_spec HL2.out HWF2.out _ _ s (Nat.le_refl _) H HPLR.out).mono ?_; rintro e w1 ⟨t1, X1, rfl, hpt1, htw1, H1⟩; clear H; have H := H1; clear H1; (try simp only []); refine hK _ _ H.dropL ?_; clear hK K; (try simp only [Act.put, List.setIfInBounds_toArray, List.set_cons_succ, List.set_cons_zero]); (refine bOneL 12 (by decide +kernel) rfl rfl ?_); (intro K hK; go_simp; go_at_call 27; refine (Same_spec (r := true) t1 (.mk xk xf xd xn xt xa xc ks) _ H ((htw1.right _) _ _) (TrR.push ((HAD.out : TrR wz Dz (eP p mb a c l2 :: eE a c l2 :: ⟨some b3, [.int .i64 yk, .int .i64 yf, .int .i64 yd, .int .u64 yn, .string yt, .slice ya js.length yc], 50, 6⟩ :: ⟨some b2, [.int .i64 xk, .int .i64 xf, .int .i64 xd, .int .u64 xn, .string xt, .slice xa ks.length xc], 50, 6⟩ :: (N2 ++ (N1 ++ R))) _)) X1) (by rw [hpt1, HT1.out]; exact Pt.beq_rfl _)).mono ?_; rintro e w1 ⟨rfl, H1⟩; clear H; have H := H1; clear H1; (try simp only []); refine hK _ _ H.dropL ?_; clear hK K; (try simp only [Act.put, List.setIfInBounds_toArray, List.set_cons_succ, List.set_cons_zero]); (refine bTakeL 13 rfl (by decide +kernel) H.dropL rfl (by intro u hu; go_simp; rfl) ?_; (try simp only [Act.put, List.setIfInBounds_toArray, List.set_cons_succ, List.set_cons_zero])); (refine bTakeL 14 rfl (by decide +kernel) H.dropL rfl (by intro u hu; go_simp; rfl) ?_; (try simp only [Act.put, List.setIfInBounds_toArray, List.set_cons_succ, List.set_cons_zero])); (refine bTakeL 15 rfl (by decide +kernel) H.dropL rfl (by intro u hu; go_simp; rfl) ?_; (try simp only [Act.put, List.setIfInBounds_toArray, List.set_cons_succ, List.set_cons_zero])); (refine bTakeL 16 rfl (by decide +kernel) H.dropL rfl (by intro u hu; go_simp; rfl) ?_; (try simp only [Act.put, List.setIfInBounds_toArray, List.set_cons_succ, List.set_cons_zero])); (refine bTakeL 17 rfl (by decide +kernel) H.dropL rfl (by intro u hu; go_simp; rfl) ?_; (try simp only [Act.put, List.setIfInBounds_toArray, List.set_cons_succ, List.set_cons_zero])); (refine bTakeL 19 rfl (by decide +kernel) H.dropL rfl (fun u hu => run_ldA 2 hu rfl rfl rfl T50 (Nat.le_of_ble_eq_true rfl) rfl) ?_; (try simp only [Act.put, List.setIfInBounds_toArray, List.set_cons_succ, List.set_cons_zero])); (refine bOneL 18 (by decide +kernel) rfl rfl ?_); (intro K hK; go_simp; go_at_call 28; refine (Tree_spec HL2.out HWF2.out _ _ t (Nat.le_refl _) H (HPLR.out.push X1)).mono ?_; rintro e w1 ⟨t2, X2, rfl, hpt2, htw2, H1⟩; clear H; have H := H1; clear H1; (try simp only []); refine hK _ _ H.dropL.dropL ?_; clear hK K; (try simp only [Act.put, List.setIfInBounds_toArray, List.set_cons_succ, List.set_cons_zero]); (refine bOneL 20 (by decide +kernel) rfl rfl ?_); (intro K hK; go_simp; go_at_call 27; refine (Same_spec (r := true) t2 (.mk yk yf yd yn yt ya yc js) _ H ((htw2.right _) _ _) (TrR.push (TrR.push ((HBD.out : TrR wz Dz (eP p mb a c l2 :: eE a c l2 :: ⟨some b3, [.int .i64 yk, .int .i64 yf, .int .i64 yd, .int .u64 yn, .string yt, .slice ya js.length yc], 50, 6⟩ :: ⟨some b2, [.int .i64 xk, .int .i64 xf, .int .i64 xd, .int .u64 xn, .string xt, .slice xa ks.length xc], 50, 6⟩ :: (N2 ++ (N1 ++ R))) _)) X1) X2) (by rw [hpt2, HT2.out]; exact Pt.beq_rfl _)).mono ?_; rintro e w1 ⟨rfl, H1⟩; clear H; have H := H1; clear H1; (try simp only []); refine hK _ _ H.dropL.dropL ?_; clear hK K; (try simp only [Act.put, List.setIfInBounds_toArray, List.set_cons_succ, List.set_cons_zero]); (refine bTakeL 21 rfl (by decide +kernel) H.dropL.dropL rfl (by intro u hu; go_simp; rfl) ?_; (try simp only [Act.put, List.setIfInBounds_toArray, List.set_cons_succ, List.set_cons_zero])); (refine bTakeL 22 rfl (by decide +kernel) H.dropL.dropL rfl (by intro u hu; go_simp; rfl) ?_; (try simp only [Act.put, List.setIfInBounds_toArray, List.set_cons_succ, List.set_cons_zero])); (refine bDone (by decide +kernel) ?_); (replace H := H.dropL.dropL)))))))
    | ((with_reducible refine gLd ?_); refine eLd H rfl rfl ?_; first | ((repeat ((with_reducible refine gEx ?_); first | (refine kLd 0 rfl rfl (by exact TT _ rfl) rfl ?_) | (refine kLdA 0 rfl rfl (by exact TT _ rfl) (Nat.le_of_ble_eq_true rfl) (by simp only [Nd.cells, Nd.zero, LS2]; rfl) ?_) | (refine nxL ?_))); fail_if_success (with_reducible refine gEx ?_)))
    | ((with_reducible refine gSt ?_); (first | (refine eSt H rfl rfl ⟨.int _ _, rfl, ?_⟩) | (refine eSt H rfl rfl ⟨.bool _, rfl, ?_⟩) | (refine eSt H rfl rfl ⟨.slice _ _ _, rfl, ?_⟩) | (refine eSt H rfl rfl ⟨.pointer _, rfl, ?_⟩) | (refine eSt H rfl rfl ⟨.string _, rfl, ?_⟩) | (refine eSt H rfl rfl ⟨.agg (List.toArray _), rfl, ?_⟩)); (first | ((repeat ((with_reducible refine gES ?_); first | (refine kSt 0 rfl rfl (by exact TT _ rfl) rfl (Nat.le_of_ble_eq_true rfl) ?_) | (refine kStA 0 rfl rfl (by exact TT _ rfl) rfl rfl (Nat.le_of_ble_eq_true rfl) ?_) | (refine nxS ?_))); fail_if_success (with_reducible refine gES ?_))); clear H; intro w1 H; simp only [List.set_cons_zero, List.set_cons_succ] at H; (try simp only [lay, LS1, Nat.reduceAdd] at H))
    | ((with_reducible refine gBx ?_); refine bxA H rfl rfl rfl ?_; clear H; intro b1 w1 H)
    | ((with_reducible refine gBs ?_); (first | (refine bs1 H rfl (by exact SS _ rfl) rfl (Nat.le_of_ble_eq_true rfl) (Nat.le_of_ble_eq_true rfl) rfl ?_) | (refine wl_buildSlice0 rfl (by exact SS _ rfl) H ?_)); clear H; intro b1 w1 H)
    | ((with_reducible refine gEq ?_); (first | (refine wl_cmp rfl rfl rfl rfl ?_) | (refine wl_scmp rfl rfl rfl rfl ?_)); intro rb hrb; cases rb <;> (first | (exfalso; simp at hrb; done) | ((try simp only [CS1, gt_iff_lt, ge_iff_le, ne_eq, Decidable.not_not] at hrb); (try subst hrb); (try (exfalso; omega)))))
    | ((with_reducible refine gRg ?_); refine wp_region_text rfl (by decide +kernel) ?_; replace H := H.drew)
    | ((with_reducible refine EndQ.intro ?_ ?_); (· kernel_rfl)))
      go_loopg [10] l2.length (fun g v10 wr => ∃ k : Nat, v10 = .int .i64 ((k : Int) + 1) ∧ k + g = l2.length ∧ Hp wz Dz (eP p mb a c l2 :: eE a c l2 :: ⟨some b3, [.int .i64 yk, .int .i64 yf, .int .i64 yd, .int .u64 yn, .string yt, .slice ya js.length yc], 50, 6⟩ :: ⟨some b2, [.int .i64 xk, .int .i64 xf, .int .i64 xd, .int .u64 xn, .string xt, .slice xa ks.length xc], 50, 6⟩ :: (N2 ++ (N1 ++ R))) wr)
      case atStart => exact ⟨0, rfl, by omega, H⟩
      case round =>
        clear H
        obtain ⟨k, rfl, hkg, H⟩ := hrel
        have HKG := Lib.hid hkg
        by_cases hk : k < l2.length
        · obtain ⟨⟨⟨x1, x2, x3, x4, x5, x6, x7⟩, z8, z9⟩, hx⟩ : ∃ e, l2[k]? = some e := ⟨_, List.getElem?_eq_getElem hk⟩
          obtain ⟨h6, h7, hs, hd⟩ := once_ent HWF2.out hx
          simp only at h6 h7 hs hd
          have hen := entP_i hx
          obtain ⟨sa, hsa⟩ : ∃ z, sizeP l2 x6 = z := ⟨_, rfl⟩
          obtain ⟨si, hsi⟩ : ∃ z, sizeP l2 ((k : Int) + 1) = z := ⟨_, rfl⟩
          obtain ⟨db, hdb⟩ : ∃ z, deepP l2 x7 = z := ⟨_, rfl⟩
          obtain ⟨di, hdi⟩ : ∃ z, deepP l2 ((k : Int) + 1) = z := ⟨_, rfl⟩
          rw [hsa, hsi] at hs
          rw [hdb, hdi] at hd
          have HSA := Lib.hid hsa
          have HSI := Lib.hid hsi
          have HDB := Lib.hid hdb
          have HDI := Lib.hid hdi
          have HND : Hid (nodeP l2 ((k : Int) + 1) = ⟨x1, x2, x3, x4, x5, x6, x7⟩) := Lib.hid (by simp only [nodeP, hen])
          have HIN : Hid (inP l2 ((k : Int) + 1) = true) := Lib.hid (inP_yes (by omega) (by omega))
          have HWK : Hid (wrap64 ((k : Int) + 1 + 1) = (k : Int) + 1 + 1) := Lib.hid (by have := HL2.out; unfold wrap64; omega)
          have hk8 : (k : Int) + 1 ≤ l2.length := by omega
          clear hsa hsi hdb hdi hx hen hkg hk
          go_wp2_with (first
          | (go_at_call 30; (refine (Node_c (n := ⟨x1, x2, x3, x4, x5, x6, x7⟩) (i := 0) (j := 1) H rfl rfl HL2.out HND.out HIN.out).mono ?_; rintro e w1 ⟨rfl, H1⟩; clear H; have H := H1; clear H1; (try simp only [Nd.cells])))
          | ((with_reducible refine gAl ?_); refine al H Z33 rfl rfl ?_; clear H; intro bn w1 H)
          | (go_at_call 21; first | ((with_reducible refine (Size_c (i := 1) (j := 2) H rfl rfl HL2.out HSA.out).mono ?_); rintro e w1 ⟨rfl, H1⟩; clear H; have H := H1; clear H1) | ((with_reducible refine (Size_c (i := 1) (j := 2) H rfl rfl HL2.out HSI.out).mono ?_); rintro e w1 ⟨rfl, H1⟩; clear H; have H := H1; clear H1))
          | (go_at_call 22; first | ((with_reducible refine (Depth_c (i := 1) (j := 2) H rfl rfl HL2.out HDB.out).mono ?_); rintro e w1 ⟨rfl, H1⟩; clear H; have H := H1; clear H1) | ((with_reducible refine (Depth_c (i := 1) (j := 2) H rfl rfl HL2.out HDI.out).mono ?_); rintro e w1 ⟨rfl, H1⟩; clear H; have H := H1; clear H1))
          | (go_at_call 19; (refine (Len_at (i := 0) H rfl).mono ?_; rintro e w1 ⟨rfl, H1⟩; clear H; have H := H1; clear H1))
          | ((with_reducible refine gLd ?_); refine eLd H rfl rfl ?_; first | ((repeat ((with_reducible refine gEx ?_); first | (refine kLd 0 rfl rfl (by exact TT _ rfl) rfl ?_) | (refine kLdA 0 rfl rfl (by exact TT _ rfl) (Nat.le_of_ble_eq_true rfl) (by simp only [Nd.cells, Nd.zero, LS2]; rfl) ?_) | (refine nxL ?_))); fail_if_success (with_reducible refine gEx ?_)))
          | ((with_reducible refine gSt ?_); (first | (refine eSt H rfl rfl ⟨.int _ _, rfl, ?_⟩) | (refine eSt H rfl rfl ⟨.bool _, rfl, ?_⟩) | (refine eSt H rfl rfl ⟨.slice _ _ _, rfl, ?_⟩) | (refine eSt H rfl rfl ⟨.pointer _, rfl, ?_⟩) | (refine eSt H rfl rfl ⟨.string _, rfl, ?_⟩) | (refine eSt H rfl rfl ⟨.agg (List.toArray _), rfl, ?_⟩)); (first | ((repeat ((with_reducible refine gES ?_); first | (refine kSt 0 rfl rfl (by exact TT _ rfl) rfl (Nat.le_of_ble_eq_true rfl) ?_) | (refine kStA 0 rfl rfl (by exact TT _ rfl) rfl rfl (Nat.le_of_ble_eq_true rfl) ?_) | (refine nxS ?_))); fail_if_success (with_reducible refine gES ?_))); clear H; intro w1 H; simp only [List.set_cons_zero, List.set_cons_succ] at H; (try simp only [lay, LS1, Nat.reduceAdd] at H))
          | ((with_reducible refine gBx ?_); refine bxA H rfl rfl rfl ?_; clear H; intro b1 w1 H)
          | ((with_reducible refine gBs ?_); (first | (refine bs1 H rfl (by exact SS _ rfl) rfl (Nat.le_of_ble_eq_true rfl) (Nat.le_of_ble_eq_true rfl) rfl ?_) | (refine wl_buildSlice0 rfl (by exact SS _ rfl) H ?_)); clear H; intro b1 w1 H)
          | ((with_reducible refine gEq ?_); (first | (refine wl_cmp rfl rfl rfl rfl ?_) | (refine wl_scmp rfl rfl rfl rfl ?_)); intro rb hrb; cases rb <;> (first | (exfalso; simp at hrb; done) | ((try simp only [CS1, gt_iff_lt, ge_iff_le, ne_eq, Decidable.not_not] at hrb); (try subst hrb); (try (exfalso; omega)))))
          | ((with_reducible refine gRg ?_); refine wp_region_text rfl (by decide +kernel) ?_; replace H := H.drew)
          | ((with_reducible refine EndQ.intro ?_ ?_); (· kernel_rfl)))
          go_roundg (gk - 1)
          case measure => have := HKG.out; omega
          case rel => exact ⟨k + 1, by first | (rw [HWK.out]; simp; done) | (simp; done), by have := HKG.out; omega, H.drop⟩
        · have hk8 : (l2.length : Int) < (k : Int) + 1 := by omega
          clear hkg hk
          go_wp2_with (first
          | (go_at_call 19; (refine (Len_at (i := 0) H rfl).mono ?_; rintro e w1 ⟨rfl, H1⟩; clear H; have H := H1; clear H1))
          | (go_at_call 11; ((refine (live_hp (bk2 _ _ H)).mono ?_); rintro e w1 ⟨rfl, H1⟩))
          | ((with_reducible refine gLd ?_); refine eLd H rfl rfl ?_; first | ((repeat ((with_reducible refine gEx ?_); first | (refine kLd 0 rfl rfl (by exact TT _ rfl) rfl ?_) | (refine kLdA 0 rfl rfl (by exact TT _ rfl) (Nat.le_of_ble_eq_true rfl) (by simp only [Nd.cells, Nd.zero, LS2]; rfl) ?_) | (refine nxL ?_))); fail_if_success (with_reducible refine gEx ?_)))
          | ((with_reducible refine gSt ?_); (first | (refine eSt H rfl rfl ⟨.int _ _, rfl, ?_⟩) | (refine eSt H rfl rfl ⟨.bool _, rfl, ?_⟩) | (refine eSt H rfl rfl ⟨.slice _ _ _, rfl, ?_⟩) | (refine eSt H rfl rfl ⟨.pointer _, rfl, ?_⟩) | (refine eSt H rfl rfl ⟨.string _, rfl, ?_⟩) | (refine eSt H rfl rfl ⟨.agg (List.toArray _), rfl, ?_⟩)); (first | ((repeat ((with_reducible refine gES ?_); first | (refine kSt 0 rfl rfl (by exact TT _ rfl) rfl (Nat.le_of_ble_eq_true rfl) ?_) | (refine kStA 0 rfl rfl (by exact TT _ rfl) rfl rfl (Nat.le_of_ble_eq_true rfl) ?_) | (refine nxS ?_))); fail_if_success (with_reducible refine gES ?_))); clear H; intro w1 H; simp only [List.set_cons_zero, List.set_cons_succ] at H; (try simp only [lay, LS1, Nat.reduceAdd] at H))
          | ((with_reducible refine gBx ?_); refine bxA H rfl rfl rfl ?_; clear H; intro b1 w1 H)
          | ((with_reducible refine gBs ?_); (first | (refine bs1 H rfl (by exact SS _ rfl) rfl (Nat.le_of_ble_eq_true rfl) (Nat.le_of_ble_eq_true rfl) rfl ?_) | (refine wl_buildSlice0 rfl (by exact SS _ rfl) H ?_)); clear H; intro b1 w1 H)
          | ((with_reducible refine gEq ?_); (first | (refine wl_cmp rfl rfl rfl rfl ?_) | (refine wl_scmp rfl rfl rfl rfl ?_)); intro rb hrb; cases rb <;> (first | (exfalso; simp at hrb; done) | ((try simp only [CS1, gt_iff_lt, ge_iff_le, ne_eq, Decidable.not_not] at hrb); (try subst hrb); (try (exfalso; omega)))))
          | ((with_reducible refine gRg ?_); refine wp_region_text rfl (by decide +kernel) ?_; replace H := H.drew)
          | ((with_reducible refine EndQ.intro ?_ ?_); (· kernel_rfl)))
          go_ret
          exact ⟨rfl, _, H1⟩
    · clear hon
      subst h1
      go_enter Try.func5, Try.ntmps5
      go_wp2_with (first
    | ((with_reducible refine gBx ?_); first | (have hqb2 := b2; clear hqb2; refine bxA H rfl rfl rfl ?_; clear H; intro b3 w1 H) | (refine bxA H rfl rfl rfl ?_; clear H; intro b2 w1 H))
    | (go_at_call 23; first | ((with_reducible refine (large_t (ts := ks) H rfl (HTA.out b2 b3) HQA.out HRRA.out).mono ?_); rintro e w1 ⟨rfl, H1⟩; clear H; have H := H1; clear H1) | ((with_reducible refine (large_t (ts := js) H rfl (HTB.out b2 b3) HQB.out HRRB.out).mono ?_); rintro e w1 ⟨rfl, H1⟩; clear H; have H := H1; clear H1))
    | (go_at_call 12; (refine (New_spec (Hg.of H)).mono ?_; rintro e w1 ⟨p, rfl, hP⟩; clear H; obtain ⟨mb, a, c, hg⟩ := hP; obtain ⟨wz, Dz, H, back, bk2⟩ := hg.openX; clear hg; replace H : Hp wz Dz (eP p mb a c [] :: eE a c [] :: ⟨some b3, [.int .i64 yk, .int .i64 yf, .int .i64 yd, .int .u64 yn, .string yt, .slice ya js.length yc], 50, 6⟩ :: ⟨some b2, [.int .i64 xk, .int .i64 xf, .int .i64 xd, .int .u64 xn, .string xt, .slice xa ks.length xc], 50, 6⟩ :: R) _ := H))
    | (go_at_call 24; have hq := N1; clear hq; (refine (Lent_spec (.mk yk yf yd yn yt ya yc js) _ H (TrR.down bk2 (HRB.out.push (_ :: _ :: _ :: _ :: N1))) HRBS.out).mono ?_; rintro e w1 ⟨⟨vk, vf, vd, vn, vt, va, vc, vs⟩, N2, rfl, hptv, htwv, H1⟩; clear H; have H := Hp.swap (A := N2) (B := [_, _, _, _]) H1; clear H1; simp only [List.cons_append, List.nil_append] at H; (try simp only [Tr.cells])))
    | (go_at_call 24; (refine (Lent_spec (.mk xk xf xd xn xt xa xc ks) _ H (TrR.down bk2 (HRA.out.push (_ :: _ :: _ :: _ :: []))) HRAS.out).mono ?_; rintro e w1 ⟨⟨zk, zf, zd, zn, zt, za, zc, zs⟩, N1, rfl, hptz, htwz, H1⟩; clear H; have H := Hp.swap (A := N1) (B := [_, _, _, _]) H1; clear H1; simp only [List.cons_append, List.nil_append] at H; (try simp only [Tr.cells])))
    | (go_at_call 25; have hq := N2; clear hq; (refine (Of_spec (l := l1) (l2 := l2) (tm := t) (L := ⟨some b3, [.int .i64 yk, .int .i64 yf, .int .i64 yd, .int .u64 yn, .string yt, .slice ya js.length yc], 50, 6⟩ :: ⟨some b2, [.int .i64 xk, .int .i64 xf, .int .i64 xd, .int .u64 xn, .string xt, .slice xa ks.length xc], 50, 6⟩ :: (N2 ++ (N1 ++ R))) (t := (.mk vk vf vd vn vt va vc vs)) ⟨mb, a, c, back _ _ H⟩ (((htwv.right _).push [⟨some b3, [.int .i64 yk, .int .i64 yf, .int .i64 yd, .int .u64 yn, .string yt, .slice ya js.length yc], 50, 6⟩, ⟨some b2, [.int .i64 xk, .int .i64 xf, .int .i64 xd, .int .u64 xn, .string xt, .slice xa ks.length xc], 50, 6⟩]) w0 D) HL1.out HK1.out (by rw [hptv]; exact HO2.out) (by rw [hptv]; exact HG2.out)).mono ?_; rintro e w1 ⟨rfl, h1⟩; clear H back bk2; obtain ⟨mb, a, c, hg⟩ := h1; obtain ⟨wz, Dz, H, back, bk2⟩ := hg.openX; clear hg))
    | (go_at_call 25; (refine (Of_spec (l := []) (l2 := l1) (tm := s) (L := ⟨some b3, [.int .i64 yk, .int .i64 yf, .int .i64 yd, .int .u64 yn, .string yt, .slice ya js.length yc], 50, 6⟩ :: ⟨some b2, [.int .i64 xk, .int .i64 xf, .int .i64 xd, .int .u64 xn, .string xt, .slice xa ks.length xc], 50, 6⟩ :: (N1 ++ R)) (t := (.mk zk zf zd zn zt za zc zs)) ⟨mb, a, c, back _ _ H⟩ (((htwz.right _).push [⟨some b3, [.int .i64 yk, .int .i64 yf, .int .i64 yd, .int .u64 yn, .string yt, .slice ya js.length yc], 50, 6⟩, ⟨some b2, [.int .i64 xk, .int .i64 xf, .int .i64 xd, .int .u64 xn, .string xt, .slice xa ks.length xc], 50, 6⟩]) w0 D) (Nat.zero_le _) okP_nil (by rw [hptz]; exact HO1.out) (by rw [hptz]; exact HG1.out)).mono ?_; rintro e w1 ⟨rfl, h1⟩; clear H back bk2; obtain ⟨mb, a, c, hg⟩ := h1; obtain ⟨wz, Dz, H, back, bk2⟩ := hg.openX; clear hg))
    | (go_at_call 18; ((with_reducible refine (num_spec H _).mono ?_); rintro e w1 ⟨rfl, H1⟩; clear H; have H := H1; clear H1))
    | (go_at_call 11; ((refine (live_hp (bk2 _ _ H)).mono ?_); rintro e w1 ⟨rfl, H1⟩))
    | ((with_reducible refine gLd ?_); refine eLd H rfl rfl ?_; first | ((repeat ((with_reducible refine gEx ?_); first | (refine kLd 0 rfl rfl (by exact TT _ rfl) rfl ?_) | (refine kLdA 0 rfl rfl (by exact TT _ rfl) (Nat.le_of_ble_eq_true rfl) (by simp only [Nd.cells, Nd.zero, LS2]; rfl) ?_) | (refine nxL ?_))); fail_if_success (with_reducible refine gEx ?_)))
    | ((with_reducible refine gSt ?_); (first | (refine eSt H rfl rfl ⟨.int _ _, rfl, ?_⟩) | (refine eSt H rfl rfl ⟨.bool _, rfl, ?_⟩) | (refine eSt H rfl rfl ⟨.slice _ _ _, rfl, ?_⟩) | (refine eSt H rfl rfl ⟨.pointer _, rfl, ?_⟩) | (refine eSt H rfl rfl ⟨.string _, rfl, ?_⟩) | (refine eSt H rfl rfl ⟨.agg (List.toArray _), rfl, ?_⟩)); (first | ((repeat ((with_reducible refine gES ?_); first | (refine kSt 0 rfl rfl (by exact TT _ rfl) rfl (Nat.le_of_ble_eq_true rfl) ?_) | (refine kStA 0 rfl rfl (by exact TT _ rfl) rfl rfl (Nat.le_of_ble_eq_true rfl) ?_) | (refine nxS ?_))); fail_if_success (with_reducible refine gES ?_))); clear H; intro w1 H; simp only [List.set_cons_zero, List.set_cons_succ] at H; (try simp only [lay, LS1, Nat.reduceAdd] at H))
    | ((with_reducible refine gBx ?_); refine bxA H rfl rfl rfl ?_; clear H; intro b1 w1 H)
    | ((with_reducible refine gBs ?_); (first | (refine bs1 H rfl (by exact SS _ rfl) rfl (Nat.le_of_ble_eq_true rfl) (Nat.le_of_ble_eq_true rfl) rfl ?_) | (refine wl_buildSlice0 rfl (by exact SS _ rfl) H ?_)); clear H; intro b1 w1 H)
    | ((with_reducible refine gEq ?_); (first | (refine wl_cmp rfl rfl rfl rfl ?_) | (refine wl_scmp rfl rfl rfl rfl ?_)); intro rb hrb; cases rb <;> (first | (exfalso; simp at hrb; done) | ((try simp only [CS1, gt_iff_lt, ge_iff_le, ne_eq, Decidable.not_not] at hrb); (try subst hrb); (try (exfalso; omega)))))
    | ((with_reducible refine gRg ?_); refine wp_region_text rfl (by decide +kernel) ?_; replace H := H.drew)
    | ((with_reducible refine EndQ.intro ?_ ?_); (· kernel_rfl)))
      go_ret
      exact ⟨rfl, _, H1⟩
  · clear hon
    go_enter Try.func5, Try.ntmps5
    go_wp2_with (first
    | ((with_reducible refine gBx ?_); first | (have hqb2 := b2; clear hqb2; refine bxA H rfl rfl rfl ?_; clear H; intro b3 w1 H) | (refine bxA H rfl rfl rfl ?_; clear H; intro b2 w1 H))
    | (go_at_call 23; first | ((with_reducible refine (large_t (ts := ks) H rfl (HTA.out b2 b3) HQA.out HRRA.out).mono ?_); rintro e w1 ⟨rfl, H1⟩; clear H; have H := H1; clear H1) | ((with_reducible refine (large_t (ts := js) H rfl (HTB.out b2 b3) HQB.out HRRB.out).mono ?_); rintro e w1 ⟨rfl, H1⟩; clear H; have H := H1; clear H1))
    | (go_at_call 12; (refine (New_spec (Hg.of H)).mono ?_; rintro e w1 ⟨p, rfl, hP⟩; clear H; obtain ⟨mb, a, c, hg⟩ := hP; obtain ⟨wz, Dz, H, back, bk2⟩ := hg.openX; clear hg; replace H : Hp wz Dz (eP p mb a c [] :: eE a c [] :: ⟨some b3, [.int .i64 yk, .int .i64 yf, .int .i64 yd, .int .u64 yn, .string yt, .slice ya js.length yc], 50, 6⟩ :: ⟨some b2, [.int .i64 xk, .int .i64 xf, .int .i64 xd, .int .u64 xn, .string xt, .slice xa ks.length xc], 50, 6⟩ :: R) _ := H))
    | (go_at_call 24; have hq := N1; clear hq; (refine (Lent_spec (.mk yk yf yd yn yt ya yc js) _ H (TrR.down bk2 (HRB.out.push (_ :: _ :: _ :: _ :: N1))) HRBS.out).mono ?_; rintro e w1 ⟨⟨vk, vf, vd, vn, vt, va, vc, vs⟩, N2, rfl, hptv, htwv, H1⟩; clear H; have H := Hp.swap (A := N2) (B := [_, _, _, _]) H1; clear H1; simp only [List.cons_append, List.nil_append] at H; (try simp only [Tr.cells])))
    | (go_at_call 24; (refine (Lent_spec (.mk xk xf xd xn xt xa xc ks) _ H (TrR.down bk2 (HRA.out.push (_ :: _ :: _ :: _ :: []))) HRAS.out).mono ?_; rintro e w1 ⟨⟨zk, zf, zd, zn, zt, za, zc, zs⟩, N1, rfl, hptz, htwz, H1⟩; clear H; have H := Hp.swap (A := N1) (B := [_, _, _, _]) H1; clear H1; simp only [List.cons_append, List.nil_append] at H; (try simp only [Tr.cells])))
    | (go_at_call 25; have hq := N2; clear hq; (refine (Of_spec (l := l1) (l2 := l2) (tm := t) (L := ⟨some b3, [.int .i64 yk, .int .i64 yf, .int .i64 yd, .int .u64 yn, .string yt, .slice ya js.length yc], 50, 6⟩ :: ⟨some b2, [.int .i64 xk, .int .i64 xf, .int .i64 xd, .int .u64 xn, .string xt, .slice xa ks.length xc], 50, 6⟩ :: (N2 ++ (N1 ++ R))) (t := (.mk vk vf vd vn vt va vc vs)) ⟨mb, a, c, back _ _ H⟩ (((htwv.right _).push [⟨some b3, [.int .i64 yk, .int .i64 yf, .int .i64 yd, .int .u64 yn, .string yt, .slice ya js.length yc], 50, 6⟩, ⟨some b2, [.int .i64 xk, .int .i64 xf, .int .i64 xd, .int .u64 xn, .string xt, .slice xa ks.length xc], 50, 6⟩]) w0 D) HL1.out HK1.out (by rw [hptv]; exact HO2.out) (by rw [hptv]; exact HG2.out)).mono ?_; rintro e w1 ⟨rfl, h1⟩; clear H back bk2; obtain ⟨mb, a, c, hg⟩ := h1; obtain ⟨wz, Dz, H, back, bk2⟩ := hg.openX; clear hg))
    | (go_at_call 25; (refine (Of_spec (l := []) (l2 := l1) (tm := s) (L := ⟨some b3, [.int .i64 yk, .int .i64 yf, .int .i64 yd, .int .u64 yn, .string yt, .slice ya js.length yc], 50, 6⟩ :: ⟨some b2, [.int .i64 xk, .int .i64 xf, .int .i64 xd, .int .u64 xn, .string xt, .slice xa ks.length xc], 50, 6⟩ :: (N1 ++ R)) (t := (.mk zk zf zd zn zt za zc zs)) ⟨mb, a, c, back _ _ H⟩ (((htwz.right _).push [⟨some b3, [.int .i64 yk, .int .i64 yf, .int .i64 yd, .int .u64 yn, .string yt, .slice ya js.length yc], 50, 6⟩, ⟨some b2, [.int .i64 xk, .int .i64 xf, .int .i64 xd, .int .u64 xn, .string xt, .slice xa ks.length xc], 50, 6⟩]) w0 D) (Nat.zero_le _) okP_nil (by rw [hptz]; exact HO1.out) (by rw [hptz]; exact HG1.out)).mono ?_; rintro e w1 ⟨rfl, h1⟩; clear H back bk2; obtain ⟨mb, a, c, hg⟩ := h1; obtain ⟨wz, Dz, H, back, bk2⟩ := hg.openX; clear hg))
    | (go_at_call 18; ((with_reducible refine (num_spec H _).mono ?_); rintro e w1 ⟨rfl, H1⟩; clear H; have H := H1; clear H1))
    | (go_at_call 11; ((refine (live_hp (bk2 _ _ H)).mono ?_); rintro e w1 ⟨rfl, H1⟩))
    | ((with_reducible refine gLd ?_); refine eLd H rfl rfl ?_; first | ((repeat ((with_reducible refine gEx ?_); first | (refine kLd 0 rfl rfl (by exact TT _ rfl) rfl ?_) | (refine kLdA 0 rfl rfl (by exact TT _ rfl) (Nat.le_of_ble_eq_true rfl) (by simp only [Nd.cells, Nd.zero, LS2]; rfl) ?_) | (refine nxL ?_))); fail_if_success (with_reducible refine gEx ?_)))
    | ((with_reducible refine gSt ?_); (first | (refine eSt H rfl rfl ⟨.int _ _, rfl, ?_⟩) | (refine eSt H rfl rfl ⟨.bool _, rfl, ?_⟩) | (refine eSt H rfl rfl ⟨.slice _ _ _, rfl, ?_⟩) | (refine eSt H rfl rfl ⟨.pointer _, rfl, ?_⟩) | (refine eSt H rfl rfl ⟨.string _, rfl, ?_⟩) | (refine eSt H rfl rfl ⟨.agg (List.toArray _), rfl, ?_⟩)); (first | ((repeat ((with_reducible refine gES ?_); first | (refine kSt 0 rfl rfl (by exact TT _ rfl) rfl (Nat.le_of_ble_eq_true rfl) ?_) | (refine kStA 0 rfl rfl (by exact TT _ rfl) rfl rfl (Nat.le_of_ble_eq_true rfl) ?_) | (refine nxS ?_))); fail_if_success (with_reducible refine gES ?_))); clear H; intro w1 H; simp only [List.set_cons_zero, List.set_cons_succ] at H; (try simp only [lay, LS1, Nat.reduceAdd] at H))
    | ((with_reducible refine gBx ?_); refine bxA H rfl rfl rfl ?_; clear H; intro b1 w1 H)
    | ((with_reducible refine gBs ?_); (first | (refine bs1 H rfl (by exact SS _ rfl) rfl (Nat.le_of_ble_eq_true rfl) (Nat.le_of_ble_eq_true rfl) rfl ?_) | (refine wl_buildSlice0 rfl (by exact SS _ rfl) H ?_)); clear H; intro b1 w1 H)
    | ((with_reducible refine gEq ?_); (first | (refine wl_cmp rfl rfl rfl rfl ?_) | (refine wl_scmp rfl rfl rfl rfl ?_)); intro rb hrb; cases rb <;> (first | (exfalso; simp at hrb; done) | ((try simp only [CS1, gt_iff_lt, ge_iff_le, ne_eq, Decidable.not_not] at hrb); (try subst hrb); (try (exfalso; omega)))))
    | ((with_reducible refine gRg ?_); refine wp_region_text rfl (by decide +kernel) ?_; replace H := H.drew)
    | ((with_reducible refine EndQ.intro ?_ ?_); (· kernel_rfl)))
    go_ret
    exact ⟨rfl, _, H1⟩
end Go.Proofs.Ytebecelhcpljaaa
