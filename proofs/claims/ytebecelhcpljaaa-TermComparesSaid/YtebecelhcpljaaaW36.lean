/- TermCompares: what the law computes. -/
import Derived.Test.YtebecelhcpljaaaW35
import Derived.Test.YtebecelhcpljaaaW25
import Derived.Deep.Cut
import Derived.WalkKit
import Derived.Lib.Hide
import Derived.Deep.LoopGhost
import Derived.WalkSpells
set_option linter.unusedVariables false
set_option linter.unusedSimpArgs false
namespace Go.Proofs.Ytebecelhcpljaaa
open Go.RowKit Go.Gx Go.Gx.Trm
set_option maxRecDepth 100000
def ofsL (ts : List Tr) : List En := ts.foldl (fun l t => (ofE l t.pt).1) []
theorem ofsL_snoc (ts : List Tr) (t : Tr) : ofsL (ts ++ [t]) = (ofE (ofsL ts) t.pt).1 := by simp [ofsL]
theorem take_snocT {ts : List Tr} {k : Nat} {n : Tr} (h : ts[k]? = some n) : ts.take (k + 1) = ts.take k ++ [n] := by
  obtain ⟨hlt, rfl⟩ := List.getElem?_eq_some_iff.1 h
  rw [List.take_succ_eq_append_getElem hlt]
theorem sizeL_app : ∀ (a b : List Pt), sizeL (a ++ b) = sizeL a + sizeL b
  | [], b => by simp [sizeL]
  | x :: xs, b => by simp only [List.cons_append, sizeL, sizeL_app xs b]; omega
theorem sizeL_take (ts : List Tr) (k : Nat) : sizeL (ptL (ts.take k)) + sizeL (ptL (ts.drop k)) = sizeL (ptL ts) := by
  rw [← sizeL_app, ptL_map, ptL_map, ptL_map, ← List.map_append, List.take_append_drop]
theorem ofs_ok (ts : List Tr) : ∀ k, k ≤ ts.length → wfP (ofsL (ts.take k)) ∧ (ofsL (ts.take k)).length ≤ sizeL (ptL (ts.take k))
  | 0, _ => by simp [ofsL, ptL, sizeL, wfP_nil]
  | k + 1, h => by
    have hkl : k < ts.length := by omega
    obtain ⟨x, hx⟩ : ∃ x, ts[k]? = some x := ⟨_, List.getElem?_eq_getElem hkl⟩
    obtain ⟨h1, h2⟩ := ofs_ok ts k (by omega)
    rw [take_snocT hx, ofsL_snoc, ptL_snoc]
    obtain ⟨m, e1, e2⟩ := ofE_len (ofsL (ts.take k)) x.pt
    refine ⟨ofE_wf h1, ?_⟩
    rw [e1, List.length_append, sizeL_app]
    simp only [sizeL]; omega

theorem zero_tree {l : List En} : treeP l 0 = Pt.zero := treeP_no (inP_lo (by omega))
theorem zero_same {l : List En} {t : Tr} (h : t.pt = treeP l 0) : t.pt.beq (Tr.mk 0 0 0 0 ⟨#[]⟩ none 0 []).pt = true := by
  have h1 : (Tr.mk 0 0 0 0 ⟨#[]⟩ none 0 []).pt = Pt.zero := by simp [Tr.pt, ptL, Pt.zero]
  exact Pt.beq_iff.2 (by rw [h, zero_tree, h1])
theorem large_c {w0 w : World} {D : Nat → Prop} {R : List Ent} {x : Option Addr} {c0 N : Nat} {ts : List Tr} {q : Int} {r : Bool} (H : Hp w0 D R w) (hN : ts.length = N) (ht : TrR w0 D R (.mk 0 0 0 0 ⟨#[]⟩ x c0 ts)) (hq : partsT (Tr.pt (.mk 0 0 0 0 ⟨#[]⟩ x c0 ts)) 6000 = q) (hr : decide (6000 < q) = r) :
    Calls Try.prog 23 #[.agg (List.toArray [.int .i64 0, .int .i64 0, .int .i64 0, .int .u64 0, .string ⟨#[]⟩, .slice x N c0])] w fun e w' => e = .returned (.bool r) ∧ Hp w0 D R w' := by
  subst hN
  have h := large_spec (w := w) (R := R) (t := .mk 0 0 0 0 ⟨#[]⟩ x c0 ts) H ht hq hr
  simp only [Tr.cells] at h
  exact h
theorem cmpF_bd (l : List En) : ∀ f a b, -1 ≤ cmpF l f a b ∧ cmpF l f a b ≤ 1 := by
  have hI : ∀ x y, -1 ≤ cmpI x y ∧ cmpI x y ≤ 1 := fun x y => by unfold cmpI; (repeat' split) <;> omega
  have hS : ∀ x y, -1 ≤ cmpS x y ∧ cmpS x y ≤ 1 := fun x y => by unfold cmpS; (repeat' split) <;> omega
  have hL : ∀ {α : Type} {c d : α → α → Int} (a b : α), (-1 ≤ c a b ∧ c a b ≤ 1) → (-1 ≤ d a b ∧ d a b ≤ 1) → -1 ≤ lexC c d a b ∧ lexC c d a b ≤ 1 := fun a b h1 h2 => by unfold lexC; split <;> assumption
  intro f
  induction f with
  | zero => intro a b; unfold cmpF; exact hI _ _
  | succ f ih =>
    intro a b
    unfold cmpF
    refine hL a b (hI _ _) (hL a b ?_ (hL a b (ih _ _) (ih _ _)))
    unfold headC
    exact hL _ _ (hI _ _) (hL _ _ (hI _ _) (hL _ _ (hI _ _) (hL _ _ (hI _ _) (hS _ _))))
theorem head_or (x y : Nd) : ∃ nl tl : List Int, ((x.num = y.num ∧ nl = []) ∨ (x.num < y.num ∧ nl = [-1]) ∨ (y.num < x.num ∧ nl = [1])) ∧
    ((x.text = y.text ∧ tl = []) ∨ (Hid ((x.text.toList == y.text.toList) = false) ∧ Hid (Op.bytesLess x.text.toList y.text.toList = true) ∧ tl = [-1]) ∨ (Hid ((x.text.toList == y.text.toList) = false) ∧ Hid (Op.bytesLess x.text.toList y.text.toList = false) ∧ tl = [1])) ∧
    orE ([cmpI x.kind y.kind, cmpI x.frm y.frm, cmpI x.dst y.dst] ++ nl ++ tl) = headC x y := by
  rw [headC_or]
  have hT : ∃ tl : List Int, ((x.text = y.text ∧ tl = []) ∨ (Hid ((x.text.toList == y.text.toList) = false) ∧ Hid (Op.bytesLess x.text.toList y.text.toList = true) ∧ tl = [-1]) ∨ (Hid ((x.text.toList == y.text.toList) = false) ∧ Hid (Op.bytesLess x.text.toList y.text.toList = false) ∧ tl = [1])) ∧ orE tl = cmpS x.text y.text := by
    cases h1 : Op.bytesLess x.text.toList y.text.toList with
    | true =>
      have hne : (x.text.toList == y.text.toList) = false := by rw [beq_eq_false_iff_ne]; intro h; rw [h, bl_irr] at h1; cases h1
      exact ⟨[-1], .inr (.inl ⟨Lib.hid hne, Lib.hid rfl, rfl⟩), by rw [cmpS_lt h1]; rfl⟩
    | false =>
      cases h2 : Op.bytesLess y.text.toList x.text.toList with
      | true =>
        have hne : (x.text.toList == y.text.toList) = false := by rw [beq_eq_false_iff_ne]; intro h; rw [h, bl_irr] at h2; cases h2
        exact ⟨[1], .inr (.inr ⟨Lib.hid hne, Lib.hid rfl, rfl⟩), by rw [cmpS_gt h2]; rfl⟩
      | false =>
        have he : x.text = y.text := sEq_iff.1 (by unfold sEq; rw [beq_iff_eq]; exact bl_tri _ _ h1 h2)
        exact ⟨[], .inl ⟨he, rfl⟩, by rw [he, cmpS_eq]; rfl⟩
  obtain ⟨tl, ht, htl⟩ := hT
  rcases Int.lt_trichotomy x.num y.num with h | h | h
  · refine ⟨[-1], tl, .inr (.inl ⟨h, rfl⟩), ht, ?_⟩
    rw [cmpI_lt h]; simp [orE]
  · refine ⟨[], tl, .inl ⟨h, rfl⟩, ht, ?_⟩
    rw [h, cmpI_eq]
    have h1 : orE [0, cmpS x.text y.text] = orE tl := by
      rw [htl]; simp only [orE, if_true]; split
      · rename_i h0; exact h0.symm
      · rfl
    have h2 : ∀ a b c : Int, orE [a, b, c, 0, cmpS x.text y.text] = orE ([a, b, c] ++ [] ++ tl) := fun a b c => by
      simp only [List.cons_append, List.nil_append, List.append_nil]
      show (if a = 0 then (if b = 0 then (if c = 0 then orE [0, cmpS x.text y.text] else c) else b) else a) = (if a = 0 then (if b = 0 then (if c = 0 then orE tl else c) else b) else a)
      rw [h1]
    exact (h2 _ _ _).symm
  · refine ⟨[1], tl, .inr (.inr ⟨h, rfl⟩), ht, ?_⟩
    rw [cmpI_gt h]; simp [orE]
theorem rCompare_spec {w0 : World} {D : Nat → Prop} {p : Nat} {l : List En} (hl : l.length ≤ 65536) (hw : wfP l) : ∀ (fu : Nat), ∀ {R : List Ent} (w : World) (a b : Int), (inP l a = true → a.toNat ≤ fu) → Hp w0 D R w → PlQ R p l → Calls Try.prog 35 #[.pointer (some ⟨p, 0, none⟩), .int .i64 a, .int .i64 b] w fun e w' => e = .returned (.int .i64 (cmpF l fu a b)) ∧ Hp w0 D R w' := by
  intro fu
  induction fu with
  | zero =>
    intro R w a b hf H hp
    have h : ¬ (inP l a = true ∧ inP l b = true) := fun h => by have := hf h.1; have := inP_bd h.1; omega
    rw [cmp_out h]
    exact rCmp_out (fu := 0) hl H hp h
  | succ fu ih =>
    intro R w a b hf H hp
    by_cases h : inP l a = true ∧ inP l b = true
    case neg => rw [cmp_out h]; exact rCmp_out (fu := 0) hl H hp h
    by_cases hab : a = b
    · have h0 : cmpF l (fu + 1) a b = 0 := by rw [hab]; exact (cmpF_ok l _).rfl b
      rw [h0]
      exact rCmp_same (fu := 0) hl H hp h.1 hab
    have hkf := kid_fuel hw h.1 (hf h.1)
    have hres := cmp_in (f := fu) h.1 h.2
    obtain ⟨r0, hr0⟩ : ∃ r, cmpF l (fu + 1) a b = r := ⟨_, rfl⟩
    rw [hr0] at hres ⊢
    obtain ⟨nl, tl, hn, ht, hc⟩ := head_or (nodeQ l a) (nodeQ l b)
    obtain ⟨⟨x1, x2, x3, x4, x5, x6, x7⟩, hx⟩ : ∃ n, nodeQ l a = n := ⟨_, rfl⟩
    obtain ⟨⟨y1, y2, y3, y4, y5, y6, y7⟩, hy⟩ : ∃ n, nodeQ l b = n := ⟨_, rfl⟩
    rw [hx, hy] at hn ht hc hres
    rw [hx] at hkf
    simp only at hn ht hc hkf hres
    exact rCmp_both (fu := 0) (d1 := cmpF l fu x6 y6) (d2 := cmpF l fu x7 y7) (Lib.hid hl) H (Lib.hid hp) (Lib.hid h.1) (Lib.hid h.2) hab (Lib.hid hx) (Lib.hid hy) (Lib.hid rfl) (Lib.hid rfl) (Lib.hid rfl) hn ht hc
      (Lib.hid (fun h0 => by rw [hres, if_neg h0])) (Lib.hid (fun h0 => ⟨fun h1 => by rw [hres, if_pos h0, if_pos h1], fun h1 => by rw [hres, if_pos h0, if_neg h1]⟩))
      (fun H => ih _ _ _ (fun _ => hkf.1) H (hp.push [_, _, _])) (fun H => ih _ _ _ (fun _ => hkf.2) H (hp.push [_, _, _]))
set_option maxHeartbeats 32000000 in
theorem Compares_spec {w0 w : World} {D : Nat → Prop} {R : List Ent} {x : Option Addr} {c0 : Nat} (H : Hp w0 D R w) (ts : List Tr) (hX : RdA w0 D x (rowsT ts)) (hT : ∀ t ∈ ts, TrA w0 D t) (hc : ts.length ≤ c0) (hm : c0 ≤ 9223372036854775807) (ta tb tc : Int) :
    Calls Try.prog 8 #[.slice x ts.length c0, .int .i64 ta, .int .i64 tb, .int .i64 tc] w fun e w' => e = .returned (.bool true) ∧ ∃ L, Hp w0 D L w' := by
  have HX := Lib.hid hX
  have HTA := Lib.hid hT
  have htr : TrR w0 D R (.mk 0 0 0 0 ⟨#[]⟩ x c0 ts) := .mk (hX.rd R) hc (by omega) (fun t ht => (hT t ht).rd R)
  obtain ⟨qn, hqn⟩ : ∃ qn, partsT (Tr.pt (.mk 0 0 0 0 ⟨#[]⟩ x c0 ts)) 6000 = qn := ⟨_, rfl⟩
  obtain ⟨rb, hrb⟩ : ∃ rb, decide (6000 < qn) = rb := ⟨_, rfl⟩
  have HTR := Lib.hid htr
  have HLQ := Lib.hid hqn
  have HLR := Lib.hid hrb
  obtain ⟨N, hN⟩ : ∃ N, ts.length = N := ⟨_, rfl⟩
  have HN := Lib.hid hN
  have hsz : rb = false → sizeL (ptL ts) ≤ 6000 := fun h => by
    have h1 : ¬ 6000 < qn := by rw [h] at hrb; simpa using hrb
    have h2 := partsT_eq (Tr.pt (.mk 0 0 0 0 ⟨#[]⟩ x c0 ts)) 6000 (by omega) (by rw [hqn]; omega)
    simp only [Tr.pt, Pt.size] at h2
    rw [show partsT (Pt.mk 0 0 0 0 ⟨#[]⟩ (ptL ts)) 6000 = qn from hqn] at h2
    omega
  rw [hN] at hc ⊢
  clear hN hX hT htr hqn hrb
  by_cases h100 : 100 < N
  · go_enter Try.func8, Try.ntmps8
    go_wp2_with (first
    | (go_at_call 11; ((refine (live_hp H).mono ?_); rintro e w1 ⟨rfl, H1⟩; clear H; have H := H1; clear H1))
    | ((with_reducible refine gLd ?_); refine eLd H rfl rfl ?_; first | ((repeat ((with_reducible refine gEx ?_); first | (refine kLd 0 rfl rfl (by exact TT _ rfl) rfl ?_) | (refine kLdA 0 rfl rfl (by exact TT _ rfl) (Nat.le_of_ble_eq_true rfl) (by simp only [Nd.cells, Nd.zero, LS2]; rfl) ?_) | (refine nxL ?_))); fail_if_success (with_reducible refine gEx ?_)))
    | ((with_reducible refine gBx ?_); refine bxA H rfl rfl rfl ?_; clear H; intro b1 w1 H)
    | ((with_reducible refine gEq ?_); (first | (refine wl_cmp rfl rfl rfl rfl ?_) | (refine wl_scmp rfl rfl rfl rfl ?_)); intro rb hrb; cases rb <;> (first | (exfalso; simp at hrb; done) | ((try simp only [CS1, gt_iff_lt, ge_iff_le, ne_eq, Decidable.not_not] at hrb); (try subst hrb); (try (exfalso; omega)))))
    | ((with_reducible refine gRg ?_); refine wp_region_text rfl (by decide +kernel) ?_; replace H := H.drew)
    | ((with_reducible refine EndQ.intro ?_ ?_); (· kernel_rfl)))
    go_ret
    exact ⟨rfl, _, H⟩
  cases rb with
  | true =>
    go_enter Try.func8, Try.ntmps8
    go_wp2_with (first
    | (go_at_call 23; (refine (large_c (ts := ts) H HN.out HTR.out HLQ.out HLR.out).mono ?_; rintro e w1 ⟨rfl, H1⟩; clear H; have H := H1; clear H1))
    | (go_at_call 11; ((refine (live_hp H).mono ?_); rintro e w1 ⟨rfl, H1⟩; clear H; have H := H1; clear H1))
    | ((with_reducible refine gLd ?_); refine eLd H rfl rfl ?_; first | ((repeat ((with_reducible refine gEx ?_); first | (refine kLd 0 rfl rfl (by exact TT _ rfl) rfl ?_) | (refine kLdA 0 rfl rfl (by exact TT _ rfl) (Nat.le_of_ble_eq_true rfl) (by simp only [Nd.cells, Nd.zero, LS2]; rfl) ?_) | (refine nxL ?_))); fail_if_success (with_reducible refine gEx ?_)))
    | ((with_reducible refine gBx ?_); refine bxA H rfl rfl rfl ?_; clear H; intro b1 w1 H)
    | ((with_reducible refine gEq ?_); (first | (refine wl_cmp rfl rfl rfl rfl ?_) | (refine wl_scmp rfl rfl rfl rfl ?_)); intro rb hrb; cases rb <;> (first | (exfalso; simp at hrb; done) | ((try simp only [CS1, gt_iff_lt, ge_iff_le, ne_eq, Decidable.not_not] at hrb); (try subst hrb); (try (exfalso; omega)))))
    | ((with_reducible refine gRg ?_); refine wp_region_text rfl (by decide +kernel) ?_; replace H := H.drew)
    | ((with_reducible refine EndQ.intro ?_ ?_); (· kernel_rfl)))
    go_ret
    exact ⟨rfl, _, H⟩
  | false =>
  have HSZ := Lib.hid (hsz rfl)
  clear hsz
  go_enter Try.func8, Try.ntmps8
  go_wp2_with (first
    | (go_at_call 23; (refine (large_c (ts := ts) H HN.out HTR.out HLQ.out HLR.out).mono ?_; rintro e w1 ⟨rfl, H1⟩; clear H; have H := H1; clear H1))
    | (go_at_call 12; (refine (New_spec (Hg.of H)).mono ?_; rintro e w1 ⟨p, rfl, hP⟩))
    | (go_at_call 13; (refine (rNew_pl hP).mono ?_; rintro e w1 ⟨q, rfl, h1⟩; clear hP; have hP := h1; clear h1))
    | ((with_reducible refine gLd ?_); refine eLd H rfl rfl ?_; first | ((repeat ((with_reducible refine gEx ?_); first | (refine kLd 0 rfl rfl (by exact TT _ rfl) rfl ?_) | (refine kLdA 0 rfl rfl (by exact TT _ rfl) (Nat.le_of_ble_eq_true rfl) (by simp only [Nd.cells, Nd.zero, LS2]; rfl) ?_) | (refine nxL ?_))); fail_if_success (with_reducible refine gEx ?_)))
    | ((with_reducible refine gBx ?_); refine bxA H rfl rfl rfl ?_; clear H; intro b1 w1 H)
    | ((with_reducible refine gEq ?_); (first | (refine wl_cmp rfl rfl rfl rfl ?_) | (refine wl_scmp rfl rfl rfl rfl ?_)); intro rb hrb; cases rb <;> (first | (exfalso; simp at hrb; done) | ((try simp only [CS1, gt_iff_lt, ge_iff_le, ne_eq, Decidable.not_not] at hrb); (try subst hrb); (try (exfalso; omega)))))
    | ((with_reducible refine gRg ?_); refine wp_region_text rfl (by decide +kernel) ?_; replace H := H.drew)
    | ((with_reducible refine EndQ.intro ?_ ?_); (· kernel_rfl)))
  clear H
  go_loopg [11] N (fun g v11 wr => ∃ (k : Nat) (l : List En) (b s d : Option Nat) (cb cs cd : Nat), v11 = .int .i64 (k : Int) ∧ k + g = N ∧ Hid (ofsL (ts.take k) = l) ∧ Pl w0 D [] (eQ q b s d cb cs cd l :: eQn b cb l :: eQs s cs l :: eQd d cd l :: R) p l wr)
  case atStart => exact ⟨0, [], none, none, none, 0, 0, 0, rfl, by omega, Lib.hid rfl, hP⟩
  case round =>
    clear hP
    obtain ⟨k, l, b, s, d, cb, cs, cd, rfl, hkg, HML, hP⟩ := hrel
    have HKG := Lib.hid hkg
    have hof := ofs_ok ts k (by rw [HN.out]; omega)
    rw [HML.out] at hof
    have hst := sizeL_take ts k
    have HWF := Lib.hid hof.1
    have HOK := Lib.hid hof.1.ok
    have HL : Hid (l.length ≤ 65536) := Lib.hid (by have := HSZ.out; omega)
    obtain ⟨mb, a, c, hg⟩ := hP
    obtain ⟨wx, Dx, H, back, bk2⟩ := hg.openX
    clear hg
    by_cases hk : k < N
    · have hkl : k < ts.length := by rw [HN.out]; exact hk
      obtain ⟨y, hx⟩ : ∃ y, ts[k]? = some y := ⟨_, List.getElem?_eq_getElem hkl⟩
      have hys : l.length + y.pt.size ≤ 6000 := by
        rw [ptL_step hx] at hst
        simp only [sizeL] at hst
        have := HSZ.out; omega
      obtain ⟨l2, tm, er, hof2⟩ : ∃ l2 tm er, ofE l y.pt = (l2, tm, er) := ⟨_, _, _, rfl⟩
      have hng : (looksT y.pt 0 0).1 = 0 → (growT y.pt l).2.2 = 0 := grow_ok' hof.1 (by omega)
      have hwf2 := ofE_wf (t := y.pt) hof.1
      rw [hof2] at hwf2
      obtain ⟨mm, e1, e2⟩ := ofE_len l y.pt
      rw [hof2] at e1
      dsimp only at e1 hwf2
      have HL2 : Hid (l2.length ≤ 65536) := Lib.hid (by rw [e1, List.length_append]; omega)
      have HWF2 := Lib.hid hwf2
      have HML2 : Hid (ofsL (ts.take (k + 1)) = l2) := Lib.hid (by rw [take_snocT hx, ofsL_snoc, HML.out, hof2])
      have HE := Lib.hid (rowsT_at hx)
      have HSY : Hid (y.pt.size ≤ 6000) := Lib.hid (by omega)
      obtain ⟨xb, xo, rfl, hO⟩ := (HX.out.rd R).some_of (by rw [rowsT_length]; omega)
      have HYR := Lib.hid ((HTA.out y (List.mem_of_getElem? hx)).rd R)
      have HTY := Lib.hid (TrR.down bk2 (HYR.out.push [eP p mb a c l, eE a c l, eQ q b s d cb cs cd l, eQn b cb l, eQs s cs l, eQd d cd l]))
      have HOF := Lib.hid hof2
      have HNG := Lib.hid hng
      clear hkg hst hof hx hng hof2 hys hkl e1 e2 hwf2 HWF HML
      go_wp2_with (first
          | ((with_reducible refine gLd ?_); first | (have hq := N1; clear hq; refine wl_loadR (agg := true) (n := 6) (hO (_ :: _ :: _ :: _ :: _ :: _ :: N1) _ (bk2 _ _ H)) rfl rfl (by first | rfl | omega) T50 HE.out ?_) | (refine wl_loadR (agg := true) (n := 6) (hO [_, _, _, _, _, _] _ (bk2 _ _ H)) rfl rfl (by first | rfl | omega) T50 HE.out ?_))
          | (go_at_call 24; (refine (Lent_spec y _ H HTY.out HSY.out).mono ?_; rintro e w1 ⟨⟨zk, zf, zd, zn, zt, za, zc, zs⟩, N1, rfl, hpt, htw, H1⟩; have HPT := Lib.hid hpt; have HTW := Lib.hid htw; clear hpt htw H; have H := Hp.swap (A := N1) (B := [_, _, _, _, _, _]) H1; clear H1; simp only [List.cons_append, List.nil_append] at H; (try simp only [Tr.cells])))
          | (go_at_call 25; (refine (Of_spec (L := eQ q b s d cb cs cd l :: eQn b cb l :: eQs s cs l :: eQd d cd l :: (N1 ++ R)) (t := (.mk zk zf zd zn zt za zc zs)) ⟨mb, a, c, back _ _ H⟩ (((HTW.out.right R).push [eQ q b s d cb cs cd l, eQn b cb l, eQs s cs l, eQd d cd l]) w0 D) HL.out HOK.out ((congrArg (ofE l) HPT.out).trans HOF.out) (by rw [HPT.out]; exact HNG.out)).mono ?_; rintro e w1 ⟨rfl, h1⟩; clear H back bk2; obtain ⟨mb, a, c, hg⟩ := h1; obtain ⟨wz, Dz, H, back, bk2⟩ := hg.openX; clear hg))
          | (go_at_call 26; (refine (rOf_spec (t := y) (Hp.swap (A := [_, _]) (B := [_, _, _, _]) H) (TrR.down bk2 (HYR.out.push (_ :: _ :: N1))) HL.out HOK.out HOF.out HNG.out).mono ?_; rintro e w1 ⟨b, s, d, cb, cs, cd, rfl, H1⟩; clear H; have H := Hp.swap (A := [_, _, _, _]) (B := [_, _]) H1; clear H1; simp only [List.cons_append, List.nil_append] at H))
          | ((with_reducible refine gLd ?_); refine eLd H rfl rfl ?_; first | ((repeat ((with_reducible refine gEx ?_); first | (refine kLd 0 rfl rfl (by exact TT _ rfl) rfl ?_) | (refine kLdA 0 rfl rfl (by exact TT _ rfl) (Nat.le_of_ble_eq_true rfl) (by simp only [Nd.cells, Nd.zero, LS2]; rfl) ?_) | (refine nxL ?_))); fail_if_success (with_reducible refine gEx ?_)))
          | ((with_reducible refine gBx ?_); refine bxA H rfl rfl rfl ?_; clear H; intro b1 w1 H)
          | ((with_reducible refine gEq ?_); (first | (refine wl_cmp rfl rfl rfl rfl ?_) | (refine wl_scmp rfl rfl rfl rfl ?_)); intro rb hrb; cases rb <;> (first | (exfalso; simp at hrb; done) | ((try simp only [CS1, gt_iff_lt, ge_iff_le, ne_eq, Decidable.not_not] at hrb); (try subst hrb); (try (exfalso; omega)))))
          | ((with_reducible refine gRg ?_); refine wp_region_text rfl (by decide +kernel) ?_; replace H := H.drew)
          | ((with_reducible refine EndQ.intro ?_ ?_); (· kernel_rfl)))
      go_roundg (gk - 1)
      case measure => have := HKG.out; omega
      case rel => exact ⟨k + 1, l2, b, s, d, cb, cs, cd, by go_num, by have := HKG.out; omega, HML2, mb, a, c, back _ _ (Hp.keptN (M := [_, _, _, _, _, _]) (N := N1) H)⟩
    · obtain rfl : N = k := by omega
      have hwf := HWF.out
      have hll := HL.out
      obtain ⟨x9, hK1⟩ : ∃ z, cmpF l l.length ta tb = z := ⟨_, rfl⟩
      obtain ⟨y9, hK2⟩ : ∃ z, cmpF l l.length tb tc = z := ⟨_, rfl⟩
      obtain ⟨z9, hK3⟩ : ∃ z, cmpF l l.length ta tc = z := ⟨_, rfl⟩
      have hK4 : cmpF l l.length tb ta = -x9 := by rw [(cmpF_ok l _).anti ta tb, hK1]
      have hK5 : cmpF l l.length ta ta = 0 := (cmpF_ok l _).rfl ta
      have hK6 := hK1
      obtain ⟨r7, hr7⟩ : ∃ z, inP l ta = z := ⟨_, rfl⟩
      obtain ⟨r8, hr8⟩ : ∃ z, inP l tb = z := ⟨_, rfl⟩
      have b1 := cmpF_bd l l.length ta tb
      have b2 := cmpF_bd l l.length tb tc
      have b3 := cmpF_bd l l.length ta tc
      have t1 := (cmpF_ok l l.length).tr ta tb tc
      have t2 := (cmpF_ok l l.length).trs ta tb tc
      have t3 : r7 = true → r8 = true → (x9 = 0 ↔ ta = tb) := fun h1 h2 => by
        rw [← hK1]
        exact ⟨cmpF_zero hwf l.length ta tb (hr7.trans h1) (hr8.trans h2) (by have := inP_bd (hr7.trans h1); omega), fun h => by rw [h]; exact (cmpF_ok l _).rfl tb⟩
      rw [hK1] at b1 t1 t2
      rw [hK2] at b2 t1 t2
      rw [hK3] at b3 t1 t2
      obtain ⟨b1a, b1b⟩ := b1
      obtain ⟨b2a, b2b⟩ := b2
      obtain ⟨b3a, b3b⟩ := b3
      have K1 : ∀ u, Hp wx Dx (eP p mb a c l :: eE a c l :: eQ q b s d cb cs cd l :: eQn b cb l :: eQs s cs l :: eQd d cd l :: R) u → Calls Try.prog 34 #[.pointer (some ⟨p, 0, none⟩), .int .i64 ta, .int .i64 tb] u fun e w' => e = .returned (.int .i64 x9) ∧ Hp wx Dx (eP p mb a c l :: eE a c l :: eQ q b s d cb cs cd l :: eQn b cb l :: eQs s cs l :: eQd d cd l :: R) w' := fun u hu => by have h9 := Compare_spec hll hwf l.length u ta tb (fun h => by have := inP_bd h; omega) hu ⟨mb, a, c, 0, 1, rfl, rfl⟩; rw [← hK1]; exact h9
      have K2 : ∀ u, Hp wx Dx (eP p mb a c l :: eE a c l :: eQ q b s d cb cs cd l :: eQn b cb l :: eQs s cs l :: eQd d cd l :: R) u → Calls Try.prog 34 #[.pointer (some ⟨p, 0, none⟩), .int .i64 tb, .int .i64 tc] u fun e w' => e = .returned (.int .i64 y9) ∧ Hp wx Dx (eP p mb a c l :: eE a c l :: eQ q b s d cb cs cd l :: eQn b cb l :: eQs s cs l :: eQd d cd l :: R) w' := fun u hu => by have h9 := Compare_spec hll hwf l.length u tb tc (fun h => by have := inP_bd h; omega) hu ⟨mb, a, c, 0, 1, rfl, rfl⟩; rw [← hK2]; exact h9
      have K3 : ∀ u, Hp wx Dx (eP p mb a c l :: eE a c l :: eQ q b s d cb cs cd l :: eQn b cb l :: eQs s cs l :: eQd d cd l :: R) u → Calls Try.prog 34 #[.pointer (some ⟨p, 0, none⟩), .int .i64 ta, .int .i64 tc] u fun e w' => e = .returned (.int .i64 z9) ∧ Hp wx Dx (eP p mb a c l :: eE a c l :: eQ q b s d cb cs cd l :: eQn b cb l :: eQs s cs l :: eQd d cd l :: R) w' := fun u hu => by have h9 := Compare_spec hll hwf l.length u ta tc (fun h => by have := inP_bd h; omega) hu ⟨mb, a, c, 0, 1, rfl, rfl⟩; rw [← hK3]; exact h9
      have K4 : ∀ u, Hp wx Dx (eP p mb a c l :: eE a c l :: eQ q b s d cb cs cd l :: eQn b cb l :: eQs s cs l :: eQd d cd l :: R) u → Calls Try.prog 34 #[.pointer (some ⟨p, 0, none⟩), .int .i64 tb, .int .i64 ta] u fun e w' => e = .returned (.int .i64 (-x9)) ∧ Hp wx Dx (eP p mb a c l :: eE a c l :: eQ q b s d cb cs cd l :: eQn b cb l :: eQs s cs l :: eQd d cd l :: R) w' := fun u hu => by have h9 := Compare_spec hll hwf l.length u tb ta (fun h => by have := inP_bd h; omega) hu ⟨mb, a, c, 0, 1, rfl, rfl⟩; rw [← hK4]; exact h9
      have K5 : ∀ u, Hp wx Dx (eP p mb a c l :: eE a c l :: eQ q b s d cb cs cd l :: eQn b cb l :: eQs s cs l :: eQd d cd l :: R) u → Calls Try.prog 34 #[.pointer (some ⟨p, 0, none⟩), .int .i64 ta, .int .i64 ta] u fun e w' => e = .returned (.int .i64 0) ∧ Hp wx Dx (eP p mb a c l :: eE a c l :: eQ q b s d cb cs cd l :: eQn b cb l :: eQs s cs l :: eQd d cd l :: R) w' := fun u hu => by have h9 := Compare_spec hll hwf l.length u ta ta (fun h => by have := inP_bd h; omega) hu ⟨mb, a, c, 0, 1, rfl, rfl⟩; rw [← hK5]; exact h9
      have K6 : ∀ u, Hp wx Dx (eP p mb a c l :: eE a c l :: eQ q b s d cb cs cd l :: eQn b cb l :: eQs s cs l :: eQd d cd l :: R) u → Calls Try.prog 35 #[.pointer (some ⟨q, 0, none⟩), .int .i64 ta, .int .i64 tb] u fun e w' => e = .returned (.int .i64 x9) ∧ Hp wx Dx (eP p mb a c l :: eE a c l :: eQ q b s d cb cs cd l :: eQn b cb l :: eQs s cs l :: eQd d cd l :: R) w' := fun u hu => by have h9 := rCompare_spec hll hwf l.length u ta tb (fun h => by have := inP_bd h; omega) hu ⟨b, s, d, cb, cs, cd, 2, 3, rfl, rfl⟩; rw [← hK6]; exact h9
      have K7 : ∀ u, Hp wx Dx (eP p mb a c l :: eE a c l :: eQ q b s d cb cs cd l :: eQn b cb l :: eQs s cs l :: eQd d cd l :: R) u → Calls Try.prog 36 #[.pointer (some ⟨q, 0, none⟩), .int .i64 ta] u fun e w' => e = .returned (.bool r7) ∧ Hp wx Dx (eP p mb a c l :: eE a c l :: eQ q b s d cb cs cd l :: eQn b cb l :: eQs s cs l :: eQd d cd l :: R) w' := fun u hu => rIn_c (i := 2) hu rfl hr7
      have K8 : ∀ u, Hp wx Dx (eP p mb a c l :: eE a c l :: eQ q b s d cb cs cd l :: eQn b cb l :: eQs s cs l :: eQd d cd l :: R) u → Calls Try.prog 36 #[.pointer (some ⟨q, 0, none⟩), .int .i64 tb] u fun e w' => e = .returned (.bool r8) ∧ Hp wx Dx (eP p mb a c l :: eE a c l :: eQ q b s d cb cs cd l :: eQn b cb l :: eQs s cs l :: eQd d cd l :: R) w' := fun u hu => rIn_c (i := 2) hu rfl hr8
      clear hkg hst hof HML hwf hll hK1 hK2 hK3 hK4 hK5 hK6 hr7 hr8
      cases r7 <;> cases r8
      all_goals simp only [true_implies, false_implies, Bool.false_eq_true, forall_const] at t3
      all_goals go_wp2_with (first
          | (go_at_call 34; first | ((with_reducible refine (K1 _ H).mono ?_); rintro e w1 ⟨rfl, H1⟩; clear H; have H := H1; clear H1) | ((with_reducible refine (K2 _ H).mono ?_); rintro e w1 ⟨rfl, H1⟩; clear H; have H := H1; clear H1) | ((with_reducible refine (K3 _ H).mono ?_); rintro e w1 ⟨rfl, H1⟩; clear H; have H := H1; clear H1) | ((with_reducible refine (K4 _ H).mono ?_); rintro e w1 ⟨rfl, H1⟩; clear H; have H := H1; clear H1) | ((with_reducible refine (K5 _ H).mono ?_); rintro e w1 ⟨rfl, H1⟩; clear H; have H := H1; clear H1))
          | (go_at_call 35; ((with_reducible refine (K6 _ H).mono ?_); rintro e w1 ⟨rfl, H1⟩; clear H; have H := H1; clear H1))
          | (go_at_call 36; first | ((with_reducible refine (K7 _ H).mono ?_); rintro e w1 ⟨rfl, H1⟩; clear H; have H := H1; clear H1) | ((with_reducible refine (K8 _ H).mono ?_); rintro e w1 ⟨rfl, H1⟩; clear H; have H := H1; clear H1))
          | ((with_reducible refine gEq ?_); refine wl_neb rfl rfl rfl ?_)
          | (go_at_call 11; ((refine (live_hp H).mono ?_); rintro e w1 ⟨rfl, H1⟩; clear H; have H := H1; clear H1))
          | ((with_reducible refine gLd ?_); refine eLd H rfl rfl ?_; first | ((repeat ((with_reducible refine gEx ?_); first | (refine kLd 0 rfl rfl (by exact TT _ rfl) rfl ?_) | (refine kLdA 0 rfl rfl (by exact TT _ rfl) (Nat.le_of_ble_eq_true rfl) (by simp only [Nd.cells, Nd.zero, LS2]; rfl) ?_) | (refine nxL ?_))); fail_if_success (with_reducible refine gEx ?_)))
          | ((with_reducible refine gBx ?_); refine bxA H rfl rfl rfl ?_; clear H; intro b1 w1 H)
          | ((with_reducible refine gEq ?_); (first | (refine wl_cmp rfl rfl rfl rfl ?_) | (refine wl_scmp rfl rfl rfl rfl ?_)); intro rb hrb; cases rb <;> (first | (exfalso; simp at hrb; done) | ((try simp only [CS1, gt_iff_lt, ge_iff_le, ne_eq, Decidable.not_not] at hrb); (try subst hrb); (try (exfalso; omega)))))
          | ((with_reducible refine gRg ?_); refine wp_region_text rfl (by decide +kernel) ?_; replace H := H.drew)
          | ((with_reducible refine EndQ.intro ?_ ?_); (· kernel_rfl)))
      all_goals go_ret
      all_goals exact ⟨rfl, _, bk2 _ _ H⟩
end Go.Proofs.Ytebecelhcpljaaa
