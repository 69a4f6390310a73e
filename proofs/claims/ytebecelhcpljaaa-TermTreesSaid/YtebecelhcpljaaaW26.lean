/- TermTrees: what the law computes. -/
import Derived.Test.YtebecelhcpljaaaW24
import Derived.Test.YtebecelhcpljaaaW25
import Derived.Deep.Cut
import Derived.WalkKit
import Derived.Lib.Hide
import Derived.Deep.LoopGhost
import Derived.WalkSpells
set_option linter.unusedVariables false
set_option linter.unusedSimpArgs false
namespace Go.Proofs.Ytebecelhcpljaaa
open Go.RowKit Go.Gx Go.Gx.Trm
set_option maxRecDepth 100000
def ofsL (ts : List Tr) : List En := ts.foldl (fun l t => (ofE l t.pt).1) []
theorem ofsL_snoc (ts : List Tr) (t : Tr) : ofsL (ts ++ [t]) = (ofE (ofsL ts) t.pt).1 := by simp [ofsL]
theorem take_snocT {ts : List Tr} {k : Nat} {n : Tr} (h : ts[k]? = some n) : ts.take (k + 1) = ts.take k ++ [n] := by
  obtain ⟨hlt, rfl⟩ := List.getElem?_eq_some_iff.1 h
  rw [List.take_succ_eq_append_getElem hlt]
theorem sizeL_app : ∀ (a b : List Pt), sizeL (a ++ b) = sizeL a + sizeL b
  | [], b => by simp [sizeL]
  | x :: xs, b => by simp only [List.cons_append, sizeL, sizeL_app xs b]; omega
theorem sizeL_take (ts : List Tr) (k : Nat) : sizeL (ptL (ts.take k)) + sizeL (ptL (ts.drop k)) = sizeL (ptL ts) := by
  rw [← sizeL_app, ptL_map, ptL_map, ptL_map, ← List.map_append, List.take_append_drop]
theorem ofs_ok (ts : List Tr) : ∀ k, k ≤ ts.length → wfP (ofsL (ts.take k)) ∧ (ofsL (ts.take k)).length ≤ sizeL (ptL (ts.take k))
  | 0, _ => by simp [ofsL, ptL, sizeL, wfP_nil]
  | k + 1, h => by
    have hkl : k < ts.length := by omega
    obtain ⟨x, hx⟩ : ∃ x, ts[k]? = some x := ⟨_, List.getElem?_eq_getElem hkl⟩
    obtain ⟨h1, h2⟩ := ofs_ok ts k (by omega)
    rw [take_snocT hx, ofsL_snoc, ptL_snoc]
    obtain ⟨m, e1, e2⟩ := ofE_len (ofsL (ts.take k)) x.pt
    refine ⟨ofE_wf h1, ?_⟩
    rw [e1, List.length_append, sizeL_app]
    simp only [sizeL]; omega

theorem zero_tree {l : List En} : treeP l 0 = Pt.zero := treeP_no (inP_lo (by omega))
theorem zero_same {l : List En} {t : Tr} (h : t.pt = treeP l 0) : t.pt.beq (Tr.mk 0 0 0 0 ⟨#[]⟩ none 0 []).pt = true := by
  have h1 : (Tr.mk 0 0 0 0 ⟨#[]⟩ none 0 []).pt = Pt.zero := by simp [Tr.pt, ptL, Pt.zero]
  exact Pt.beq_iff.2 (by rw [h, zero_tree, h1])
theorem large_c {w0 w : World} {D : Nat → Prop} {R : List Ent} {x : Option Addr} {c0 N : Nat} {ts : List Tr} {q : Int} {r : Bool} (H : Hp w0 D R w) (hN : ts.length = N) (ht : TrR w0 D R (.mk 0 0 0 0 ⟨#[]⟩ x c0 ts)) (hq : partsT (Tr.pt (.mk 0 0 0 0 ⟨#[]⟩ x c0 ts)) 6000 = q) (hr : decide (6000 < q) = r) :
    Calls Try.prog 23 #[.agg (List.toArray [.int .i64 0, .int .i64 0, .int .i64 0, .int .u64 0, .string ⟨#[]⟩, .slice x N c0])] w fun e w' => e = .returned (.bool r) ∧ Hp w0 D R w' := by
  subst hN
  have h := large_spec (w := w) (R := R) (t := .mk 0 0 0 0 ⟨#[]⟩ x c0 ts) H ht hq hr
  simp only [Tr.cells] at h
  exact h
set_option maxHeartbeats 32000000 in
theorem Trees_spec {w0 w : World} {D : Nat → Prop} {R : List Ent} {x : Option Addr} {c0 : Nat} (H : Hp w0 D R w) (ts : List Tr) (hX : RdA w0 D x (rowsT ts)) (hT : ∀ t ∈ ts, TrA w0 D t) (hc : ts.length ≤ c0) (hm : c0 ≤ 9223372036854775807) :
    Calls Try.prog 4 #[.slice x ts.length c0] w fun e w' => e = .returned (.bool true) ∧ ∃ L, Hp w0 D L w' := by
  have HX := Lib.hid hX
  have HTA := Lib.hid hT
  have htr : TrR w0 D R (.mk 0 0 0 0 ⟨#[]⟩ x c0 ts) := .mk (hX.rd R) hc (by omega) (fun t ht => (hT t ht).rd R)
  obtain ⟨qn, hqn⟩ : ∃ qn, partsT (Tr.pt (.mk 0 0 0 0 ⟨#[]⟩ x c0 ts)) 6000 = qn := ⟨_, rfl⟩
  obtain ⟨rb, hrb⟩ : ∃ rb, decide (6000 < qn) = rb := ⟨_, rfl⟩
  have HTR := Lib.hid htr
  have HLQ := Lib.hid hqn
  have HLR := Lib.hid hrb
  obtain ⟨N, hN⟩ : ∃ N, ts.length = N := ⟨_, rfl⟩
  have HN := Lib.hid hN
  have hsz : rb = false → sizeL (ptL ts) ≤ 6000 := fun h => by
    have h1 : ¬ 6000 < qn := by rw [h] at hrb; simpa using hrb
    have h2 := partsT_eq (Tr.pt (.mk 0 0 0 0 ⟨#[]⟩ x c0 ts)) 6000 (by omega) (by rw [hqn]; omega)
    simp only [Tr.pt, Pt.size] at h2
    rw [show partsT (Pt.mk 0 0 0 0 ⟨#[]⟩ (ptL ts)) 6000 = qn from hqn] at h2
    omega
  rw [hN] at hc ⊢
  clear hN hX hT htr hqn hrb
  by_cases h100 : 100 < N
  · go_enter Try.func4, Try.ntmps4
    go_wp2_with (first
    | (go_at_call 11; ((refine (live_hp H).mono ?_); rintro e w1 ⟨rfl, H1⟩; clear H; have H := H1; clear H1))
    | ((with_reducible refine gLd ?_); refine eLd H rfl rfl ?_; first | ((repeat ((with_reducible refine gEx ?_); first | (refine kLd 0 rfl rfl (by exact TT _ rfl) rfl ?_) | (refine kLdA 0 rfl rfl (by exact TT _ rfl) (Nat.le_of_ble_eq_true rfl) (by simp only [Nd.cells, Nd.zero, LS2]; rfl) ?_) | (refine nxL ?_))); fail_if_success (with_reducible refine gEx ?_)))
    | ((with_reducible refine gSt ?_); (first | (refine eSt H rfl rfl ⟨.int _ _, rfl, ?_⟩) | (refine eSt H rfl rfl ⟨.bool _, rfl, ?_⟩) | (refine eSt H rfl rfl ⟨.slice _ _ _, rfl, ?_⟩) | (refine eSt H rfl rfl ⟨.pointer _, rfl, ?_⟩) | (refine eSt H rfl rfl ⟨.string _, rfl, ?_⟩) | (refine eSt H rfl rfl ⟨.agg (List.toArray _), rfl, ?_⟩)); (first | ((repeat ((with_reducible refine gES ?_); first | (refine kSt 0 rfl rfl (by exact TT _ rfl) rfl (Nat.le_of_ble_eq_true rfl) ?_) | (refine kStA 0 rfl rfl (by exact TT _ rfl) rfl rfl (Nat.le_of_ble_eq_true rfl) ?_) | (refine nxS ?_))); fail_if_success (with_reducible refine gES ?_))); clear H; intro w1 H; simp only [List.set_cons_zero, List.set_cons_succ] at H; (try simp only [lay, LS1, Nat.reduceAdd] at H))
    | ((with_reducible refine gBx ?_); refine bxA H rfl rfl rfl ?_; clear H; intro b1 w1 H)
    | ((with_reducible refine gBs ?_); (first | (refine bs1 H rfl (by exact SS _ rfl) rfl (Nat.le_of_ble_eq_true rfl) (Nat.le_of_ble_eq_true rfl) rfl ?_) | (refine wl_buildSlice0 rfl (by exact SS _ rfl) H ?_)); clear H; intro b1 w1 H)
    | ((with_reducible refine gEq ?_); (first | (refine wl_cmp rfl rfl rfl rfl ?_) | (refine wl_scmp rfl rfl rfl rfl ?_)); intro rb hrb; cases rb <;> (first | (exfalso; simp at hrb; done) | ((try simp only [CS1, gt_iff_lt, ge_iff_le, ne_eq, Decidable.not_not] at hrb); (try subst hrb); (try (exfalso; omega)))))
    | ((with_reducible refine gRg ?_); refine wp_region_text rfl (by decide +kernel) ?_; replace H := H.drew)
    | ((with_reducible refine EndQ.intro ?_ ?_); (· kernel_rfl)))
    go_ret
    exact ⟨rfl, _, H⟩
  cases rb with
  | true =>
    go_enter Try.func4, Try.ntmps4
    go_wp2_with (first
    | (go_at_call 23; (refine (large_c (ts := ts) H HN.out HTR.out HLQ.out HLR.out).mono ?_; rintro e w1 ⟨rfl, H1⟩; clear H; have H := H1; clear H1))
    | (go_at_call 11; ((refine (live_hp H).mono ?_); rintro e w1 ⟨rfl, H1⟩; clear H; have H := H1; clear H1))
    | ((with_reducible refine gLd ?_); refine eLd H rfl rfl ?_; first | ((repeat ((with_reducible refine gEx ?_); first | (refine kLd 0 rfl rfl (by exact TT _ rfl) rfl ?_) | (refine kLdA 0 rfl rfl (by exact TT _ rfl) (Nat.le_of_ble_eq_true rfl) (by simp only [Nd.cells, Nd.zero, LS2]; rfl) ?_) | (refine nxL ?_))); fail_if_success (with_reducible refine gEx ?_)))
    | ((with_reducible refine gSt ?_); (first | (refine eSt H rfl rfl ⟨.int _ _, rfl, ?_⟩) | (refine eSt H rfl rfl ⟨.bool _, rfl, ?_⟩) | (refine eSt H rfl rfl ⟨.slice _ _ _, rfl, ?_⟩) | (refine eSt H rfl rfl ⟨.pointer _, rfl, ?_⟩) | (refine eSt H rfl rfl ⟨.string _, rfl, ?_⟩) | (refine eSt H rfl rfl ⟨.agg (List.toArray _), rfl, ?_⟩)); (first | ((repeat ((with_reducible refine gES ?_); first | (refine kSt 0 rfl rfl (by exact TT _ rfl) rfl (Nat.le_of_ble_eq_true rfl) ?_) | (refine kStA 0 rfl rfl (by exact TT _ rfl) rfl rfl (Nat.le_of_ble_eq_true rfl) ?_) | (refine nxS ?_))); fail_if_success (with_reducible refine gES ?_))); clear H; intro w1 H; simp only [List.set_cons_zero, List.set_cons_succ] at H; (try simp only [lay, LS1, Nat.reduceAdd] at H))
    | ((with_reducible refine gBx ?_); refine bxA H rfl rfl rfl ?_; clear H; intro b1 w1 H)
    | ((with_reducible refine gBs ?_); (first | (refine bs1 H rfl (by exact SS _ rfl) rfl (Nat.le_of_ble_eq_true rfl) (Nat.le_of_ble_eq_true rfl) rfl ?_) | (refine wl_buildSlice0 rfl (by exact SS _ rfl) H ?_)); clear H; intro b1 w1 H)
    | ((with_reducible refine gEq ?_); (first | (refine wl_cmp rfl rfl rfl rfl ?_) | (refine wl_scmp rfl rfl rfl rfl ?_)); intro rb hrb; cases rb <;> (first | (exfalso; simp at hrb; done) | ((try simp only [CS1, gt_iff_lt, ge_iff_le, ne_eq, Decidable.not_not] at hrb); (try subst hrb); (try (exfalso; omega)))))
    | ((with_reducible refine gRg ?_); refine wp_region_text rfl (by decide +kernel) ?_; replace H := H.drew)
    | ((with_reducible refine EndQ.intro ?_ ?_); (· kernel_rfl)))
    go_ret
    exact ⟨rfl, _, H⟩
  | false =>
  have HSZ := Lib.hid (hsz rfl)
  clear hsz
  go_enter Try.func4, Try.ntmps4
  go_wp2_with (first
    | (go_at_call 23; (refine (large_c (ts := ts) H HN.out HTR.out HLQ.out HLR.out).mono ?_; rintro e w1 ⟨rfl, H1⟩; clear H; have H := H1; clear H1))
    | (go_at_call 12; (refine (New_spec (Hg.of H)).mono ?_; rintro e w1 ⟨p, rfl, hP⟩))
    | (go_at_call 13; (refine (rNew_pl hP).mono ?_; rintro e w1 ⟨q, rfl, h1⟩; clear hP; have hP := h1; clear h1))
    | ((with_reducible refine gLd ?_); refine eLd H rfl rfl ?_; first | ((repeat ((with_reducible refine gEx ?_); first | (refine kLd 0 rfl rfl (by exact TT _ rfl) rfl ?_) | (refine kLdA 0 rfl rfl (by exact TT _ rfl) (Nat.le_of_ble_eq_true rfl) (by simp only [Nd.cells, Nd.zero, LS2]; rfl) ?_) | (refine nxL ?_))); fail_if_success (with_reducible refine gEx ?_)))
    | ((with_reducible refine gSt ?_); (first | (refine eSt H rfl rfl ⟨.int _ _, rfl, ?_⟩) | (refine eSt H rfl rfl ⟨.bool _, rfl, ?_⟩) | (refine eSt H rfl rfl ⟨.slice _ _ _, rfl, ?_⟩) | (refine eSt H rfl rfl ⟨.pointer _, rfl, ?_⟩) | (refine eSt H rfl rfl ⟨.string _, rfl, ?_⟩) | (refine eSt H rfl rfl ⟨.agg (List.toArray _), rfl, ?_⟩)); (first | ((repeat ((with_reducible refine gES ?_); first | (refine kSt 0 rfl rfl (by exact TT _ rfl) rfl (Nat.le_of_ble_eq_true rfl) ?_) | (refine kStA 0 rfl rfl (by exact TT _ rfl) rfl rfl (Nat.le_of_ble_eq_true rfl) ?_) | (refine nxS ?_))); fail_if_success (with_reducible refine gES ?_))); clear H; intro w1 H; simp only [List.set_cons_zero, List.set_cons_succ] at H; (try simp only [lay, LS1, Nat.reduceAdd] at H))
    | ((with_reducible refine gBx ?_); refine bxA H rfl rfl rfl ?_; clear H; intro b1 w1 H)
    | ((with_reducible refine gBs ?_); (first | (refine bs1 H rfl (by exact SS _ rfl) rfl (Nat.le_of_ble_eq_true rfl) (Nat.le_of_ble_eq_true rfl) rfl ?_) | (refine wl_buildSlice0 rfl (by exact SS _ rfl) H ?_)); clear H; intro b1 w1 H)
    | ((with_reducible refine gEq ?_); (first | (refine wl_cmp rfl rfl rfl rfl ?_) | (refine wl_scmp rfl rfl rfl rfl ?_)); intro rb hrb; cases rb <;> (first | (exfalso; simp at hrb; done) | ((try simp only [CS1, gt_iff_lt, ge_iff_le, ne_eq, Decidable.not_not] at hrb); (try subst hrb); (try (exfalso; omega)))))
    | ((with_reducible refine gRg ?_); refine wp_region_text rfl (by decide +kernel) ?_; replace H := H.drew)
    | ((with_reducible refine EndQ.intro ?_ ?_); (· kernel_rfl)))
  clear H
  go_loopg [5] N (fun g v5 wr => ∃ (k : Nat) (l : List En) (b s d : Option Nat) (cb cs cd : Nat), v5 = .int .i64 (k : Int) ∧ k + g = N ∧ Hid (ofsL (ts.take k) = l) ∧ Pl w0 D [] (eQ q b s d cb cs cd l :: eQn b cb l :: eQs s cs l :: eQd d cd l :: R) p l wr)
  case atStart => exact ⟨0, [], none, none, none, 0, 0, 0, rfl, by omega, Lib.hid rfl, hP⟩
  case round =>
    clear hP
    obtain ⟨k, l, b, s, d, cb, cs, cd, rfl, hkg, HML, hP⟩ := hrel
    have HKG := Lib.hid hkg
    have hof := ofs_ok ts k (by rw [HN.out]; omega)
    rw [HML.out] at hof
    have hst := sizeL_take ts k
    have HWF := Lib.hid hof.1
    have HOK := Lib.hid hof.1.ok
    have HL : Hid (l.length ≤ 65536) := Lib.hid (by have := HSZ.out; omega)
    obtain ⟨mb, a, c, hg⟩ := hP
    obtain ⟨wx, Dx, H, back, bk2⟩ := hg.openX
    clear hg
    by_cases hk : k < N
    · have hkl : k < ts.length := by rw [HN.out]; exact hk
      obtain ⟨y, hx⟩ : ∃ y, ts[k]? = some y := ⟨_, List.getElem?_eq_getElem hkl⟩
      have hys : l.length + y.pt.size ≤ 6000 := by
        rw [ptL_step hx] at hst
        simp only [sizeL] at hst
        have := HSZ.out; omega
      obtain ⟨l2, tm, er, hof2⟩ : ∃ l2 tm er, ofE l y.pt = (l2, tm, er) := ⟨_, _, _, rfl⟩
      have hng : (looksT y.pt 0 0).1 = 0 → (growT y.pt l).2.2 = 0 := grow_ok' hof.1 (by omega)
      have hwf2 := ofE_wf (t := y.pt) hof.1
      rw [hof2] at hwf2
      obtain ⟨mm, e1, e2⟩ := ofE_len l y.pt
      rw [hof2] at e1
      dsimp only at e1 hwf2
      have HL2 : Hid (l2.length ≤ 65536) := Lib.hid (by rw [e1, List.length_append]; omega)
      have HWF2 := Lib.hid hwf2
      have HML2 : Hid (ofsL (ts.take (k + 1)) = l2) := Lib.hid (by rw [take_snocT hx, ofsL_snoc, HML.out, hof2])
      have HE := Lib.hid (rowsT_at hx)
      have HSY : Hid (y.pt.size ≤ 6000) := Lib.hid (by omega)
      obtain ⟨xb, xo, rfl, hO⟩ := (HX.out.rd R).some_of (by rw [rowsT_length]; omega)
      have HYR := Lib.hid ((HTA.out y (List.mem_of_getElem? hx)).rd R)
      have HTY := Lib.hid (TrR.down bk2 (HYR.out.push [eP p mb a c l, eE a c l, eQ q b s d cb cs cd l, eQn b cb l, eQs s cs l, eQd d cd l]))
      have HOF := Lib.hid hof2
      have HNG := Lib.hid hng
      clear hkg hst hof hx hng hof2 hys hkl e1 e2 hwf2 HWF HML
      go_wp2_with (first
          | ((with_reducible refine gLd ?_); refine wl_loadR (agg := true) (n := 6) (hO [_, _, _, _, _, _] _ (bk2 _ _ H)) rfl rfl (by first | rfl | omega) T50 HE.out ?_)
          | (go_at_call 24; (refine (Lent_spec y _ H HTY.out HSY.out).mono ?_; rintro e w1 ⟨⟨zk, zf, zd, zn, zt, za, zc, zs⟩, N1, rfl, hpt, htw, H1⟩; have HPT := Lib.hid hpt; have HTW := Lib.hid htw; have HOF2 : Hid (ofE l (Tr.pt (.mk zk zf zd zn zt za zc zs)) = (l2, tm, er)) := Lib.hid (by rw [HPT.out]; exact HOF.out); have HNG2 : Hid ((looksT (Tr.pt (.mk zk zf zd zn zt za zc zs)) 0 0).1 = 0 → (growT (Tr.pt (.mk zk zf zd zn zt za zc zs)) l).2.2 = 0) := Lib.hid (by rw [HPT.out]; exact HNG.out); clear hpt htw H; have H := Hp.swap (A := N1) (B := [_, _, _, _, _, _]) H1; clear H1; simp only [List.cons_append, List.nil_append] at H; (try simp only [Tr.cells])))
          | ((with_reducible refine gAl ?_); refine al H Z50 rfl rfl ?_; clear H; intro b6 w1 H)
          | (go_at_call 25; (refine (Of_spec (L := ⟨some b6, [.int .i64 zk, .int .i64 zf, .int .i64 zd, .int .u64 zn, .string zt, .slice za zs.length zc], 50, 6⟩ :: eQ q b s d cb cs cd l :: eQn b cb l :: eQs s cs l :: eQd d cd l :: (N1 ++ R)) (t := (.mk zk zf zd zn zt za zc zs)) ⟨mb, a, c, back _ _ (Hp.swap (A := [_]) (B := [_, _]) H)⟩ (((HTW.out.right R).push [⟨some b6, [.int .i64 zk, .int .i64 zf, .int .i64 zd, .int .u64 zn, .string zt, .slice za zs.length zc], 50, 6⟩, eQ q b s d cb cs cd l, eQn b cb l, eQs s cs l, eQd d cd l]) w0 D) HL.out HOK.out HOF2.out HNG2.out).mono ?_; rintro e w1 ⟨rfl, h1⟩; clear H back bk2; obtain ⟨mb, a, c, hg⟩ := h1; obtain ⟨wz, Dz, H, back, bk2⟩ := hg.openX; clear hg; replace H := Hp.swap (A := [_, _, _]) (B := [_, _, _, _]) H; simp only [List.cons_append, List.nil_append] at H))
          | ((with_reducible refine gLd ?_); refine wl_loadR (agg := true) (n := 6) (hO (_ :: _ :: _ :: _ :: _ :: _ :: _ :: N1) _ (bk2 _ _ H)) rfl rfl (by first | rfl | omega) T50 HE.out ?_)
          | (go_at_call 26; (refine (rOf_spec (t := y) H (TrR.down bk2 (HYR.out.push (_ :: _ :: _ :: N1))) HL.out HOK.out HOF.out HNG.out).mono ?_; rintro e w1 ⟨b, s, d, cb, cs, cd, rfl, H1⟩; clear H; have H := H1; clear H1; have HPLR : Hid (PlR (eQ q b s d cb cs cd l2 :: eQn b cb l2 :: eQs s cs l2 :: eQd d cd l2 :: eP p mb a c l2 :: eE a c l2 :: ⟨some b6, [.int .i64 zk, .int .i64 zf, .int .i64 zd, .int .u64 zn, .string zt, .slice za zs.length zc], 50, 6⟩ :: (N1 ++ R)) p l2) := Lib.hid ⟨mb, a, c, 4, 5, rfl, rfl⟩; have HPLQ : Hid (PlQ (eQ q b s d cb cs cd l2 :: eQn b cb l2 :: eQs s cs l2 :: eQd d cd l2 :: eP p mb a c l2 :: eE a c l2 :: ⟨some b6, [.int .i64 zk, .int .i64 zf, .int .i64 zd, .int .u64 zn, .string zt, .slice za zs.length zc], 50, 6⟩ :: (N1 ++ R)) q l2) := Lib.hid ⟨b, s, d, cb, cs, cd, 0, 1, rfl, rfl⟩))
          | ((with_reducible refine gRg ?_); refine wp_region_B (fun u => Hp wz Dz (eQ q b s d cb cs cd l2 :: eQn b cb l2 :: eQs s cs l2 :: eQd d cd l2 :: eP p mb a c l2 :: eE a c l2 :: ⟨some b6, [.int .i64 zk, .int .i64 zf, .int .i64 zd, .int .u64 zn, .string zt, .slice za zs.length zc], 50, 6⟩ :: (N1 ++ R)) u) rfl ?_; replace H := H.drew; (refine bTakeL 0 rfl (by decide +kernel) H rfl (by intro u hu; go_simp; rfl) ?_; (try simp only [Act.put, List.setIfInBounds_toArray, List.set_cons_succ, List.set_cons_zero])); (refine bTakeL 1 rfl (by decide +kernel) H rfl (by intro u hu; go_simp; rfl) ?_; (try simp only [Act.put, List.setIfInBounds_toArray, List.set_cons_succ, List.set_cons_zero])); (refine bTakeL 2 rfl (by decide +kernel) H rfl (fun u _ => run_cmp (r := false) rfl rfl (by simp [cmpB])) ?_; (try simp only [Act.put, List.setIfInBounds_toArray, List.set_cons_succ, List.set_cons_zero])); (refine bTakeL 3 rfl (by decide +kernel) H rfl (by intro u hu; go_simp; rfl) ?_; (try simp only [Act.put, List.setIfInBounds_toArray, List.set_cons_succ, List.set_cons_zero])); (refine bTakeL 4 rfl (by decide +kernel) H rfl (by intro u hu; go_simp; rfl) ?_; (try simp only [Act.put, List.setIfInBounds_toArray, List.set_cons_succ, List.set_cons_zero])); (refine bTakeL 6 rfl (by decide +kernel) H rfl (by intro u hu; go_simp; rfl) ?_; (try simp only [Act.put, List.setIfInBounds_toArray, List.set_cons_succ, List.set_cons_zero])); (refine bOneL 5 (by decide +kernel) rfl rfl ?_); (intro K hK; go_simp; go_at_call 18; refine (num_spec H er).mono ?_; rintro e w1 ⟨rfl, H1⟩; clear H; have H := H1; clear H1; (try simp only []); refine hK _ _ H ?_; clear hK K; (try simp only [Act.put, List.setIfInBounds_toArray, List.set_cons_succ, List.set_cons_zero]); (refine bTakeL 7 rfl (by decide +kernel) H rfl (fun u _ => run_cmp (r := false) rfl rfl (by simp [cmpB])) ?_; (try simp only [Act.put, List.setIfInBounds_toArray, List.set_cons_succ, List.set_cons_zero])); (refine bTakeL 8 rfl (by decide +kernel) H rfl (by intro u hu; go_simp; rfl) ?_; (try simp only [Act.put, List.setIfInBounds_toArray, List.set_cons_succ, List.set_cons_zero])); (refine bTakeL 9 rfl (by decide +kernel) H rfl (by intro u hu; go_simp; rfl) ?_; (try simp only [Act.put, List.setIfInBounds_toArray, List.set_cons_succ, List.set_cons_zero])); (refine bTakeL 10 rfl (by decide +kernel) H rfl (fun u hu => run_ldA 6 hu rfl rfl rfl T50 (Nat.le_of_ble_eq_true rfl) rfl) ?_; (try simp only [Act.put, List.setIfInBounds_toArray, List.set_cons_succ, List.set_cons_zero])); (refine bTakeL 11 rfl (by decide +kernel) H rfl (by intro u hu; go_simp; rfl) ?_; (try simp only [Act.put, List.setIfInBounds_toArray, List.set_cons_succ, List.set_cons_zero])); (refine bTakeL 12 rfl (by decide +kernel) H rfl (by intro u hu; go_simp; rfl) ?_; (try simp only [Act.put, List.setIfInBounds_toArray, List.set_cons_succ, List.set_cons_zero])); (refine bTakeL 13 rfl (by decide +kernel) H rfl (by intro u hu; go_simp; first | rfl | (rw [if_pos (by omega)]; done) | (rw [if_pos (by omega)]; rfl)) ?_; (try simp only [Act.put, List.setIfInBounds_toArray, List.set_cons_succ, List.set_cons_zero])); (refine bTakeL 14 rfl (by decide +kernel) H rfl (fun u hu => run_ldRA (hO (_ :: _ :: _ :: _ :: _ :: _ :: _ :: N1) _ (bk2 _ _ hu)) rfl (by first | rfl | omega) T50 HE.out) ?_; (try simp only [Act.put, List.setIfInBounds_toArray, List.set_cons_succ, List.set_cons_zero])); (refine bOneL 15 (by decide +kernel) rfl rfl ?_); (intro K hK; go_simp; go_at_call 27; refine (Same_spec (r := true) (.mk zk zf zd zn zt za zc zs) y _ H (((HTW.out.right R).push (_ :: _ :: _ :: _ :: _ :: _ :: [_])) _ _) (TrR.down bk2 (HYR.out.push (_ :: _ :: _ :: _ :: _ :: _ :: _ :: N1))) (by rw [HPT.out]; exact Pt.beq_rfl _)).mono ?_; rintro e w1 ⟨rfl, H1⟩; clear H; have H := H1; clear H1; (try simp only []); refine hK _ _ H ?_; clear hK K; (try simp only [Act.put, List.setIfInBounds_toArray, List.set_cons_succ, List.set_cons_zero]); (refine bTakeL 16 rfl (by decide +kernel) H rfl (by intro u hu; go_simp; rfl) ?_; (try simp only [Act.put, List.setIfInBounds_toArray, List.set_cons_succ, List.set_cons_zero])); (refine bTakeL 17 rfl (by decide +kernel) H rfl (by intro u hu; go_simp; rfl) ?_; (try simp only [Act.put, List.setIfInBounds_toArray, List.set_cons_succ, List.set_cons_zero])); (refine bTakeL 18 rfl (by decide +kernel) H rfl (by intro u hu; go_simp; rfl) ?_; (try simp only [Act.put, List.setIfInBounds_toArray, List.set_cons_succ, List.set_cons_zero])); (refine bTakeL 19 rfl (by decide +kernel) H rfl (by intro u hu; go_simp; rfl) ?_; (try simp only [Act.put, List.setIfInBounds_toArray, List.set_cons_succ, List.set_cons_zero])); (refine bTakeL 20 rfl (by decide +kernel) H rfl (by intro u hu; go_simp; rfl) ?_; (try simp only [Act.put, List.setIfInBounds_toArray, List.set_cons_succ, List.set_cons_zero])); (refine bTakeL 22 rfl (by decide +kernel) H rfl (by intro u hu; go_simp; rfl) ?_; (try simp only [Act.put, List.setIfInBounds_toArray, List.set_cons_succ, List.set_cons_zero])); (refine bTakeL 23 rfl (by decide +kernel) H rfl (by intro u hu; go_simp; rfl) ?_; (try simp only [Act.put, List.setIfInBounds_toArray, List.set_cons_succ, List.set_cons_zero])); (refine bOneL 21 (by decide +kernel) rfl rfl ?_); (intro K hK; go_simp; go_at_call 28; refine (Tree_spec HL2.out HWF2.out _ _ _ (Nat.le_refl _) H HPLR.out).mono ?_; rintro e w1 ⟨t1, X1, rfl, hpt1, htw1, H1⟩; clear H; have H := H1; clear H1; (try simp only []); refine hK _ _ H.dropL ?_; clear hK K; (try simp only [Act.put, List.setIfInBounds_toArray, List.set_cons_succ, List.set_cons_zero]); (refine bOneL 24 (by decide +kernel) rfl rfl ?_); (intro K hK; go_simp; go_at_call 29; refine (rTree_spec HL2.out HWF2.out _ _ _ (Nat.le_refl _) H (HPLQ.out.push X1)).mono ?_; rintro e w1 ⟨t2, X2, rfl, hpt2, htw2, H1⟩; clear H; have H := H1; clear H1; (try simp only []); refine hK _ _ H.dropL.dropL ?_; clear hK K; (try simp only [Act.put, List.setIfInBounds_toArray, List.set_cons_succ, List.set_cons_zero]); (refine bOneL 25 (by decide +kernel) rfl rfl ?_); (intro K hK; go_simp; go_at_call 27; refine (Same_spec (r := true) t1 t2 _ H (((htw1.right _).push X2) _ _) ((htw2.right _) _ _) (by rw [hpt1, hpt2]; exact Pt.beq_rfl _)).mono ?_; rintro e w1 ⟨rfl, H1⟩; clear H; have H := H1; clear H1; (try simp only []); refine hK _ _ H.dropL.dropL ?_; clear hK K; (try simp only [Act.put, List.setIfInBounds_toArray, List.set_cons_succ, List.set_cons_zero]); (refine bTakeL 26 rfl (by decide +kernel) H.dropL.dropL rfl (by intro u hu; go_simp; rfl) ?_; (try simp only [Act.put, List.setIfInBounds_toArray, List.set_cons_succ, List.set_cons_zero])); (refine bTakeL 27 rfl (by decide +kernel) H.dropL.dropL rfl (by intro u hu; go_simp; rfl) ?_; (try simp only [Act.put, List.setIfInBounds_toArray, List.set_cons_succ, List.set_cons_zero])); (refine bDone (by decide +kernel) ?_); (replace H := H.dropL.dropL)))))))
          | ((with_reducible refine gLd ?_); refine eLd H rfl rfl ?_; first | ((repeat ((with_reducible refine gEx ?_); first | (refine kLd 0 rfl rfl (by exact TT _ rfl) rfl ?_) | (refine kLdA 0 rfl rfl (by exact TT _ rfl) (Nat.le_of_ble_eq_true rfl) (by simp only [Nd.cells, Nd.zero, LS2]; rfl) ?_) | (refine nxL ?_))); fail_if_success (with_reducible refine gEx ?_)))
          | ((with_reducible refine gSt ?_); (first | (refine eSt H rfl rfl ⟨.int _ _, rfl, ?_⟩) | (refine eSt H rfl rfl ⟨.bool _, rfl, ?_⟩) | (refine eSt H rfl rfl ⟨.slice _ _ _, rfl, ?_⟩) | (refine eSt H rfl rfl ⟨.pointer _, rfl, ?_⟩) | (refine eSt H rfl rfl ⟨.string _, rfl, ?_⟩) | (refine eSt H rfl rfl ⟨.agg (List.toArray _), rfl, ?_⟩)); (first | ((repeat ((with_reducible refine gES ?_); first | (refine kSt 0 rfl rfl (by exact TT _ rfl) rfl (Nat.le_of_ble_eq_true rfl) ?_) | (refine kStA 0 rfl rfl (by exact TT _ rfl) rfl rfl (Nat.le_of_ble_eq_true rfl) ?_) | (refine nxS ?_))); fail_if_success (with_reducible refine gES ?_))); clear H; intro w1 H; simp only [List.set_cons_zero, List.set_cons_succ] at H; (try simp only [lay, LS1, Nat.reduceAdd] at H))
          | ((with_reducible refine gBx ?_); refine bxA H rfl rfl rfl ?_; clear H; intro b1 w1 H)
          | ((with_reducible refine gBs ?_); (first | (refine bs1 H rfl (by exact SS _ rfl) rfl (Nat.le_of_ble_eq_true rfl) (Nat.le_of_ble_eq_true rfl) rfl ?_) | (refine wl_buildSlice0 rfl (by exact SS _ rfl) H ?_)); clear H; intro b1 w1 H)
          | ((with_reducible refine gEq ?_); (first | (refine wl_cmp rfl rfl rfl rfl ?_) | (refine wl_scmp rfl rfl rfl rfl ?_)); intro rb hrb; cases rb <;> (first | (exfalso; simp at hrb; done) | ((try simp only [CS1, gt_iff_lt, ge_iff_le, ne_eq, Decidable.not_not] at hrb); (try subst hrb); (try (exfalso; omega)))))
          | ((with_reducible refine gRg ?_); refine wp_region_text rfl (by decide +kernel) ?_; replace H := H.drew)
          | ((with_reducible refine EndQ.intro ?_ ?_); (· kernel_rfl)))
      all_goals
        go_roundg (gk - 1)
        case measure => have := HKG.out; omega
        case rel => exact ⟨k + 1, l2, b, s, d, cb, cs, cd, by go_num, by have := HKG.out; omega, HML2, mb, a, c, back _ _ (Hp.keptN (M := [_, _, _, _, _, _]) (N := N1) ((Hp.swap (A := [_, _, _, _]) (B := [_, _]) H).dropAt 6))⟩
    · obtain rfl : N = k := by omega
      clear hkg hst hof HML
      go_wp2_with (first
          | (go_at_call 20; ((refine (alike_spec H HL.out).mono ?_); rintro e w1 ⟨rfl, H1⟩; clear H; have H := H1; clear H1))
          | (go_at_call 28; (refine (Tree_spec HL.out HWF.out 0 _ 0 (Nat.le_refl _) H ⟨mb, a, c, 0, 1, rfl, rfl⟩).mono ?_; rintro e w1 ⟨t1, X1, rfl, hpt1, htw1, H1⟩; clear H; have H := H1; clear H1))
          | (go_at_call 27; (refine (Same_spec (r := true) t1 (.mk 0 0 0 0 ⟨#[]⟩ none 0 []) _ H ((htw1.right _) _ _) (.mk (.inl rfl) (Nat.le_refl _) (Nat.zero_le _) (by simp)) (zero_same hpt1)).mono ?_; rintro e w1 ⟨rfl, H1⟩; clear H; have H := H1; clear H1))
          | (go_at_call 11; ((refine (live_hp H).mono ?_); rintro e w1 ⟨rfl, H1⟩; clear H; have H := H1; clear H1))
          | ((with_reducible refine gLd ?_); refine eLd H rfl rfl ?_; first | ((repeat ((with_reducible refine gEx ?_); first | (refine kLd 0 rfl rfl (by exact TT _ rfl) rfl ?_) | (refine kLdA 0 rfl rfl (by exact TT _ rfl) (Nat.le_of_ble_eq_true rfl) (by simp only [Nd.cells, Nd.zero, LS2]; rfl) ?_) | (refine nxL ?_))); fail_if_success (with_reducible refine gEx ?_)))
          | ((with_reducible refine gSt ?_); (first | (refine eSt H rfl rfl ⟨.int _ _, rfl, ?_⟩) | (refine eSt H rfl rfl ⟨.bool _, rfl, ?_⟩) | (refine eSt H rfl rfl ⟨.slice _ _ _, rfl, ?_⟩) | (refine eSt H rfl rfl ⟨.pointer _, rfl, ?_⟩) | (refine eSt H rfl rfl ⟨.string _, rfl, ?_⟩) | (refine eSt H rfl rfl ⟨.agg (List.toArray _), rfl, ?_⟩)); (first | ((repeat ((with_reducible refine gES ?_); first | (refine kSt 0 rfl rfl (by exact TT _ rfl) rfl (Nat.le_of_ble_eq_true rfl) ?_) | (refine kStA 0 rfl rfl (by exact TT _ rfl) rfl rfl (Nat.le_of_ble_eq_true rfl) ?_) | (refine nxS ?_))); fail_if_success (with_reducible refine gES ?_))); clear H; intro w1 H; simp only [List.set_cons_zero, List.set_cons_succ] at H; (try simp only [lay, LS1, Nat.reduceAdd] at H))
          | ((with_reducible refine gBx ?_); refine bxA H rfl rfl rfl ?_; clear H; intro b1 w1 H)
          | ((with_reducible refine gBs ?_); (first | (refine bs1 H rfl (by exact SS _ rfl) rfl (Nat.le_of_ble_eq_true rfl) (Nat.le_of_ble_eq_true rfl) rfl ?_) | (refine wl_buildSlice0 rfl (by exact SS _ rfl) H ?_)); clear H; intro b1 w1 H)
          | ((with_reducible refine gEq ?_); (first | (refine wl_cmp rfl rfl rfl rfl ?_) | (refine wl_scmp rfl rfl rfl rfl ?_)); intro rb hrb; cases rb <;> (first | (exfalso; simp at hrb; done) | ((try simp only [CS1, gt_iff_lt, ge_iff_le, ne_eq, Decidable.not_not] at hrb); (try subst hrb); (try (exfalso; omega)))))
          | ((with_reducible refine gRg ?_); refine wp_region_text rfl (by decide +kernel) ?_; replace H := H.drew)
          | ((with_reducible refine EndQ.intro ?_ ?_); (· kernel_rfl)))
      go_ret
      exact ⟨rfl, _, bk2 _ _ H⟩
end Go.Proofs.Ytebecelhcpljaaa
