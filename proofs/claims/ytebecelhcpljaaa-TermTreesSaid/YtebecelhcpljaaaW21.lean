/- Trees: what is looked at. -/
import Derived.Test.YtebecelhcpljaaaW19
import Derived.Test.YtebecelhcpljaaaW20
import Derived.Deep.Cut
import Derived.WalkKit
import Derived.Lib.Hide
import Derived.Deep.LoopGhost
import Derived.WalkSpells
set_option linter.unusedVariables false
set_option linter.unusedSimpArgs false
namespace Go.Proofs.Ytebecelhcpljaaa
open Go.RowKit Go.Gx Go.Gx.Trm
set_option maxRecDepth 100000
set_option maxHeartbeats 4000000 in
theorem nodeOf_spec {w0 w : World} {D : Nat → Prop} {R : List Ent} {xk xf xd xn : Int} {xt : ByteArray} {xa : Option Addr} {N xc : Nat} (H : Hp w0 D (R) w)  :
    Calls Try.prog 75 #[.agg (List.toArray [.int .i64 xk, .int .i64 xf, .int .i64 xd, .int .u64 xn, .string xt, .slice xa N xc])] w fun e w' => e = .returned (.agg (Nd.cells ⟨xk, xf, xd, xn, xt, 0, 0⟩).toArray) ∧ Hp w0 D (R) w' := by
  all_goals (try simp only [Nd.cells, Nd.zero] at H)
  all_goals (try simp only [Nd.cells, Nd.zero])
  all_goals go_enter Try.func75, Try.ntmps75
  go_wp2_with (first
    | ((with_reducible refine gLd ?_); refine eLd H rfl rfl ?_; first | ((repeat ((with_reducible refine gEx ?_); first | (refine kLd 0 rfl rfl (by exact TT _ rfl) rfl ?_) | (refine kLdA 0 rfl rfl (by exact TT _ rfl) (Nat.le_of_ble_eq_true rfl) (by simp only [Nd.cells, Nd.zero, LS2]; rfl) ?_) | (refine nxL ?_))); fail_if_success (with_reducible refine gEx ?_)))
    | ((with_reducible refine gSt ?_); (first | (refine eSt H rfl rfl ⟨.int _ _, rfl, ?_⟩) | (refine eSt H rfl rfl ⟨.bool _, rfl, ?_⟩) | (refine eSt H rfl rfl ⟨.slice _ _ _, rfl, ?_⟩) | (refine eSt H rfl rfl ⟨.pointer _, rfl, ?_⟩) | (refine eSt H rfl rfl ⟨.string _, rfl, ?_⟩) | (refine eSt H rfl rfl ⟨.agg (List.toArray _), rfl, ?_⟩)); (first | ((repeat ((with_reducible refine gES ?_); first | (refine kSt 0 rfl rfl (by exact TT _ rfl) rfl (Nat.le_of_ble_eq_true rfl) ?_) | (refine kStA 0 rfl rfl (by exact TT _ rfl) rfl rfl (Nat.le_of_ble_eq_true rfl) ?_) | (refine nxS ?_))); fail_if_success (with_reducible refine gES ?_))); clear H; intro w1 H; simp only [List.set_cons_zero, List.set_cons_succ] at H; (try simp only [lay, LS1, Nat.reduceAdd] at H))
    | ((with_reducible refine gBx ?_); refine bxA H rfl rfl rfl ?_; clear H; intro b1 w1 H)
    | ((with_reducible refine gAl ?_); (first | (refine al H Z33 rfl rfl ?_) | (refine al H Z110 rfl rfl ?_)); clear H; intro b1 w1 H))
  refine ret_c 0 H rfl rfl rfl rfl rfl T33 (Nat.le_of_ble_eq_true rfl) rfl ⟨rfl, H.drop.drop⟩
set_option maxHeartbeats 4000000 in
theorem rnode_spec {w0 w : World} {D : Nat → Prop} {R : List Ent} {xk xf xd xn : Int} {xt : ByteArray} {xa : Option Addr} {N xc : Nat} (H : Hp w0 D (R) w)  :
    Calls Try.prog 79 #[.agg (List.toArray [.int .i64 xk, .int .i64 xf, .int .i64 xd, .int .u64 xn, .string xt, .slice xa N xc])] w fun e w' => e = .returned (.agg (Nd.cells ⟨xk, xf, xd, xn, xt, 0, 0⟩).toArray) ∧ Hp w0 D (R) w' := by
  all_goals (try simp only [Nd.cells, Nd.zero] at H)
  all_goals (try simp only [Nd.cells, Nd.zero])
  all_goals go_enter Try.func79, Try.ntmps79
  go_wp2_with (first
    | ((with_reducible refine gLd ?_); refine eLd H rfl rfl ?_; first | ((repeat ((with_reducible refine gEx ?_); first | (refine kLd 0 rfl rfl (by exact TT _ rfl) rfl ?_) | (refine kLdA 0 rfl rfl (by exact TT _ rfl) (Nat.le_of_ble_eq_true rfl) (by simp only [Nd.cells, Nd.zero, LS2]; rfl) ?_) | (refine nxL ?_))); fail_if_success (with_reducible refine gEx ?_)))
    | ((with_reducible refine gSt ?_); (first | (refine eSt H rfl rfl ⟨.int _ _, rfl, ?_⟩) | (refine eSt H rfl rfl ⟨.bool _, rfl, ?_⟩) | (refine eSt H rfl rfl ⟨.slice _ _ _, rfl, ?_⟩) | (refine eSt H rfl rfl ⟨.pointer _, rfl, ?_⟩) | (refine eSt H rfl rfl ⟨.string _, rfl, ?_⟩) | (refine eSt H rfl rfl ⟨.agg (List.toArray _), rfl, ?_⟩)); (first | ((repeat ((with_reducible refine gES ?_); first | (refine kSt 0 rfl rfl (by exact TT _ rfl) rfl (Nat.le_of_ble_eq_true rfl) ?_) | (refine kStA 0 rfl rfl (by exact TT _ rfl) rfl rfl (Nat.le_of_ble_eq_true rfl) ?_) | (refine nxS ?_))); fail_if_success (with_reducible refine gES ?_))); clear H; intro w1 H; simp only [List.set_cons_zero, List.set_cons_succ] at H; (try simp only [lay, LS1, Nat.reduceAdd] at H))
    | ((with_reducible refine gBx ?_); refine bxA H rfl rfl rfl ?_; clear H; intro b1 w1 H)
    | ((with_reducible refine gAl ?_); (first | (refine al H Z33 rfl rfl ?_) | (refine al H Z110 rfl rfl ?_)); clear H; intro b1 w1 H))
  refine ret_c 0 H rfl rfl rfl rfl rfl T33 (Nat.le_of_ble_eq_true rfl) rfl ⟨rfl, H.drop.drop⟩
abbrev eI (b : Nat) (n : Int) : Ent := ⟨some b, [.int .i64 n], 3, 1⟩
theorem plain_c {w0 w : World} {D : Nat → Prop} {R : List Ent} {n : Nd} {f t u x : Bool} {kd e9 : Int} (H : Hp w0 D R w) (hs : shRow n.kind = [.bool f, .bool t, .bool u, .bool x, .int .i64 kd]) (he : plainE n = e9) :
    Calls Try.prog 76 #[.agg n.cells.toArray] w fun e w' => e = .returned (.tuple #[.agg (List.toArray [.bool f, .bool t, .bool u, .bool x, .int .i64 kd]), .int .i64 e9]) ∧ Hp w0 D R w' := by
  rw [← hs, ← he]; exact plain_spec H n
def LkP (w0 : World) (D : Nat → Prop) (R : List Ent) (b : Nat) (er sn : Int) (e : Ending) (w' : World) : Prop := e = .returned (.int .i64 er) ∧ Hp w0 D (eI b sn :: R) w'
/-- what the loop over the kids still finds -/
def lkE (e : Int) (ks : List Pt) (ins sn : Int) : Int × Int := if e = 0 then looksL ks ins sn else (e, sn)
theorem lkE_end {e ins sn : Int} : lkE e [] ins sn = (e, sn) := by unfold lkE; split <;> simp_all [looksL]
theorem lkE_no {e ins sn : Int} {ks : List Pt} (h : ¬ e = 0) : lkE e ks ins sn = (e, sn) := by unfold lkE; rw [if_neg h]
theorem lkE_step {x : Pt} {xs : List Pt} {ins sn q z : Int} (h : looksT x ins sn = (q, z)) : lkE 0 (x :: xs) ins sn = lkE q xs ins z := by
  simp only [lkE, if_true, looksL, h]
set_option maxHeartbeats 16000000 in
theorem looks_spec {w0 : World} {D : Nat → Prop} : ∀ (t : Tr), ∀ {R : List Ent} (w : World) (b : Nat) {ins sn er s2 : Int}, Hp w0 D (eI b sn :: R) w → TrR w0 D R t → 0 ≤ ins → ins ≤ 64 → 0 ≤ sn → sn ≤ 4096 → looksT t.pt ins sn = (er, s2) →
    Calls Try.prog 55 #[.agg t.cells.toArray, .int .i64 ins, .pointer (some ⟨b, 0, none⟩)] w fun e w' => LkP w0 D R b er s2 e w' := by
  intro t
  induction t using Tr.ind with
  | h t ih =>
  obtain ⟨xk, xf, xd, xn, xt, xa, xc, ks⟩ := t
  intro R w b ins sn er s2 H ht hi0 hi1 hs0 hs1 hr
  cases ht with
  | mk hrd hc hle hks =>
  simp only [Tr.pt, looksT, ptL_len] at hr
  obtain ⟨N, hN⟩ : ∃ N, ks.length = N := ⟨_, rfl⟩
  have HN := Lib.hid hN
  have HRD := Lib.hid hrd
  have HS := Lib.hid hks
  simp only [Tr.cells]
  rw [hN] at hc hle hr ⊢
  clear hN hrd hks
  by_cases h1 : 4096 ≤ sn ∨ 64 ≤ ins
  · rw [if_pos h1] at hr
    simp only [Prod.mk.injEq] at hr
    obtain ⟨rfl, rfl⟩ := hr
    rcases (show 4096 ≤ sn ∨ (¬ 4096 ≤ sn ∧ 64 ≤ ins) by omega) with h2 | ⟨h2, h3⟩
    all_goals clear h1
    all_goals go_enter Try.func55, Try.ntmps55
    all_goals go_wp2_with (first
    | ((with_reducible refine gLd ?_); refine eLd H rfl rfl ?_; first | ((repeat ((with_reducible refine gEx ?_); first | (refine kLd 0 rfl rfl (by exact TT _ rfl) rfl ?_) | (refine kLdA 0 rfl rfl (by exact TT _ rfl) (Nat.le_of_ble_eq_true rfl) (by simp only [Nd.cells, Nd.zero, LS2]; rfl) ?_) | (refine nxL ?_))); fail_if_success (with_reducible refine gEx ?_)))
    | ((with_reducible refine gBx ?_); refine bxA H rfl rfl rfl ?_; clear H; intro b1 w1 H)
    | ((with_reducible refine gEq ?_); (first | (refine wl_cmp rfl rfl rfl rfl ?_) | (refine wl_scmp rfl rfl rfl rfl ?_)); intro rb hrb; cases rb <;> (first | (exfalso; simp at hrb; done) | ((try simp only [CS1, gt_iff_lt, ge_iff_le, ne_eq, Decidable.not_not] at hrb); (try subst hrb); (try (exfalso; omega))))))
    all_goals go_ret
    all_goals exact ⟨rfl, H.drop⟩
  rw [if_neg h1] at hr
  have h1a : sn < 4096 := by omega
  have h1b : ins < 64 := by omega
  clear hs1 hi1
  obtain ⟨f, t, u, x, kd, hs, hk0, hk2, _⟩ := sh_cells xk
  have HSH := Lib.hid hs
  cases ho : own ⟨xk, xf, xd, xn, xt, 0, 0⟩ with
  | false =>
    have hhd : headE ⟨xk, xf, xd, xn, xt, 0, 0⟩ N = 53 := by simp [headE, ho]
    rw [hhd] at hr
    rw [if_neg (by decide)] at hr
    have HPE := Lib.hid (plainE_f ho)
    replace hr : lkE 53 (ptL (ks.drop 0)) (ins + 1) (sn + 1) = (er, s2) := by rw [lkE_no (by decide)]; exact hr
    clear ho hhd hs
    go_enter Try.func55, Try.ntmps55
    go_wp2_with (first
      | ((with_reducible refine gBx ?_); first | (refine bxA H rfl rfl rfl ?_; clear H; intro bx w1 H))
      | ((with_reducible refine gAl ?_); first | (refine al H Z33 rfl rfl ?_; clear H; intro bn w1 H) | (refine al H Z110 rfl rfl ?_; clear H; intro bs w1 H))
      | (go_at_call 75; ((refine (nodeOf_spec H).mono ?_); rintro e w1 ⟨rfl, H1⟩; clear H; have H := H1; clear H1; (try simp only [Nd.cells])))
      | (go_at_call 76; ((refine (plain_c (n := ⟨xk, xf, xd, xn, xt, 0, 0⟩) H HSH.out HPE.out).mono ?_); rintro e w1 ⟨rfl, H1⟩; clear H; have H := H1; clear H1))
      | ((with_reducible refine gLd ?_); refine eLd H rfl rfl ?_; first | ((repeat ((with_reducible refine gEx ?_); first | (refine kLd 0 rfl rfl (by exact TT _ rfl) rfl ?_) | (refine kLdA 0 rfl rfl (by exact TT _ rfl) (Nat.le_of_ble_eq_true rfl) (by simp only [Nd.cells, Nd.zero, LS2]; rfl) ?_) | (refine nxL ?_))); fail_if_success (with_reducible refine gEx ?_)))
      | ((with_reducible refine gSt ?_); (first | (refine eSt H rfl rfl ⟨.int _ _, rfl, ?_⟩) | (refine eSt H rfl rfl ⟨.bool _, rfl, ?_⟩) | (refine eSt H rfl rfl ⟨.slice _ _ _, rfl, ?_⟩) | (refine eSt H rfl rfl ⟨.pointer _, rfl, ?_⟩) | (refine eSt H rfl rfl ⟨.string _, rfl, ?_⟩) | (refine eSt H rfl rfl ⟨.agg (List.toArray _), rfl, ?_⟩)); (first | ((repeat ((with_reducible refine gES ?_); first | (refine kSt 0 rfl rfl (by exact TT _ rfl) rfl (Nat.le_of_ble_eq_true rfl) ?_) | (refine kStA 0 rfl rfl (by exact TT _ rfl) rfl rfl (Nat.le_of_ble_eq_true rfl) ?_) | (refine nxS ?_))); fail_if_success (with_reducible refine gES ?_))); clear H; intro w1 H; simp only [List.set_cons_zero, List.set_cons_succ] at H; (try simp only [lay, LS1, Nat.reduceAdd] at H))
      | ((with_reducible refine gEq ?_); (first | (refine wl_cmp rfl rfl rfl rfl ?_) | (refine wl_scmp rfl rfl rfl rfl ?_)); intro rb hrb; cases rb <;> (first | (exfalso; simp at hrb; done) | ((try simp only [CS1, gt_iff_lt, ge_iff_le, ne_eq, Decidable.not_not] at hrb); (try subst hrb); (try (exfalso; omega))))))
    go_loopg [9, 10] N (fun g v9 v10 wr => ∃ (k : Nat) (e9 sn : Int), v9 = .int .i64 e9 ∧ v10 = .int .i64 (k : Int) ∧ k + g = N ∧ Hid (lkE e9 (ptL (ks.drop k)) (ins + 1) sn = (er, s2)) ∧ 0 ≤ sn ∧ sn ≤ 4096 ∧ 0 ≤ e9 ∧ e9 ≤ 53 ∧ Hp w0 D (⟨some bs, [.bool f, .bool t, .bool u, .bool x, .int .i64 kd], 110, 5⟩ :: ⟨some bn, [.int .i64 xk, .int .i64 xf, .int .i64 xd, .int .u64 xn, .string xt, .int .i64 0, .int .i64 0], 33, 7⟩ :: ⟨some bx, [.int .i64 xk, .int .i64 xf, .int .i64 xd, .int .u64 xn, .string xt, .slice xa N xc], 50, 6⟩ :: eI b sn :: R) wr)
    case atStart => exact ⟨0, _, sn + 1, rfl, rfl, by omega, Lib.hid hr, by omega, by omega, by omega, by omega, H⟩
    case round =>
      clear H hr h1
      obtain ⟨k, e9, sn, rfl, rfl, hkg, HR, hs0, hs1, he0, he1, H⟩ := hrel
      have HKG := Lib.hid hkg
      by_cases hk : k < N
      · have hkl : k < ks.length := by rw [HN.out]; exact hk
        obtain ⟨y, hx⟩ : ∃ y, ks[k]? = some y := ⟨_, List.getElem?_eq_getElem hkl⟩
        have hst := HR.out
        rw [ptL_step hx] at hst
        have HE := Lib.hid (rowsT_at hx)
        obtain ⟨xb, xo, rfl, hO⟩ := HRD.out.some_of (by rw [rowsT_length]; omega)
        have HTX := Lib.hid (HS.out y (List.mem_of_getElem? hx))
        have HX : Hid (y ∈ (Tr.mk xk xf xd xn xt (some ⟨xb, xo, none⟩) xc ks).kids) := Lib.hid (List.mem_of_getElem? hx)
        by_cases h9 : e9 = 0
        · subst h9
          obtain ⟨q, z, hq⟩ : ∃ q z, looksT y.pt (ins + 1) sn = (q, z) := ⟨_, _, rfl⟩
          have hb1 := looksT_bd y.pt (ins + 1) sn hs0 hs1
          have hb2 := looksT_er y.pt (ins + 1) sn
          rw [hq] at hb1 hb2
          dsimp only at hb1 hb2
          rw [lkE_step hq] at hst
          have HR2 := Lib.hid hst
          have HPX := Lib.hid hq
          obtain ⟨hb1, hb3⟩ := hb1
          obtain ⟨hb2, hb4⟩ := hb2
          clear hst hx hkg hq hkl HR HRD HS
          go_wp2_with (first
        | ((with_reducible refine gLd ?_); refine wl_loadR (agg := true) (n := 6) (k := k * 6) (hO [_, _, _, _] _ H) rfl rfl (by first | rfl | omega) T50 HE.out ?_)
        | (go_at_call 55; have H2 := Hp.swap (A := [_, _, _]) (B := [_]) H; simp only [List.cons_append, List.nil_append] at H2; (refine (ih y HX.out (R := ⟨some bs, [.bool f, .bool t, .bool u, .bool x, .int .i64 kd], 110, 5⟩ :: ⟨some bn, [.int .i64 xk, .int .i64 xf, .int .i64 xd, .int .u64 xn, .string xt, .int .i64 0, .int .i64 0], 33, 7⟩ :: ⟨some bx, [.int .i64 xk, .int .i64 xf, .int .i64 xd, .int .u64 xn, .string xt, .slice (some ⟨xb, xo, none⟩) N xc], 50, 6⟩ :: R) _ b H2 (HTX.out.push [⟨some bs, [.bool f, .bool t, .bool u, .bool x, .int .i64 kd], 110, 5⟩, ⟨some bn, [.int .i64 xk, .int .i64 xf, .int .i64 xd, .int .u64 xn, .string xt, .int .i64 0, .int .i64 0], 33, 7⟩, ⟨some bx, [.int .i64 xk, .int .i64 xf, .int .i64 xd, .int .u64 xn, .string xt, .slice (some ⟨xb, xo, none⟩) N xc], 50, 6⟩]) (by omega) (by omega) (by omega) (by omega) HPX.out).mono ?_); rintro e w1 ⟨rfl, H1⟩; clear H H2; have H := Hp.swap (A := [_]) (B := [_, _, _]) H1; clear H1; simp only [List.cons_append, List.nil_append] at H)
        | ((with_reducible refine gLd ?_); refine eLd H rfl rfl ?_; first | ((repeat ((with_reducible refine gEx ?_); first | (refine kLd 0 rfl rfl (by exact TT _ rfl) rfl ?_) | (refine kLdA 0 rfl rfl (by exact TT _ rfl) (Nat.le_of_ble_eq_true rfl) (by simp only [Nd.cells, Nd.zero, LS2]; rfl) ?_) | (refine nxL ?_))); fail_if_success (with_reducible refine gEx ?_)))
        | ((with_reducible refine gEq ?_); (first | (refine wl_cmp rfl rfl rfl rfl ?_) | (refine wl_scmp rfl rfl rfl rfl ?_)); intro rb hrb; cases rb <;> (first | (exfalso; simp at hrb; done) | ((try simp only [CS1, gt_iff_lt, ge_iff_le, ne_eq, Decidable.not_not] at hrb); (try subst hrb); (try (exfalso; omega))))))
          go_roundg (gk - 1)
          case measure => have := HKG.out; omega
          case rel => exact ⟨k + 1, q, z, by go_num, by go_num, by have := HKG.out; omega, HR2, by omega, by omega, by omega, by omega, H⟩
        · rw [lkE_no h9] at hst
          simp only [Prod.mk.injEq] at hst
          obtain ⟨rfl, rfl⟩ := hst
          clear hx hkg hkl HR HRD HS
          go_wp2_with (first
        | ((with_reducible refine gLd ?_); refine eLd H rfl rfl ?_; first | ((repeat ((with_reducible refine gEx ?_); first | (refine kLd 0 rfl rfl (by exact TT _ rfl) rfl ?_) | (refine kLdA 0 rfl rfl (by exact TT _ rfl) (Nat.le_of_ble_eq_true rfl) (by simp only [Nd.cells, Nd.zero, LS2]; rfl) ?_) | (refine nxL ?_))); fail_if_success (with_reducible refine gEx ?_)))
        | ((with_reducible refine gEq ?_); (first | (refine wl_cmp rfl rfl rfl rfl ?_) | (refine wl_scmp rfl rfl rfl rfl ?_)); intro rb hrb; cases rb <;> (first | (exfalso; simp at hrb; done) | ((try simp only [CS1, gt_iff_lt, ge_iff_le, ne_eq, Decidable.not_not] at hrb); (try subst hrb); (try (exfalso; omega))))))
          go_ret
          exact ⟨rfl, H.drop.drop.drop⟩
      · have hst := HR.out
        rw [ptL_end (by have := HN.out; omega), lkE_end] at hst
        simp only [Prod.mk.injEq] at hst
        obtain ⟨rfl, rfl⟩ := hst
        clear hkg HR HRD HS
        go_wp2_with (first
        | ((with_reducible refine gLd ?_); refine eLd H rfl rfl ?_; first | ((repeat ((with_reducible refine gEx ?_); first | (refine kLd 0 rfl rfl (by exact TT _ rfl) rfl ?_) | (refine kLdA 0 rfl rfl (by exact TT _ rfl) (Nat.le_of_ble_eq_true rfl) (by simp only [Nd.cells, Nd.zero, LS2]; rfl) ?_) | (refine nxL ?_))); fail_if_success (with_reducible refine gEx ?_)))
        | ((with_reducible refine gEq ?_); (first | (refine wl_cmp rfl rfl rfl rfl ?_) | (refine wl_scmp rfl rfl rfl rfl ?_)); intro rb hrb; cases rb <;> (first | (exfalso; simp at hrb; done) | ((try simp only [CS1, gt_iff_lt, ge_iff_le, ne_eq, Decidable.not_not] at hrb); (try subst hrb); (try (exfalso; omega))))))
        all_goals go_ret
        all_goals exact ⟨rfl, H.drop.drop.drop⟩
  | true =>
    have HPE := Lib.hid (plainE_t ho)
    obtain ⟨hf, ht, hkd⟩ := own_kk ho hs
    by_cases hkN : kd = (N : Int)
    · obtain ⟨e5, he5⟩ : ∃ e5, (if (f && !nm xf) || (t && (!nm xd || xd == xf)) then (50 : Int) else if 64 < xt.size then 1 else 0) = e5 := ⟨_, rfl⟩
      have HFE : Hid ((if (f && !nm (Nd.frm ⟨xk, xf, xd, xn, xt, 0, 0⟩)) || (t && (!nm (Nd.dst ⟨xk, xf, xd, xn, xt, 0, 0⟩) || (Nd.dst ⟨xk, xf, xd, xn, xt, 0, 0⟩) == (Nd.frm ⟨xk, xf, xd, xn, xt, 0, 0⟩))) then (50 : Int) else if 64 < (Nd.text ⟨xk, xf, xd, xn, xt, 0, 0⟩).size then 1 else 0) = e5) := Lib.hid he5
      have hhd : headE ⟨xk, xf, xd, xn, xt, 0, 0⟩ N = e5 := by
        have hcm : (xf == xd) = (xd == xf) := Bool.beq_comm
        have h9 : kidsN xk = (N : Int) := hkd.trans hkN
        unfold headE fieldsE namesE
        simp only [ho, h9, hf, ht, hcm, beq_self_eq_true, Bool.and_self, if_true]
        exact he5
      rw [hhd] at hr
      have hbe : 0 ≤ e5 ∧ e5 ≤ 53 := by rw [← he5]; split <;> (try split) <;> omega
      obtain ⟨hbe1, hbe2⟩ := hbe
      replace hr : lkE e5 (ptL (ks.drop 0)) (ins + 1) (sn + 1) = (er, s2) := hr
      subst hkN
      clear ho hhd hs he5 hf ht hkd
      go_enter Try.func55, Try.ntmps55
      go_wp2_with (first
      | ((with_reducible refine gBx ?_); first | (refine bxA H rfl rfl rfl ?_; clear H; intro bx w1 H))
      | ((with_reducible refine gAl ?_); first | (refine al H Z33 rfl rfl ?_; clear H; intro bn w1 H) | (refine al H Z110 rfl rfl ?_; clear H; intro bs w1 H))
      | (go_at_call 75; ((refine (nodeOf_spec H).mono ?_); rintro e w1 ⟨rfl, H1⟩; clear H; have H := H1; clear H1; (try simp only [Nd.cells])))
      | (go_at_call 76; ((refine (plain_c (n := ⟨xk, xf, xd, xn, xt, 0, 0⟩) H HSH.out HPE.out).mono ?_); rintro e w1 ⟨rfl, H1⟩; clear H; have H := H1; clear H1))
      | (go_at_call 77; ((refine (fields_at (n := ⟨xk, xf, xd, xn, xt, 0, 0⟩) H HFE.out).mono ?_); rintro e w1 ⟨rfl, H1⟩; clear H; have H := H1; clear H1))
      | ((with_reducible refine gLd ?_); refine eLd H rfl rfl ?_; first | ((repeat ((with_reducible refine gEx ?_); first | (refine kLd 0 rfl rfl (by exact TT _ rfl) rfl ?_) | (refine kLdA 0 rfl rfl (by exact TT _ rfl) (Nat.le_of_ble_eq_true rfl) (by simp only [Nd.cells, Nd.zero, LS2]; rfl) ?_) | (refine nxL ?_))); fail_if_success (with_reducible refine gEx ?_)))
      | ((with_reducible refine gSt ?_); (first | (refine eSt H rfl rfl ⟨.int _ _, rfl, ?_⟩) | (refine eSt H rfl rfl ⟨.bool _, rfl, ?_⟩) | (refine eSt H rfl rfl ⟨.slice _ _ _, rfl, ?_⟩) | (refine eSt H rfl rfl ⟨.pointer _, rfl, ?_⟩) | (refine eSt H rfl rfl ⟨.string _, rfl, ?_⟩) | (refine eSt H rfl rfl ⟨.agg (List.toArray _), rfl, ?_⟩)); (first | ((repeat ((with_reducible refine gES ?_); first | (refine kSt 0 rfl rfl (by exact TT _ rfl) rfl (Nat.le_of_ble_eq_true rfl) ?_) | (refine kStA 0 rfl rfl (by exact TT _ rfl) rfl rfl (Nat.le_of_ble_eq_true rfl) ?_) | (refine nxS ?_))); fail_if_success (with_reducible refine gES ?_))); clear H; intro w1 H; simp only [List.set_cons_zero, List.set_cons_succ] at H; (try simp only [lay, LS1, Nat.reduceAdd] at H))
      | ((with_reducible refine gEq ?_); (first | (refine wl_cmp rfl rfl rfl rfl ?_) | (refine wl_scmp rfl rfl rfl rfl ?_)); intro rb hrb; cases rb <;> (first | (exfalso; simp at hrb; done) | ((try simp only [CS1, gt_iff_lt, ge_iff_le, ne_eq, Decidable.not_not] at hrb); (try subst hrb); (try (exfalso; omega))))))
      go_loopg [9, 10] N (fun g v9 v10 wr => ∃ (k : Nat) (e9 sn : Int), v9 = .int .i64 e9 ∧ v10 = .int .i64 (k : Int) ∧ k + g = N ∧ Hid (lkE e9 (ptL (ks.drop k)) (ins + 1) sn = (er, s2)) ∧ 0 ≤ sn ∧ sn ≤ 4096 ∧ 0 ≤ e9 ∧ e9 ≤ 53 ∧ Hp w0 D (⟨some bs, [.bool f, .bool t, .bool u, .bool x, .int .i64 (N : Int)], 110, 5⟩ :: ⟨some bn, [.int .i64 xk, .int .i64 xf, .int .i64 xd, .int .u64 xn, .string xt, .int .i64 0, .int .i64 0], 33, 7⟩ :: ⟨some bx, [.int .i64 xk, .int .i64 xf, .int .i64 xd, .int .u64 xn, .string xt, .slice xa N xc], 50, 6⟩ :: eI b sn :: R) wr)
      case atStart => exact ⟨0, _, sn + 1, rfl, rfl, by omega, Lib.hid hr, by omega, by omega, by omega, by omega, H⟩
      case round =>
        clear H hr h1
        obtain ⟨k, e9, sn, rfl, rfl, hkg, HR, hs0, hs1, he0, he1, H⟩ := hrel
        have HKG := Lib.hid hkg
        by_cases hk : k < N
        · have hkl : k < ks.length := by rw [HN.out]; exact hk
          obtain ⟨y, hx⟩ : ∃ y, ks[k]? = some y := ⟨_, List.getElem?_eq_getElem hkl⟩
          have hst := HR.out
          rw [ptL_step hx] at hst
          have HE := Lib.hid (rowsT_at hx)
          obtain ⟨xb, xo, rfl, hO⟩ := HRD.out.some_of (by rw [rowsT_length]; omega)
          have HTX := Lib.hid (HS.out y (List.mem_of_getElem? hx))
          have HX : Hid (y ∈ (Tr.mk xk xf xd xn xt (some ⟨xb, xo, none⟩) xc ks).kids) := Lib.hid (List.mem_of_getElem? hx)
          by_cases h9 : e9 = 0
          · subst h9
            obtain ⟨q, z, hq⟩ : ∃ q z, looksT y.pt (ins + 1) sn = (q, z) := ⟨_, _, rfl⟩
            have hb1 := looksT_bd y.pt (ins + 1) sn hs0 hs1
            have hb2 := looksT_er y.pt (ins + 1) sn
            rw [hq] at hb1 hb2
            dsimp only at hb1 hb2
            rw [lkE_step hq] at hst
            have HR2 := Lib.hid hst
            have HPX := Lib.hid hq
            obtain ⟨hb1, hb3⟩ := hb1
            obtain ⟨hb2, hb4⟩ := hb2
            clear hst hx hkg hq hkl HR HRD HS
            go_wp2_with (first
          | ((with_reducible refine gLd ?_); refine wl_loadR (agg := true) (n := 6) (k := k * 6) (hO [_, _, _, _] _ H) rfl rfl (by first | rfl | omega) T50 HE.out ?_)
          | (go_at_call 55; have H2 := Hp.swap (A := [_, _, _]) (B := [_]) H; simp only [List.cons_append, List.nil_append] at H2; (refine (ih y HX.out (R := ⟨some bs, [.bool f, .bool t, .bool u, .bool x, .int .i64 (N : Int)], 110, 5⟩ :: ⟨some bn, [.int .i64 xk, .int .i64 xf, .int .i64 xd, .int .u64 xn, .string xt, .int .i64 0, .int .i64 0], 33, 7⟩ :: ⟨some bx, [.int .i64 xk, .int .i64 xf, .int .i64 xd, .int .u64 xn, .string xt, .slice (some ⟨xb, xo, none⟩) N xc], 50, 6⟩ :: R) _ b H2 (HTX.out.push [⟨some bs, [.bool f, .bool t, .bool u, .bool x, .int .i64 (N : Int)], 110, 5⟩, ⟨some bn, [.int .i64 xk, .int .i64 xf, .int .i64 xd, .int .u64 xn, .string xt, .int .i64 0, .int .i64 0], 33, 7⟩, ⟨some bx, [.int .i64 xk, .int .i64 xf, .int .i64 xd, .int .u64 xn, .string xt, .slice (some ⟨xb, xo, none⟩) N xc], 50, 6⟩]) (by omega) (by omega) (by omega) (by omega) HPX.out).mono ?_); rintro e w1 ⟨rfl, H1⟩; clear H H2; have H := Hp.swap (A := [_]) (B := [_, _, _]) H1; clear H1; simp only [List.cons_append, List.nil_append] at H)
          | ((with_reducible refine gLd ?_); refine eLd H rfl rfl ?_; first | ((repeat ((with_reducible refine gEx ?_); first | (refine kLd 0 rfl rfl (by exact TT _ rfl) rfl ?_) | (refine kLdA 0 rfl rfl (by exact TT _ rfl) (Nat.le_of_ble_eq_true rfl) (by simp only [Nd.cells, Nd.zero, LS2]; rfl) ?_) | (refine nxL ?_))); fail_if_success (with_reducible refine gEx ?_)))
          | ((with_reducible refine gEq ?_); (first | (refine wl_cmp rfl rfl rfl rfl ?_) | (refine wl_scmp rfl rfl rfl rfl ?_)); intro rb hrb; cases rb <;> (first | (exfalso; simp at hrb; done) | ((try simp only [CS1, gt_iff_lt, ge_iff_le, ne_eq, Decidable.not_not] at hrb); (try subst hrb); (try (exfalso; omega))))))
            go_roundg (gk - 1)
            case measure => have := HKG.out; omega
            case rel => exact ⟨k + 1, q, z, by go_num, by go_num, by have := HKG.out; omega, HR2, by omega, by omega, by omega, by omega, H⟩
          · rw [lkE_no h9] at hst
            simp only [Prod.mk.injEq] at hst
            obtain ⟨rfl, rfl⟩ := hst
            clear hx hkg hkl HR HRD HS
            go_wp2_with (first
          | ((with_reducible refine gLd ?_); refine eLd H rfl rfl ?_; first | ((repeat ((with_reducible refine gEx ?_); first | (refine kLd 0 rfl rfl (by exact TT _ rfl) rfl ?_) | (refine kLdA 0 rfl rfl (by exact TT _ rfl) (Nat.le_of_ble_eq_true rfl) (by simp only [Nd.cells, Nd.zero, LS2]; rfl) ?_) | (refine nxL ?_))); fail_if_success (with_reducible refine gEx ?_)))
          | ((with_reducible refine gEq ?_); (first | (refine wl_cmp rfl rfl rfl rfl ?_) | (refine wl_scmp rfl rfl rfl rfl ?_)); intro rb hrb; cases rb <;> (first | (exfalso; simp at hrb; done) | ((try simp only [CS1, gt_iff_lt, ge_iff_le, ne_eq, Decidable.not_not] at hrb); (try subst hrb); (try (exfalso; omega))))))
            go_ret
            exact ⟨rfl, H.drop.drop.drop⟩
        · have hst := HR.out
          rw [ptL_end (by have := HN.out; omega), lkE_end] at hst
          simp only [Prod.mk.injEq] at hst
          obtain ⟨rfl, rfl⟩ := hst
          clear hkg HR HRD HS
          go_wp2_with (first
          | ((with_reducible refine gLd ?_); refine eLd H rfl rfl ?_; first | ((repeat ((with_reducible refine gEx ?_); first | (refine kLd 0 rfl rfl (by exact TT _ rfl) rfl ?_) | (refine kLdA 0 rfl rfl (by exact TT _ rfl) (Nat.le_of_ble_eq_true rfl) (by simp only [Nd.cells, Nd.zero, LS2]; rfl) ?_) | (refine nxL ?_))); fail_if_success (with_reducible refine gEx ?_)))
          | ((with_reducible refine gEq ?_); (first | (refine wl_cmp rfl rfl rfl rfl ?_) | (refine wl_scmp rfl rfl rfl rfl ?_)); intro rb hrb; cases rb <;> (first | (exfalso; simp at hrb; done) | ((try simp only [CS1, gt_iff_lt, ge_iff_le, ne_eq, Decidable.not_not] at hrb); (try subst hrb); (try (exfalso; omega))))))
          all_goals go_ret
          all_goals exact ⟨rfl, H.drop.drop.drop⟩
    · have hhd : headE ⟨xk, xf, xd, xn, xt, 0, 0⟩ N = 53 := by
        have h9 : ¬ kidsN xk = (N : Int) := by rw [show kidsN xk = kd from hkd]; exact hkN
        simp [headE, ho, h9]
      rw [hhd] at hr
      rw [if_neg (by decide)] at hr
      replace hr : lkE 53 (ptL (ks.drop 0)) (ins + 1) (sn + 1) = (er, s2) := by rw [lkE_no (by decide)]; exact hr
      have hkN2 : ¬ (N : Int) = kd := fun h => hkN h.symm
      clear ho hhd hs hf ht hkd
      go_enter Try.func55, Try.ntmps55
      go_wp2_with (first
      | ((with_reducible refine gBx ?_); first | (refine bxA H rfl rfl rfl ?_; clear H; intro bx w1 H))
      | ((with_reducible refine gAl ?_); first | (refine al H Z33 rfl rfl ?_; clear H; intro bn w1 H) | (refine al H Z110 rfl rfl ?_; clear H; intro bs w1 H))
      | (go_at_call 75; ((refine (nodeOf_spec H).mono ?_); rintro e w1 ⟨rfl, H1⟩; clear H; have H := H1; clear H1; (try simp only [Nd.cells])))
      | (go_at_call 76; ((refine (plain_c (n := ⟨xk, xf, xd, xn, xt, 0, 0⟩) H HSH.out HPE.out).mono ?_); rintro e w1 ⟨rfl, H1⟩; clear H; have H := H1; clear H1))
      | ((with_reducible refine gLd ?_); refine eLd H rfl rfl ?_; first | ((repeat ((with_reducible refine gEx ?_); first | (refine kLd 0 rfl rfl (by exact TT _ rfl) rfl ?_) | (refine kLdA 0 rfl rfl (by exact TT _ rfl) (Nat.le_of_ble_eq_true rfl) (by simp only [Nd.cells, Nd.zero, LS2]; rfl) ?_) | (refine nxL ?_))); fail_if_success (with_reducible refine gEx ?_)))
      | ((with_reducible refine gSt ?_); (first | (refine eSt H rfl rfl ⟨.int _ _, rfl, ?_⟩) | (refine eSt H rfl rfl ⟨.bool _, rfl, ?_⟩) | (refine eSt H rfl rfl ⟨.slice _ _ _, rfl, ?_⟩) | (refine eSt H rfl rfl ⟨.pointer _, rfl, ?_⟩) | (refine eSt H rfl rfl ⟨.string _, rfl, ?_⟩) | (refine eSt H rfl rfl ⟨.agg (List.toArray _), rfl, ?_⟩)); (first | ((repeat ((with_reducible refine gES ?_); first | (refine kSt 0 rfl rfl (by exact TT _ rfl) rfl (Nat.le_of_ble_eq_true rfl) ?_) | (refine kStA 0 rfl rfl (by exact TT _ rfl) rfl rfl (Nat.le_of_ble_eq_true rfl) ?_) | (refine nxS ?_))); fail_if_success (with_reducible refine gES ?_))); clear H; intro w1 H; simp only [List.set_cons_zero, List.set_cons_succ] at H; (try simp only [lay, LS1, Nat.reduceAdd] at H))
      | ((with_reducible refine gEq ?_); (first | (refine wl_cmp rfl rfl rfl rfl ?_) | (refine wl_scmp rfl rfl rfl rfl ?_)); intro rb hrb; cases rb <;> (first | (exfalso; simp at hrb; done) | ((try simp only [CS1, gt_iff_lt, ge_iff_le, ne_eq, Decidable.not_not] at hrb); (try subst hrb); (try (exfalso; omega))))))
      go_loopg [9, 10] N (fun g v9 v10 wr => ∃ (k : Nat) (e9 sn : Int), v9 = .int .i64 e9 ∧ v10 = .int .i64 (k : Int) ∧ k + g = N ∧ Hid (lkE e9 (ptL (ks.drop k)) (ins + 1) sn = (er, s2)) ∧ 0 ≤ sn ∧ sn ≤ 4096 ∧ 0 ≤ e9 ∧ e9 ≤ 53 ∧ Hp w0 D (⟨some bs, [.bool f, .bool t, .bool u, .bool x, .int .i64 kd], 110, 5⟩ :: ⟨some bn, [.int .i64 xk, .int .i64 xf, .int .i64 xd, .int .u64 xn, .string xt, .int .i64 0, .int .i64 0], 33, 7⟩ :: ⟨some bx, [.int .i64 xk, .int .i64 xf, .int .i64 xd, .int .u64 xn, .string xt, .slice xa N xc], 50, 6⟩ :: eI b sn :: R) wr)
      case atStart => exact ⟨0, _, sn + 1, rfl, rfl, by omega, Lib.hid hr, by omega, by omega, by omega, by omega, H⟩
      case round =>
        clear H hr h1
        obtain ⟨k, e9, sn, rfl, rfl, hkg, HR, hs0, hs1, he0, he1, H⟩ := hrel
        have HKG := Lib.hid hkg
        by_cases hk : k < N
        · have hkl : k < ks.length := by rw [HN.out]; exact hk
          obtain ⟨y, hx⟩ : ∃ y, ks[k]? = some y := ⟨_, List.getElem?_eq_getElem hkl⟩
          have hst := HR.out
          rw [ptL_step hx] at hst
          have HE := Lib.hid (rowsT_at hx)
          obtain ⟨xb, xo, rfl, hO⟩ := HRD.out.some_of (by rw [rowsT_length]; omega)
          have HTX := Lib.hid (HS.out y (List.mem_of_getElem? hx))
          have HX : Hid (y ∈ (Tr.mk xk xf xd xn xt (some ⟨xb, xo, none⟩) xc ks).kids) := Lib.hid (List.mem_of_getElem? hx)
          by_cases h9 : e9 = 0
          · subst h9
            obtain ⟨q, z, hq⟩ : ∃ q z, looksT y.pt (ins + 1) sn = (q, z) := ⟨_, _, rfl⟩
            have hb1 := looksT_bd y.pt (ins + 1) sn hs0 hs1
            have hb2 := looksT_er y.pt (ins + 1) sn
            rw [hq] at hb1 hb2
            dsimp only at hb1 hb2
            rw [lkE_step hq] at hst
            have HR2 := Lib.hid hst
            have HPX := Lib.hid hq
            obtain ⟨hb1, hb3⟩ := hb1
            obtain ⟨hb2, hb4⟩ := hb2
            clear hst hx hkg hq hkl HR HRD HS
            go_wp2_with (first
          | ((with_reducible refine gLd ?_); refine wl_loadR (agg := true) (n := 6) (k := k * 6) (hO [_, _, _, _] _ H) rfl rfl (by first | rfl | omega) T50 HE.out ?_)
          | (go_at_call 55; have H2 := Hp.swap (A := [_, _, _]) (B := [_]) H; simp only [List.cons_append, List.nil_append] at H2; (refine (ih y HX.out (R := ⟨some bs, [.bool f, .bool t, .bool u, .bool x, .int .i64 kd], 110, 5⟩ :: ⟨some bn, [.int .i64 xk, .int .i64 xf, .int .i64 xd, .int .u64 xn, .string xt, .int .i64 0, .int .i64 0], 33, 7⟩ :: ⟨some bx, [.int .i64 xk, .int .i64 xf, .int .i64 xd, .int .u64 xn, .string xt, .slice (some ⟨xb, xo, none⟩) N xc], 50, 6⟩ :: R) _ b H2 (HTX.out.push [⟨some bs, [.bool f, .bool t, .bool u, .bool x, .int .i64 kd], 110, 5⟩, ⟨some bn, [.int .i64 xk, .int .i64 xf, .int .i64 xd, .int .u64 xn, .string xt, .int .i64 0, .int .i64 0], 33, 7⟩, ⟨some bx, [.int .i64 xk, .int .i64 xf, .int .i64 xd, .int .u64 xn, .string xt, .slice (some ⟨xb, xo, none⟩) N xc], 50, 6⟩]) (by omega) (by omega) (by omega) (by omega) HPX.out).mono ?_); rintro e w1 ⟨rfl, H1⟩; clear H H2; have H := Hp.swap (A := [_]) (B := [_, _, _]) H1; clear H1; simp only [List.cons_append, List.nil_append] at H)
          | ((with_reducible refine gLd ?_); refine eLd H rfl rfl ?_; first | ((repeat ((with_reducible refine gEx ?_); first | (refine kLd 0 rfl rfl (by exact TT _ rfl) rfl ?_) | (refine kLdA 0 rfl rfl (by exact TT _ rfl) (Nat.le_of_ble_eq_true rfl) (by simp only [Nd.cells, Nd.zero, LS2]; rfl) ?_) | (refine nxL ?_))); fail_if_success (with_reducible refine gEx ?_)))
          | ((with_reducible refine gEq ?_); (first | (refine wl_cmp rfl rfl rfl rfl ?_) | (refine wl_scmp rfl rfl rfl rfl ?_)); intro rb hrb; cases rb <;> (first | (exfalso; simp at hrb; done) | ((try simp only [CS1, gt_iff_lt, ge_iff_le, ne_eq, Decidable.not_not] at hrb); (try subst hrb); (try (exfalso; omega))))))
            go_roundg (gk - 1)
            case measure => have := HKG.out; omega
            case rel => exact ⟨k + 1, q, z, by go_num, by go_num, by have := HKG.out; omega, HR2, by omega, by omega, by omega, by omega, H⟩
          · rw [lkE_no h9] at hst
            simp only [Prod.mk.injEq] at hst
            obtain ⟨rfl, rfl⟩ := hst
            clear hx hkg hkl HR HRD HS
            go_wp2_with (first
          | ((with_reducible refine gLd ?_); refine eLd H rfl rfl ?_; first | ((repeat ((with_reducible refine gEx ?_); first | (refine kLd 0 rfl rfl (by exact TT _ rfl) rfl ?_) | (refine kLdA 0 rfl rfl (by exact TT _ rfl) (Nat.le_of_ble_eq_true rfl) (by simp only [Nd.cells, Nd.zero, LS2]; rfl) ?_) | (refine nxL ?_))); fail_if_success (with_reducible refine gEx ?_)))
          | ((with_reducible refine gEq ?_); (first | (refine wl_cmp rfl rfl rfl rfl ?_) | (refine wl_scmp rfl rfl rfl rfl ?_)); intro rb hrb; cases rb <;> (first | (exfalso; simp at hrb; done) | ((try simp only [CS1, gt_iff_lt, ge_iff_le, ne_eq, Decidable.not_not] at hrb); (try subst hrb); (try (exfalso; omega))))))
            go_ret
            exact ⟨rfl, H.drop.drop.drop⟩
        · have hst := HR.out
          rw [ptL_end (by have := HN.out; omega), lkE_end] at hst
          simp only [Prod.mk.injEq] at hst
          obtain ⟨rfl, rfl⟩ := hst
          clear hkg HR HRD HS
          go_wp2_with (first
          | ((with_reducible refine gLd ?_); refine eLd H rfl rfl ?_; first | ((repeat ((with_reducible refine gEx ?_); first | (refine kLd 0 rfl rfl (by exact TT _ rfl) rfl ?_) | (refine kLdA 0 rfl rfl (by exact TT _ rfl) (Nat.le_of_ble_eq_true rfl) (by simp only [Nd.cells, Nd.zero, LS2]; rfl) ?_) | (refine nxL ?_))); fail_if_success (with_reducible refine gEx ?_)))
          | ((with_reducible refine gEq ?_); (first | (refine wl_cmp rfl rfl rfl rfl ?_) | (refine wl_scmp rfl rfl rfl rfl ?_)); intro rb hrb; cases rb <;> (first | (exfalso; simp at hrb; done) | ((try simp only [CS1, gt_iff_lt, ge_iff_le, ne_eq, Decidable.not_not] at hrb); (try subst hrb); (try (exfalso; omega))))))
          all_goals go_ret
          all_goals exact ⟨rfl, H.drop.drop.drop⟩
set_option maxHeartbeats 16000000 in
theorem looked_spec {w0 : World} {D : Nat → Prop} : ∀ (t : Tr), ∀ {R : List Ent} (w : World) (b : Nat) {ins sn er s2 : Int}, Hp w0 D (eI b sn :: R) w → TrR w0 D R t → 0 ≤ ins → ins ≤ 64 → 0 ≤ sn → sn ≤ 4096 → looksT t.pt ins sn = (er, s2) →
    Calls Try.prog 78 #[.agg t.cells.toArray, .int .i64 ins, .pointer (some ⟨b, 0, none⟩)] w fun e w' => LkP w0 D R b er s2 e w' := by
  intro t
  induction t using Tr.ind with
  | h t ih =>
  obtain ⟨xk, xf, xd, xn, xt, xa, xc, ks⟩ := t
  intro R w b ins sn er s2 H ht hi0 hi1 hs0 hs1 hr
  cases ht with
  | mk hrd hc hle hks =>
  simp only [Tr.pt, looksT, ptL_len] at hr
  obtain ⟨N, hN⟩ : ∃ N, ks.length = N := ⟨_, rfl⟩
  have HN := Lib.hid hN
  have HRD := Lib.hid hrd
  have HS := Lib.hid hks
  simp only [Tr.cells]
  rw [hN] at hc hle hr ⊢
  clear hN hrd hks
  by_cases h1 : 4096 ≤ sn ∨ 64 ≤ ins
  · rw [if_pos h1] at hr
    simp only [Prod.mk.injEq] at hr
    obtain ⟨rfl, rfl⟩ := hr
    rcases (show 4096 ≤ sn ∨ (¬ 4096 ≤ sn ∧ 64 ≤ ins) by omega) with h2 | ⟨h2, h3⟩
    all_goals clear h1
    all_goals go_enter Try.func78, Try.ntmps78
    all_goals go_wp2_with (first
    | ((with_reducible refine gLd ?_); refine eLd H rfl rfl ?_; first | ((repeat ((with_reducible refine gEx ?_); first | (refine kLd 0 rfl rfl (by exact TT _ rfl) rfl ?_) | (refine kLdA 0 rfl rfl (by exact TT _ rfl) (Nat.le_of_ble_eq_true rfl) (by simp only [Nd.cells, Nd.zero, LS2]; rfl) ?_) | (refine nxL ?_))); fail_if_success (with_reducible refine gEx ?_)))
    | ((with_reducible refine gBx ?_); refine bxA H rfl rfl rfl ?_; clear H; intro b1 w1 H)
    | ((with_reducible refine gEq ?_); (first | (refine wl_cmp rfl rfl rfl rfl ?_) | (refine wl_scmp rfl rfl rfl rfl ?_)); intro rb hrb; cases rb <;> (first | (exfalso; simp at hrb; done) | ((try simp only [CS1, gt_iff_lt, ge_iff_le, ne_eq, Decidable.not_not] at hrb); (try subst hrb); (try (exfalso; omega))))))
    all_goals go_ret
    all_goals exact ⟨rfl, H.drop⟩
  rw [if_neg h1] at hr
  have h1a : sn < 4096 := by omega
  have h1b : ins < 64 := by omega
  clear hs1 hi1
  obtain ⟨kd, hkd⟩ : ∃ kd, kidsN xk = kd := ⟨_, rfl⟩
  have HKD := Lib.hid hkd
  have hpl : plainN ⟨xk, xf, xd, xn, xt, 0, 0⟩ = own ⟨xk, xf, xd, xn, xt, 0, 0⟩ := by simp [plainN]
  cases ho : own ⟨xk, xf, xd, xn, xt, 0, 0⟩ with
  | false =>
    have hhd : headE ⟨xk, xf, xd, xn, xt, 0, 0⟩ N = 53 := by simp [headE, ho]
    rw [hhd] at hr
    rw [if_neg (by decide)] at hr
    have HSE : Hid (shapeE ⟨xk, xf, xd, xn, xt, 0, 0⟩ = 53) := Lib.hid (by simp [shapeE, hpl, ho])
    replace hr : lkE 53 (ptL (ks.drop 0)) (ins + 1) (sn + 1) = (er, s2) := by rw [lkE_no (by decide)]; exact hr
    clear ho hhd hpl hkd
    go_enter Try.func78, Try.ntmps78
    go_upto_region 5 with ((first
        | ((with_reducible refine gBx ?_); first | (refine bxA H rfl rfl rfl ?_; clear H; intro bx w1 H))
        | (go_at_call 79; ((refine (rnode_spec H).mono ?_); rintro e w1 ⟨rfl, H1⟩; clear H; have H := H1; clear H1; (try simp only [Nd.cells])))
        | (go_at_call 48; ((refine (rshape_at (n := ⟨xk, xf, xd, xn, xt, 0, 0⟩) H HSE.out).mono ?_); rintro e w1 ⟨rfl, H1⟩; clear H; have H := H1; clear H1))
        | ((with_reducible refine gLd ?_); refine eLd H rfl rfl ?_; first | ((repeat ((with_reducible refine gEx ?_); first | (refine kLd 0 rfl rfl (by exact TT _ rfl) rfl ?_) | (refine kLdA 0 rfl rfl (by exact TT _ rfl) (Nat.le_of_ble_eq_true rfl) (by simp only [Nd.cells, Nd.zero, LS2]; rfl) ?_) | (refine nxL ?_))); fail_if_success (with_reducible refine gEx ?_)))
        | ((with_reducible refine gSt ?_); (first | (refine eSt H rfl rfl ⟨.int _ _, rfl, ?_⟩) | (refine eSt H rfl rfl ⟨.bool _, rfl, ?_⟩) | (refine eSt H rfl rfl ⟨.slice _ _ _, rfl, ?_⟩) | (refine eSt H rfl rfl ⟨.pointer _, rfl, ?_⟩) | (refine eSt H rfl rfl ⟨.string _, rfl, ?_⟩) | (refine eSt H rfl rfl ⟨.agg (List.toArray _), rfl, ?_⟩)); (first | ((repeat ((with_reducible refine gES ?_); first | (refine kSt 0 rfl rfl (by exact TT _ rfl) rfl (Nat.le_of_ble_eq_true rfl) ?_) | (refine kStA 0 rfl rfl (by exact TT _ rfl) rfl rfl (Nat.le_of_ble_eq_true rfl) ?_) | (refine nxS ?_))); fail_if_success (with_reducible refine gES ?_))); clear H; intro w1 H; simp only [List.set_cons_zero, List.set_cons_succ] at H; (try simp only [lay, LS1, Nat.reduceAdd] at H))
        | ((with_reducible refine gBx ?_); refine bxA H rfl rfl rfl ?_; clear H; intro b1 w1 H)
        | ((with_reducible refine gBs ?_); (first | (refine bs1 H rfl (by exact SS _ rfl) rfl (Nat.le_of_ble_eq_true rfl) (Nat.le_of_ble_eq_true rfl) rfl ?_) | (refine wl_buildSlice0 rfl (by exact SS _ rfl) H ?_)); clear H; intro b1 w1 H)
        | ((with_reducible refine gEq ?_); (first | (refine wl_cmp rfl rfl rfl rfl ?_) | (refine wl_scmp rfl rfl rfl rfl ?_)); intro rb hrb; cases rb <;> (first | (exfalso; simp at hrb; done) | ((try simp only [CS1, gt_iff_lt, ge_iff_le, ne_eq, Decidable.not_not] at hrb); (try subst hrb); (try (exfalso; omega)))))
        | ((with_reducible refine gAl ?_); (first | (refine al H Z33 rfl rfl ?_) | (refine al H Z110 rfl rfl ?_)); clear H; intro b1 w1 H)
        | ((with_reducible refine gRg ?_); refine wp_region_text rfl (by decide +kernel) ?_; replace H := H.drew)
        | ((with_reducible refine EndQ.intro ?_ ?_); (· kernel_rfl))))
    have K1 := onL H (fun u hu => kidsN_at hu HKD.out)
    go_wp2_with (first
        | ((with_reducible refine gRg ?_); refine wp_region_UH H rfl (by decide +kernel) ?_; replace H := H.drew; repeat' (first | (refine twL_ldskip rfl ?_; (try simp only [Act.put, List.setIfInBounds_toArray, List.set_cons_succ, List.set_cons_zero])) | (refine twL_ld (fun u h => h) rfl rfl ?_; (first | ((repeat ((with_reducible refine gEx ?_); first | (refine kLd 0 rfl rfl (by exact TT _ rfl) rfl ?_) | (refine kLdA 0 rfl rfl (by exact TT _ rfl) (Nat.le_of_ble_eq_true rfl) (by simp only [Nd.cells, Nd.zero, LS2]; rfl) ?_) | (refine nxL ?_))); fail_if_success (with_reducible refine gEx ?_))); (try simp only [Act.put, List.setIfInBounds_toArray, List.set_cons_succ, List.set_cons_zero])) | (refine twL_skip rfl rfl (H) ?_; (try simp only [Act.put, List.setIfInBounds_toArray, List.set_cons_succ, List.set_cons_zero])) | (refine twL_op rfl rfl ?_; intro K hK; first | ((with_reducible refine oStG ?_); (first | (refine oSt H rfl ⟨.int _ _, rfl, ?_⟩) | (refine oSt H rfl ⟨.bool _, rfl, ?_⟩) | (refine oSt H rfl ⟨.slice _ _ _, rfl, ?_⟩) | (refine oSt H rfl ⟨.pointer _, rfl, ?_⟩) | (refine oSt H rfl ⟨.string _, rfl, ?_⟩) | (refine oSt H rfl ⟨.agg (List.toArray _), rfl, ?_⟩)); (first | ((repeat ((with_reducible refine gES ?_); first | (refine kSt 0 rfl rfl (by exact TT _ rfl) rfl (Nat.le_of_ble_eq_true rfl) ?_) | (refine kStA 0 rfl rfl (by exact TT _ rfl) rfl rfl (Nat.le_of_ble_eq_true rfl) ?_) | (refine nxS ?_))); fail_if_success (with_reducible refine gES ?_))); clear H; intro w1 H; simp only [List.set_cons_zero, List.set_cons_succ] at H; (first | refine hK _ _ (H) ?_); clear hK K; (try simp only [Act.put, List.setIfInBounds_toArray, List.set_cons_succ, List.set_cons_zero])) | ((with_reducible refine oBinG ?_); (first | (refine oCmp rfl rfl rfl ?_) | (refine oScmp rfl rfl rfl ?_)); intro rb hrb; cases rb <;> (first | (exfalso; simp at hrb; done) | ((try simp only [CS1, gt_iff_lt, ge_iff_le, ne_eq, Decidable.not_not] at hrb); (try subst hrb); (try (exfalso; omega)))) <;> ((first | refine hK _ _ (H) ?_); clear hK K; (try simp only [Act.put, List.setIfInBounds_toArray, List.set_cons_succ, List.set_cons_zero]))) | ((with_reducible refine oCallG ?_); go_simp; go_at_call 49; (with_reducible refine (K1 _ H).mono ?_); rintro e w1 ⟨rfl, H1⟩; clear H; have H := H1; clear H1; (try simp only []); (first | refine hK _ _ (H) ?_); clear hK K; (try simp only [Act.put, List.setIfInBounds_toArray, List.set_cons_succ, List.set_cons_zero])) | (go_simp; (first | refine hK _ _ (H) ?_); clear hK K)) | (refine twL_nil ?_; refine EndQ.intro (by kernel_rfl) ?_))))
    go_loopg [7, 8] N (fun g v7 v8 wr => ∃ (k : Nat) (e9 sn : Int), v7 = .int .i64 e9 ∧ v8 = .int .i64 (k : Int) ∧ k + g = N ∧ Hid (lkE e9 (ptL (ks.drop k)) (ins + 1) sn = (er, s2)) ∧ 0 ≤ sn ∧ sn ≤ 4096 ∧ 0 ≤ e9 ∧ e9 ≤ 53 ∧ Hp w0 D (⟨some bx, [.int .i64 xk, .int .i64 xf, .int .i64 xd, .int .u64 xn, .string xt, .slice xa N xc], 50, 6⟩ :: eI b sn :: R) wr)
    case atStart => exact ⟨0, _, sn + 1, rfl, rfl, by omega, Lib.hid hr, by omega, by omega, by omega, by omega, H⟩
    case round =>
      clear H hr h1
      obtain ⟨k, e9, sn, rfl, rfl, hkg, HR, hs0, hs1, he0, he1, H⟩ := hrel
      have HKG := Lib.hid hkg
      by_cases hk : k < N
      · have hkl : k < ks.length := by rw [HN.out]; exact hk
        obtain ⟨y, hx⟩ : ∃ y, ks[k]? = some y := ⟨_, List.getElem?_eq_getElem hkl⟩
        have hst := HR.out
        rw [ptL_step hx] at hst
        have HE := Lib.hid (rowsT_at hx)
        obtain ⟨xb, xo, rfl, hO⟩ := HRD.out.some_of (by rw [rowsT_length]; omega)
        have HTX := Lib.hid (HS.out y (List.mem_of_getElem? hx))
        have HX : Hid (y ∈ (Tr.mk xk xf xd xn xt (some ⟨xb, xo, none⟩) xc ks).kids) := Lib.hid (List.mem_of_getElem? hx)
        by_cases h9 : e9 = 0
        · subst h9
          obtain ⟨q, z, hq⟩ : ∃ q z, looksT y.pt (ins + 1) sn = (q, z) := ⟨_, _, rfl⟩
          have hb1 := looksT_bd y.pt (ins + 1) sn hs0 hs1
          have hb2 := looksT_er y.pt (ins + 1) sn
          rw [hq] at hb1 hb2
          dsimp only at hb1 hb2
          rw [lkE_step hq] at hst
          have HR2 := Lib.hid hst
          have HPX := Lib.hid hq
          obtain ⟨hb1, hb3⟩ := hb1
          obtain ⟨hb2, hb4⟩ := hb2
          clear hst hx hkg hq hkl HR HRD HS
          go_wp2_with (first
        | ((with_reducible refine gLd ?_); refine wl_loadR (agg := true) (n := 6) (k := k * 6) (hO [_, _] _ H) rfl rfl (by first | rfl | omega) T50 HE.out ?_)
        | (go_at_call 78; have H2 := Hp.swap (A := [_]) (B := [_]) H; simp only [List.cons_append, List.nil_append] at H2; (refine (ih y HX.out (R := ⟨some bx, [.int .i64 xk, .int .i64 xf, .int .i64 xd, .int .u64 xn, .string xt, .slice (some ⟨xb, xo, none⟩) N xc], 50, 6⟩ :: R) _ b H2 (HTX.out.push [⟨some bx, [.int .i64 xk, .int .i64 xf, .int .i64 xd, .int .u64 xn, .string xt, .slice (some ⟨xb, xo, none⟩) N xc], 50, 6⟩]) (by omega) (by omega) (by omega) (by omega) HPX.out).mono ?_); rintro e w1 ⟨rfl, H1⟩; clear H H2; have H := Hp.swap (A := [_]) (B := [_]) H1; clear H1; simp only [List.cons_append, List.nil_append] at H)
        | ((with_reducible refine gLd ?_); refine eLd H rfl rfl ?_; first | ((repeat ((with_reducible refine gEx ?_); first | (refine kLd 0 rfl rfl (by exact TT _ rfl) rfl ?_) | (refine kLdA 0 rfl rfl (by exact TT _ rfl) (Nat.le_of_ble_eq_true rfl) (by simp only [Nd.cells, Nd.zero, LS2]; rfl) ?_) | (refine nxL ?_))); fail_if_success (with_reducible refine gEx ?_)))
        | ((with_reducible refine gEq ?_); (first | (refine wl_cmp rfl rfl rfl rfl ?_) | (refine wl_scmp rfl rfl rfl rfl ?_)); intro rb hrb; cases rb <;> (first | (exfalso; simp at hrb; done) | ((try simp only [CS1, gt_iff_lt, ge_iff_le, ne_eq, Decidable.not_not] at hrb); (try subst hrb); (try (exfalso; omega))))))
          go_roundg (gk - 1)
          case measure => have := HKG.out; omega
          case rel => exact ⟨k + 1, q, z, by go_num, by go_num, by have := HKG.out; omega, HR2, by omega, by omega, by omega, by omega, H⟩
        · rw [lkE_no h9] at hst
          simp only [Prod.mk.injEq] at hst
          obtain ⟨rfl, rfl⟩ := hst
          clear hx hkg hkl HR HRD HS
          go_wp2_with (first
        | ((with_reducible refine gEq ?_); (first | (refine wl_cmp rfl rfl rfl rfl ?_) | (refine wl_scmp rfl rfl rfl rfl ?_)); intro rb hrb; cases rb <;> (first | (exfalso; simp at hrb; done) | ((try simp only [CS1, gt_iff_lt, ge_iff_le, ne_eq, Decidable.not_not] at hrb); (try subst hrb); (try (exfalso; omega))))))
          go_ret
          exact ⟨rfl, H.drop⟩
      · have hst := HR.out
        rw [ptL_end (by have := HN.out; omega), lkE_end] at hst
        simp only [Prod.mk.injEq] at hst
        obtain ⟨rfl, rfl⟩ := hst
        clear hkg HR HRD HS
        go_wp2_with (first
        | ((with_reducible refine gLd ?_); refine eLd H rfl rfl ?_; first | ((repeat ((with_reducible refine gEx ?_); first | (refine kLd 0 rfl rfl (by exact TT _ rfl) rfl ?_) | (refine kLdA 0 rfl rfl (by exact TT _ rfl) (Nat.le_of_ble_eq_true rfl) (by simp only [Nd.cells, Nd.zero, LS2]; rfl) ?_) | (refine nxL ?_))); fail_if_success (with_reducible refine gEx ?_)))
        | ((with_reducible refine gEq ?_); (first | (refine wl_cmp rfl rfl rfl rfl ?_) | (refine wl_scmp rfl rfl rfl rfl ?_)); intro rb hrb; cases rb <;> (first | (exfalso; simp at hrb; done) | ((try simp only [CS1, gt_iff_lt, ge_iff_le, ne_eq, Decidable.not_not] at hrb); (try subst hrb); (try (exfalso; omega))))))
        all_goals go_ret
        all_goals exact ⟨rfl, H.drop⟩
  | true =>
    obtain ⟨e5, he5⟩ : ∃ e5, fieldsE ⟨xk, xf, xd, xn, xt, 0, 0⟩ = e5 := ⟨_, rfl⟩
    have HSE : Hid (shapeE ⟨xk, xf, xd, xn, xt, 0, 0⟩ = e5) := Lib.hid (by unfold shapeE; rw [hpl, ho, if_pos rfl]; exact he5)
    have hbe : 0 ≤ e5 ∧ e5 ≤ 50 := by rw [← he5]; unfold fieldsE; split <;> (try split) <;> omega
    obtain ⟨hbe1, hbe2⟩ := hbe
    have hbe3 : ¬ e5 = 53 := by omega
    by_cases hkN : kd = (N : Int)
    · have hhd : headE ⟨xk, xf, xd, xn, xt, 0, 0⟩ N = e5 := by
        have h9 : kidsN xk = (N : Int) := hkd.trans hkN
        unfold headE
        simp only [ho, h9, beq_self_eq_true, Bool.and_self, if_true]
        exact he5
      rw [hhd] at hr
      replace hr : lkE e5 (ptL (ks.drop 0)) (ins + 1) (sn + 1) = (er, s2) := hr
      subst hkN
      clear ho hhd he5 hkd hpl
      go_enter Try.func78, Try.ntmps78
      go_upto_region 5 with ((first
          | ((with_reducible refine gBx ?_); first | (refine bxA H rfl rfl rfl ?_; clear H; intro bx w1 H))
          | (go_at_call 79; ((refine (rnode_spec H).mono ?_); rintro e w1 ⟨rfl, H1⟩; clear H; have H := H1; clear H1; (try simp only [Nd.cells])))
          | (go_at_call 48; ((refine (rshape_at (n := ⟨xk, xf, xd, xn, xt, 0, 0⟩) H HSE.out).mono ?_); rintro e w1 ⟨rfl, H1⟩; clear H; have H := H1; clear H1))
          | ((with_reducible refine gLd ?_); refine eLd H rfl rfl ?_; first | ((repeat ((with_reducible refine gEx ?_); first | (refine kLd 0 rfl rfl (by exact TT _ rfl) rfl ?_) | (refine kLdA 0 rfl rfl (by exact TT _ rfl) (Nat.le_of_ble_eq_true rfl) (by simp only [Nd.cells, Nd.zero, LS2]; rfl) ?_) | (refine nxL ?_))); fail_if_success (with_reducible refine gEx ?_)))
          | ((with_reducible refine gSt ?_); (first | (refine eSt H rfl rfl ⟨.int _ _, rfl, ?_⟩) | (refine eSt H rfl rfl ⟨.bool _, rfl, ?_⟩) | (refine eSt H rfl rfl ⟨.slice _ _ _, rfl, ?_⟩) | (refine eSt H rfl rfl ⟨.pointer _, rfl, ?_⟩) | (refine eSt H rfl rfl ⟨.string _, rfl, ?_⟩) | (refine eSt H rfl rfl ⟨.agg (List.toArray _), rfl, ?_⟩)); (first | ((repeat ((with_reducible refine gES ?_); first | (refine kSt 0 rfl rfl (by exact TT _ rfl) rfl (Nat.le_of_ble_eq_true rfl) ?_) | (refine kStA 0 rfl rfl (by exact TT _ rfl) rfl rfl (Nat.le_of_ble_eq_true rfl) ?_) | (refine nxS ?_))); fail_if_success (with_reducible refine gES ?_))); clear H; intro w1 H; simp only [List.set_cons_zero, List.set_cons_succ] at H; (try simp only [lay, LS1, Nat.reduceAdd] at H))
          | ((with_reducible refine gBx ?_); refine bxA H rfl rfl rfl ?_; clear H; intro b1 w1 H)
          | ((with_reducible refine gBs ?_); (first | (refine bs1 H rfl (by exact SS _ rfl) rfl (Nat.le_of_ble_eq_true rfl) (Nat.le_of_ble_eq_true rfl) rfl ?_) | (refine wl_buildSlice0 rfl (by exact SS _ rfl) H ?_)); clear H; intro b1 w1 H)
          | ((with_reducible refine gEq ?_); (first | (refine wl_cmp rfl rfl rfl rfl ?_) | (refine wl_scmp rfl rfl rfl rfl ?_)); intro rb hrb; cases rb <;> (first | (exfalso; simp at hrb; done) | ((try simp only [CS1, gt_iff_lt, ge_iff_le, ne_eq, Decidable.not_not] at hrb); (try subst hrb); (try (exfalso; omega)))))
          | ((with_reducible refine gAl ?_); (first | (refine al H Z33 rfl rfl ?_) | (refine al H Z110 rfl rfl ?_)); clear H; intro b1 w1 H)
          | ((with_reducible refine gRg ?_); refine wp_region_text rfl (by decide +kernel) ?_; replace H := H.drew)
          | ((with_reducible refine EndQ.intro ?_ ?_); (· kernel_rfl))))
      have K1 := onL H (fun u hu => kidsN_at hu HKD.out)
      go_wp2_with (first
          | ((with_reducible refine gRg ?_); refine wp_region_UH H rfl (by decide +kernel) ?_; replace H := H.drew; repeat' (first | (refine twL_ldskip rfl ?_; (try simp only [Act.put, List.setIfInBounds_toArray, List.set_cons_succ, List.set_cons_zero])) | (refine twL_ld (fun u h => h) rfl rfl ?_; (first | ((repeat ((with_reducible refine gEx ?_); first | (refine kLd 0 rfl rfl (by exact TT _ rfl) rfl ?_) | (refine kLdA 0 rfl rfl (by exact TT _ rfl) (Nat.le_of_ble_eq_true rfl) (by simp only [Nd.cells, Nd.zero, LS2]; rfl) ?_) | (refine nxL ?_))); fail_if_success (with_reducible refine gEx ?_))); (try simp only [Act.put, List.setIfInBounds_toArray, List.set_cons_succ, List.set_cons_zero])) | (refine twL_skip rfl rfl (H) ?_; (try simp only [Act.put, List.setIfInBounds_toArray, List.set_cons_succ, List.set_cons_zero])) | (refine twL_op rfl rfl ?_; intro K hK; first | ((with_reducible refine oStG ?_); (first | (refine oSt H rfl ⟨.int _ _, rfl, ?_⟩) | (refine oSt H rfl ⟨.bool _, rfl, ?_⟩) | (refine oSt H rfl ⟨.slice _ _ _, rfl, ?_⟩) | (refine oSt H rfl ⟨.pointer _, rfl, ?_⟩) | (refine oSt H rfl ⟨.string _, rfl, ?_⟩) | (refine oSt H rfl ⟨.agg (List.toArray _), rfl, ?_⟩)); (first | ((repeat ((with_reducible refine gES ?_); first | (refine kSt 0 rfl rfl (by exact TT _ rfl) rfl (Nat.le_of_ble_eq_true rfl) ?_) | (refine kStA 0 rfl rfl (by exact TT _ rfl) rfl rfl (Nat.le_of_ble_eq_true rfl) ?_) | (refine nxS ?_))); fail_if_success (with_reducible refine gES ?_))); clear H; intro w1 H; simp only [List.set_cons_zero, List.set_cons_succ] at H; (first | refine hK _ _ (H) ?_); clear hK K; (try simp only [Act.put, List.setIfInBounds_toArray, List.set_cons_succ, List.set_cons_zero])) | ((with_reducible refine oBinG ?_); (first | (refine oCmp rfl rfl rfl ?_) | (refine oScmp rfl rfl rfl ?_)); intro rb hrb; cases rb <;> (first | (exfalso; simp at hrb; done) | ((try simp only [CS1, gt_iff_lt, ge_iff_le, ne_eq, Decidable.not_not] at hrb); (try subst hrb); (try (exfalso; omega)))) <;> ((first | refine hK _ _ (H) ?_); clear hK K; (try simp only [Act.put, List.setIfInBounds_toArray, List.set_cons_succ, List.set_cons_zero]))) | ((with_reducible refine oCallG ?_); go_simp; go_at_call 49; (with_reducible refine (K1 _ H).mono ?_); rintro e w1 ⟨rfl, H1⟩; clear H; have H := H1; clear H1; (try simp only []); (first | refine hK _ _ (H) ?_); clear hK K; (try simp only [Act.put, List.setIfInBounds_toArray, List.set_cons_succ, List.set_cons_zero])) | (go_simp; (first | refine hK _ _ (H) ?_); clear hK K)) | (refine twL_nil ?_; refine EndQ.intro (by kernel_rfl) ?_))))
      go_loopg [7, 8] N (fun g v7 v8 wr => ∃ (k : Nat) (e9 sn : Int), v7 = .int .i64 e9 ∧ v8 = .int .i64 (k : Int) ∧ k + g = N ∧ Hid (lkE e9 (ptL (ks.drop k)) (ins + 1) sn = (er, s2)) ∧ 0 ≤ sn ∧ sn ≤ 4096 ∧ 0 ≤ e9 ∧ e9 ≤ 53 ∧ Hp w0 D (⟨some bx, [.int .i64 xk, .int .i64 xf, .int .i64 xd, .int .u64 xn, .string xt, .slice xa N xc], 50, 6⟩ :: eI b sn :: R) wr)
      case atStart => exact ⟨0, _, sn + 1, rfl, rfl, by omega, Lib.hid hr, by omega, by omega, by omega, by omega, H⟩
      case round =>
        clear H hr h1
        obtain ⟨k, e9, sn, rfl, rfl, hkg, HR, hs0, hs1, he0, he1, H⟩ := hrel
        have HKG := Lib.hid hkg
        by_cases hk : k < N
        · have hkl : k < ks.length := by rw [HN.out]; exact hk
          obtain ⟨y, hx⟩ : ∃ y, ks[k]? = some y := ⟨_, List.getElem?_eq_getElem hkl⟩
          have hst := HR.out
          rw [ptL_step hx] at hst
          have HE := Lib.hid (rowsT_at hx)
          obtain ⟨xb, xo, rfl, hO⟩ := HRD.out.some_of (by rw [rowsT_length]; omega)
          have HTX := Lib.hid (HS.out y (List.mem_of_getElem? hx))
          have HX : Hid (y ∈ (Tr.mk xk xf xd xn xt (some ⟨xb, xo, none⟩) xc ks).kids) := Lib.hid (List.mem_of_getElem? hx)
          by_cases h9 : e9 = 0
          · subst h9
            obtain ⟨q, z, hq⟩ : ∃ q z, looksT y.pt (ins + 1) sn = (q, z) := ⟨_, _, rfl⟩
            have hb1 := looksT_bd y.pt (ins + 1) sn hs0 hs1
            have hb2 := looksT_er y.pt (ins + 1) sn
            rw [hq] at hb1 hb2
            dsimp only at hb1 hb2
            rw [lkE_step hq] at hst
            have HR2 := Lib.hid hst
            have HPX := Lib.hid hq
            obtain ⟨hb1, hb3⟩ := hb1
            obtain ⟨hb2, hb4⟩ := hb2
            clear hst hx hkg hq hkl HR HRD HS
            go_wp2_with (first
          | ((with_reducible refine gLd ?_); refine wl_loadR (agg := true) (n := 6) (k := k * 6) (hO [_, _] _ H) rfl rfl (by first | rfl | omega) T50 HE.out ?_)
          | (go_at_call 78; have H2 := Hp.swap (A := [_]) (B := [_]) H; simp only [List.cons_append, List.nil_append] at H2; (refine (ih y HX.out (R := ⟨some bx, [.int .i64 xk, .int .i64 xf, .int .i64 xd, .int .u64 xn, .string xt, .slice (some ⟨xb, xo, none⟩) N xc], 50, 6⟩ :: R) _ b H2 (HTX.out.push [⟨some bx, [.int .i64 xk, .int .i64 xf, .int .i64 xd, .int .u64 xn, .string xt, .slice (some ⟨xb, xo, none⟩) N xc], 50, 6⟩]) (by omega) (by omega) (by omega) (by omega) HPX.out).mono ?_); rintro e w1 ⟨rfl, H1⟩; clear H H2; have H := Hp.swap (A := [_]) (B := [_]) H1; clear H1; simp only [List.cons_append, List.nil_append] at H)
          | ((with_reducible refine gLd ?_); refine eLd H rfl rfl ?_; first | ((repeat ((with_reducible refine gEx ?_); first | (refine kLd 0 rfl rfl (by exact TT _ rfl) rfl ?_) | (refine kLdA 0 rfl rfl (by exact TT _ rfl) (Nat.le_of_ble_eq_true rfl) (by simp only [Nd.cells, Nd.zero, LS2]; rfl) ?_) | (refine nxL ?_))); fail_if_success (with_reducible refine gEx ?_)))
          | ((with_reducible refine gEq ?_); (first | (refine wl_cmp rfl rfl rfl rfl ?_) | (refine wl_scmp rfl rfl rfl rfl ?_)); intro rb hrb; cases rb <;> (first | (exfalso; simp at hrb; done) | ((try simp only [CS1, gt_iff_lt, ge_iff_le, ne_eq, Decidable.not_not] at hrb); (try subst hrb); (try (exfalso; omega))))))
            go_roundg (gk - 1)
            case measure => have := HKG.out; omega
            case rel => exact ⟨k + 1, q, z, by go_num, by go_num, by have := HKG.out; omega, HR2, by omega, by omega, by omega, by omega, H⟩
          · rw [lkE_no h9] at hst
            simp only [Prod.mk.injEq] at hst
            obtain ⟨rfl, rfl⟩ := hst
            clear hx hkg hkl HR HRD HS
            go_wp2_with (first
          | ((with_reducible refine gEq ?_); (first | (refine wl_cmp rfl rfl rfl rfl ?_) | (refine wl_scmp rfl rfl rfl rfl ?_)); intro rb hrb; cases rb <;> (first | (exfalso; simp at hrb; done) | ((try simp only [CS1, gt_iff_lt, ge_iff_le, ne_eq, Decidable.not_not] at hrb); (try subst hrb); (try (exfalso; omega))))))
            go_ret
            exact ⟨rfl, H.drop⟩
        · have hst := HR.out
          rw [ptL_end (by have := HN.out; omega), lkE_end] at hst
          simp only [Prod.mk.injEq] at hst
          obtain ⟨rfl, rfl⟩ := hst
          clear hkg HR HRD HS
          go_wp2_with (first
          | ((with_reducible refine gLd ?_); refine eLd H rfl rfl ?_; first | ((repeat ((with_reducible refine gEx ?_); first | (refine kLd 0 rfl rfl (by exact TT _ rfl) rfl ?_) | (refine kLdA 0 rfl rfl (by exact TT _ rfl) (Nat.le_of_ble_eq_true rfl) (by simp only [Nd.cells, Nd.zero, LS2]; rfl) ?_) | (refine nxL ?_))); fail_if_success (with_reducible refine gEx ?_)))
          | ((with_reducible refine gEq ?_); (first | (refine wl_cmp rfl rfl rfl rfl ?_) | (refine wl_scmp rfl rfl rfl rfl ?_)); intro rb hrb; cases rb <;> (first | (exfalso; simp at hrb; done) | ((try simp only [CS1, gt_iff_lt, ge_iff_le, ne_eq, Decidable.not_not] at hrb); (try subst hrb); (try (exfalso; omega))))))
          all_goals go_ret
          all_goals exact ⟨rfl, H.drop⟩
    · have hhd : headE ⟨xk, xf, xd, xn, xt, 0, 0⟩ N = 53 := by
        have h9 : ¬ kidsN xk = (N : Int) := by rw [hkd]; exact hkN
        simp [headE, ho, h9]
      rw [hhd] at hr
      rw [if_neg (by decide)] at hr
      replace hr : lkE 53 (ptL (ks.drop 0)) (ins + 1) (sn + 1) = (er, s2) := by rw [lkE_no (by decide)]; exact hr
      have hkN2 : ¬ (N : Int) = kd := fun h => hkN h.symm
      clear ho hhd hkd hpl
      go_enter Try.func78, Try.ntmps78
      go_upto_region 5 with ((first
          | ((with_reducible refine gBx ?_); first | (refine bxA H rfl rfl rfl ?_; clear H; intro bx w1 H))
          | (go_at_call 79; ((refine (rnode_spec H).mono ?_); rintro e w1 ⟨rfl, H1⟩; clear H; have H := H1; clear H1; (try simp only [Nd.cells])))
          | (go_at_call 48; ((refine (rshape_at (n := ⟨xk, xf, xd, xn, xt, 0, 0⟩) H HSE.out).mono ?_); rintro e w1 ⟨rfl, H1⟩; clear H; have H := H1; clear H1))
          | ((with_reducible refine gLd ?_); refine eLd H rfl rfl ?_; first | ((repeat ((with_reducible refine gEx ?_); first | (refine kLd 0 rfl rfl (by exact TT _ rfl) rfl ?_) | (refine kLdA 0 rfl rfl (by exact TT _ rfl) (Nat.le_of_ble_eq_true rfl) (by simp only [Nd.cells, Nd.zero, LS2]; rfl) ?_) | (refine nxL ?_))); fail_if_success (with_reducible refine gEx ?_)))
          | ((with_reducible refine gSt ?_); (first | (refine eSt H rfl rfl ⟨.int _ _, rfl, ?_⟩) | (refine eSt H rfl rfl ⟨.bool _, rfl, ?_⟩) | (refine eSt H rfl rfl ⟨.slice _ _ _, rfl, ?_⟩) | (refine eSt H rfl rfl ⟨.pointer _, rfl, ?_⟩) | (refine eSt H rfl rfl ⟨.string _, rfl, ?_⟩) | (refine eSt H rfl rfl ⟨.agg (List.toArray _), rfl, ?_⟩)); (first | ((repeat ((with_reducible refine gES ?_); first | (refine kSt 0 rfl rfl (by exact TT _ rfl) rfl (Nat.le_of_ble_eq_true rfl) ?_) | (refine kStA 0 rfl rfl (by exact TT _ rfl) rfl rfl (Nat.le_of_ble_eq_true rfl) ?_) | (refine nxS ?_))); fail_if_success (with_reducible refine gES ?_))); clear H; intro w1 H; simp only [List.set_cons_zero, List.set_cons_succ] at H; (try simp only [lay, LS1, Nat.reduceAdd] at H))
          | ((with_reducible refine gBx ?_); refine bxA H rfl rfl rfl ?_; clear H; intro b1 w1 H)
          | ((with_reducible refine gBs ?_); (first | (refine bs1 H rfl (by exact SS _ rfl) rfl (Nat.le_of_ble_eq_true rfl) (Nat.le_of_ble_eq_true rfl) rfl ?_) | (refine wl_buildSlice0 rfl (by exact SS _ rfl) H ?_)); clear H; intro b1 w1 H)
          | ((with_reducible refine gEq ?_); (first | (refine wl_cmp rfl rfl rfl rfl ?_) | (refine wl_scmp rfl rfl rfl rfl ?_)); intro rb hrb; cases rb <;> (first | (exfalso; simp at hrb; done) | ((try simp only [CS1, gt_iff_lt, ge_iff_le, ne_eq, Decidable.not_not] at hrb); (try subst hrb); (try (exfalso; omega)))))
          | ((with_reducible refine gAl ?_); (first | (refine al H Z33 rfl rfl ?_) | (refine al H Z110 rfl rfl ?_)); clear H; intro b1 w1 H)
          | ((with_reducible refine gRg ?_); refine wp_region_text rfl (by decide +kernel) ?_; replace H := H.drew)
          | ((with_reducible refine EndQ.intro ?_ ?_); (· kernel_rfl))))
      have K1 := onL H (fun u hu => kidsN_at hu HKD.out)
      go_wp2_with (first
          | ((with_reducible refine gRg ?_); refine wp_region_UH H rfl (by decide +kernel) ?_; replace H := H.drew; repeat' (first | (refine twL_ldskip rfl ?_; (try simp only [Act.put, List.setIfInBounds_toArray, List.set_cons_succ, List.set_cons_zero])) | (refine twL_ld (fun u h => h) rfl rfl ?_; (first | ((repeat ((with_reducible refine gEx ?_); first | (refine kLd 0 rfl rfl (by exact TT _ rfl) rfl ?_) | (refine kLdA 0 rfl rfl (by exact TT _ rfl) (Nat.le_of_ble_eq_true rfl) (by simp only [Nd.cells, Nd.zero, LS2]; rfl) ?_) | (refine nxL ?_))); fail_if_success (with_reducible refine gEx ?_))); (try simp only [Act.put, List.setIfInBounds_toArray, List.set_cons_succ, List.set_cons_zero])) | (refine twL_skip rfl rfl (H) ?_; (try simp only [Act.put, List.setIfInBounds_toArray, List.set_cons_succ, List.set_cons_zero])) | (refine twL_op rfl rfl ?_; intro K hK; first | ((with_reducible refine oStG ?_); (first | (refine oSt H rfl ⟨.int _ _, rfl, ?_⟩) | (refine oSt H rfl ⟨.bool _, rfl, ?_⟩) | (refine oSt H rfl ⟨.slice _ _ _, rfl, ?_⟩) | (refine oSt H rfl ⟨.pointer _, rfl, ?_⟩) | (refine oSt H rfl ⟨.string _, rfl, ?_⟩) | (refine oSt H rfl ⟨.agg (List.toArray _), rfl, ?_⟩)); (first | ((repeat ((with_reducible refine gES ?_); first | (refine kSt 0 rfl rfl (by exact TT _ rfl) rfl (Nat.le_of_ble_eq_true rfl) ?_) | (refine kStA 0 rfl rfl (by exact TT _ rfl) rfl rfl (Nat.le_of_ble_eq_true rfl) ?_) | (refine nxS ?_))); fail_if_success (with_reducible refine gES ?_))); clear H; intro w1 H; simp only [List.set_cons_zero, List.set_cons_succ] at H; (first | refine hK _ _ (H) ?_); clear hK K; (try simp only [Act.put, List.setIfInBounds_toArray, List.set_cons_succ, List.set_cons_zero])) | ((with_reducible refine oBinG ?_); (first | (refine oCmp rfl rfl rfl ?_) | (refine oScmp rfl rfl rfl ?_)); intro rb hrb; cases rb <;> (first | (exfalso; simp at hrb; done) | ((try simp only [CS1, gt_iff_lt, ge_iff_le, ne_eq, Decidable.not_not] at hrb); (try subst hrb); (try (exfalso; omega)))) <;> ((first | refine hK _ _ (H) ?_); clear hK K; (try simp only [Act.put, List.setIfInBounds_toArray, List.set_cons_succ, List.set_cons_zero]))) | ((with_reducible refine oCallG ?_); go_simp; go_at_call 49; (with_reducible refine (K1 _ H).mono ?_); rintro e w1 ⟨rfl, H1⟩; clear H; have H := H1; clear H1; (try simp only []); (first | refine hK _ _ (H) ?_); clear hK K; (try simp only [Act.put, List.setIfInBounds_toArray, List.set_cons_succ, List.set_cons_zero])) | (go_simp; (first | refine hK _ _ (H) ?_); clear hK K)) | (refine twL_nil ?_; refine EndQ.intro (by kernel_rfl) ?_))))
      go_loopg [7, 8] N (fun g v7 v8 wr => ∃ (k : Nat) (e9 sn : Int), v7 = .int .i64 e9 ∧ v8 = .int .i64 (k : Int) ∧ k + g = N ∧ Hid (lkE e9 (ptL (ks.drop k)) (ins + 1) sn = (er, s2)) ∧ 0 ≤ sn ∧ sn ≤ 4096 ∧ 0 ≤ e9 ∧ e9 ≤ 53 ∧ Hp w0 D (⟨some bx, [.int .i64 xk, .int .i64 xf, .int .i64 xd, .int .u64 xn, .string xt, .slice xa N xc], 50, 6⟩ :: eI b sn :: R) wr)
      case atStart => exact ⟨0, _, sn + 1, rfl, rfl, by omega, Lib.hid hr, by omega, by omega, by omega, by omega, H⟩
      case round =>
        clear H hr h1
        obtain ⟨k, e9, sn, rfl, rfl, hkg, HR, hs0, hs1, he0, he1, H⟩ := hrel
        have HKG := Lib.hid hkg
        by_cases hk : k < N
        · have hkl : k < ks.length := by rw [HN.out]; exact hk
          obtain ⟨y, hx⟩ : ∃ y, ks[k]? = some y := ⟨_, List.getElem?_eq_getElem hkl⟩
          have hst := HR.out
          rw [ptL_step hx] at hst
          have HE := Lib.hid (rowsT_at hx)
          obtain ⟨xb, xo, rfl, hO⟩ := HRD.out.some_of (by rw [rowsT_length]; omega)
          have HTX := Lib.hid (HS.out y (List.mem_of_getElem? hx))
          have HX : Hid (y ∈ (Tr.mk xk xf xd xn xt (some ⟨xb, xo, none⟩) xc ks).kids) := Lib.hid (List.mem_of_getElem? hx)
          by_cases h9 : e9 = 0
          · subst h9
            obtain ⟨q, z, hq⟩ : ∃ q z, looksT y.pt (ins + 1) sn = (q, z) := ⟨_, _, rfl⟩
            have hb1 := looksT_bd y.pt (ins + 1) sn hs0 hs1
            have hb2 := looksT_er y.pt (ins + 1) sn
            rw [hq] at hb1 hb2
            dsimp only at hb1 hb2
            rw [lkE_step hq] at hst
            have HR2 := Lib.hid hst
            have HPX := Lib.hid hq
            obtain ⟨hb1, hb3⟩ := hb1
            obtain ⟨hb2, hb4⟩ := hb2
            clear hst hx hkg hq hkl HR HRD HS
            go_wp2_with (first
          | ((with_reducible refine gLd ?_); refine wl_loadR (agg := true) (n := 6) (k := k * 6) (hO [_, _] _ H) rfl rfl (by first | rfl | omega) T50 HE.out ?_)
          | (go_at_call 78; have H2 := Hp.swap (A := [_]) (B := [_]) H; simp only [List.cons_append, List.nil_append] at H2; (refine (ih y HX.out (R := ⟨some bx, [.int .i64 xk, .int .i64 xf, .int .i64 xd, .int .u64 xn, .string xt, .slice (some ⟨xb, xo, none⟩) N xc], 50, 6⟩ :: R) _ b H2 (HTX.out.push [⟨some bx, [.int .i64 xk, .int .i64 xf, .int .i64 xd, .int .u64 xn, .string xt, .slice (some ⟨xb, xo, none⟩) N xc], 50, 6⟩]) (by omega) (by omega) (by omega) (by omega) HPX.out).mono ?_); rintro e w1 ⟨rfl, H1⟩; clear H H2; have H := Hp.swap (A := [_]) (B := [_]) H1; clear H1; simp only [List.cons_append, List.nil_append] at H)
          | ((with_reducible refine gLd ?_); refine eLd H rfl rfl ?_; first | ((repeat ((with_reducible refine gEx ?_); first | (refine kLd 0 rfl rfl (by exact TT _ rfl) rfl ?_) | (refine kLdA 0 rfl rfl (by exact TT _ rfl) (Nat.le_of_ble_eq_true rfl) (by simp only [Nd.cells, Nd.zero, LS2]; rfl) ?_) | (refine nxL ?_))); fail_if_success (with_reducible refine gEx ?_)))
          | ((with_reducible refine gEq ?_); (first | (refine wl_cmp rfl rfl rfl rfl ?_) | (refine wl_scmp rfl rfl rfl rfl ?_)); intro rb hrb; cases rb <;> (first | (exfalso; simp at hrb; done) | ((try simp only [CS1, gt_iff_lt, ge_iff_le, ne_eq, Decidable.not_not] at hrb); (try subst hrb); (try (exfalso; omega))))))
            go_roundg (gk - 1)
            case measure => have := HKG.out; omega
            case rel => exact ⟨k + 1, q, z, by go_num, by go_num, by have := HKG.out; omega, HR2, by omega, by omega, by omega, by omega, H⟩
          · rw [lkE_no h9] at hst
            simp only [Prod.mk.injEq] at hst
            obtain ⟨rfl, rfl⟩ := hst
            clear hx hkg hkl HR HRD HS
            go_wp2_with (first
          | ((with_reducible refine gEq ?_); (first | (refine wl_cmp rfl rfl rfl rfl ?_) | (refine wl_scmp rfl rfl rfl rfl ?_)); intro rb hrb; cases rb <;> (first | (exfalso; simp at hrb; done) | ((try simp only [CS1, gt_iff_lt, ge_iff_le, ne_eq, Decidable.not_not] at hrb); (try subst hrb); (try (exfalso; omega))))))
            go_ret
            exact ⟨rfl, H.drop⟩
        · have hst := HR.out
          rw [ptL_end (by have := HN.out; omega), lkE_end] at hst
          simp only [Prod.mk.injEq] at hst
          obtain ⟨rfl, rfl⟩ := hst
          clear hkg HR HRD HS
          go_wp2_with (first
          | ((with_reducible refine gLd ?_); refine eLd H rfl rfl ?_; first | ((repeat ((with_reducible refine gEx ?_); first | (refine kLd 0 rfl rfl (by exact TT _ rfl) rfl ?_) | (refine kLdA 0 rfl rfl (by exact TT _ rfl) (Nat.le_of_ble_eq_true rfl) (by simp only [Nd.cells, Nd.zero, LS2]; rfl) ?_) | (refine nxL ?_))); fail_if_success (with_reducible refine gEx ?_)))
          | ((with_reducible refine gEq ?_); (first | (refine wl_cmp rfl rfl rfl rfl ?_) | (refine wl_scmp rfl rfl rfl rfl ?_)); intro rb hrb; cases rb <;> (first | (exfalso; simp at hrb; done) | ((try simp only [CS1, gt_iff_lt, ge_iff_le, ne_eq, Decidable.not_not] at hrb); (try subst hrb); (try (exfalso; omega))))))
          all_goals go_ret
          all_goals exact ⟨rfl, H.drop⟩
theorem Z3 : zI Try.prog 3 = some (.int .i64 0) := by kernel_rfl
set_option maxHeartbeats 4000000 in
theorem Looks_spec {w0 w : World} {D : Nat → Prop} {R : List Ent} {t : Tr} {er s2 : Int} (H : Hp w0 D (R) w) (ht : TrR w0 D R t) (hr : looksT t.pt 0 0 = (er, s2)) :
    Calls Try.prog 58 #[.agg t.cells.toArray] w fun e w' => e = .returned (.int .i64 er) ∧ Hp w0 D (R) w' := by
  have HT := Lib.hid ht
  have HQ := Lib.hid hr
  obtain ⟨xk, xf, xd, xn, xt, xa, xc, ks⟩ := t
  clear ht hr
  all_goals simp only [Tr.cells] at *
  all_goals go_enter Try.func58, Try.ntmps58
  all_goals go_wp2_with (first
    | ((with_reducible refine gAl ?_); refine wl_alloc rfl Z3 H ?_; clear H; intro b4 w1 H; replace H : Hp w0 D (⟨some b4, [.int .i64 0], 3, 1⟩ :: _) w1 := H)
    | (go_at_call 78; (refine (looked_spec (.mk xk xf xd xn xt xa xc ks) _ _ H (HT.out.push [_]) (by omega) (by omega) (by omega) (by omega) HQ.out).mono ?_; rintro e w1 ⟨rfl, H1⟩; clear H; have H := H1; clear H1))
    | ((with_reducible refine gLd ?_); refine eLd H rfl rfl ?_; first | ((repeat ((with_reducible refine gEx ?_); first | (refine kLd 0 rfl rfl (by exact TT _ rfl) rfl ?_) | (refine kLdA 0 rfl rfl (by exact TT _ rfl) (Nat.le_of_ble_eq_true rfl) (by simp only [Nd.cells, Nd.zero, LS2]; rfl) ?_) | (refine nxL ?_))); fail_if_success (with_reducible refine gEx ?_)))
    | ((with_reducible refine gSt ?_); (first | (refine eSt H rfl rfl ⟨.int _ _, rfl, ?_⟩) | (refine eSt H rfl rfl ⟨.bool _, rfl, ?_⟩) | (refine eSt H rfl rfl ⟨.slice _ _ _, rfl, ?_⟩) | (refine eSt H rfl rfl ⟨.pointer _, rfl, ?_⟩) | (refine eSt H rfl rfl ⟨.string _, rfl, ?_⟩) | (refine eSt H rfl rfl ⟨.agg (List.toArray _), rfl, ?_⟩)); (first | ((repeat ((with_reducible refine gES ?_); first | (refine kSt 0 rfl rfl (by exact TT _ rfl) rfl (Nat.le_of_ble_eq_true rfl) ?_) | (refine kStA 0 rfl rfl (by exact TT _ rfl) rfl rfl (Nat.le_of_ble_eq_true rfl) ?_) | (refine nxS ?_))); fail_if_success (with_reducible refine gES ?_))); clear H; intro w1 H; simp only [List.set_cons_zero, List.set_cons_succ] at H; (try simp only [lay, LS1, Nat.reduceAdd] at H))
    | ((with_reducible refine gBx ?_); refine bxA H rfl rfl rfl ?_; clear H; intro b1 w1 H))
  all_goals go_ret
  all_goals exact ⟨rfl, H.drop.drop⟩
end Go.Proofs.Ytebecelhcpljaaa
