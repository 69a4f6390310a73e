/- Trees: Parts, large, Same. -/
import Derived.Test.YtebecelhcpljaaaW4
import Derived.Test.YtebecelhcpljaaaPlain2
import Derived.Test.YtebecelhcpljaaaTreeO
import Derived.Test.YtebecelhcpljaaaGxRd
import Derived.Test.YtebecelhcpljaaaGxRegionU
import Derived.Test.YtebecelhcpljaaaGxBH
import Derived.Deep.Cut
import Derived.WalkKit
import Derived.Lib.Hide
import Derived.Deep.LoopGhost
import Derived.WalkSpells
set_option linter.unusedVariables false
set_option linter.unusedSimpArgs false
namespace Go.Proofs.Ytebecelhcpljaaa
open Go.RowKit Go.Gx Go.Gx.Trm
set_option maxRecDepth 100000
theorem rowsT_drop (l : List Tr) : ∀ k, (rowsT l).drop (k * 6) = rowsT (l.drop k) := by
  induction l with
  | nil => intro k; simp [rowsT]
  | cons x l ih =>
    intro k
    cases k with
    | zero => simp
    | succ k =>
      have : rowsT (x :: l) = x.cells ++ rowsT l := by simp [rowsT]
      rw [this, List.drop_append, List.drop_succ_cons, ← ih k, List.drop_of_length_le (by rw [Tr.cells_len]; omega), List.nil_append]
      congr 1; rw [Tr.cells_len]; omega
theorem rowsT_at {l : List Tr} {k : Nat} {p : Tr} (h : l[k]? = some p) : pick true 6 (rowsT l) (k * 6) = some (.agg p.cells.toArray) := by
  obtain ⟨hlt, rfl⟩ := List.getElem?_eq_some_iff.1 h
  have h1 : ((rowsT l).drop (k * 6)).take 6 = l[k].cells := by
    rw [rowsT_drop, List.drop_eq_getElem_cons hlt]
    have : rowsT (l[k] :: l.drop (k + 1)) = l[k].cells ++ rowsT (l.drop (k + 1)) := List.flatMap_cons
    rw [this, List.take_left' (Tr.cells_len _)]
  have h2 : k * 6 + 6 ≤ (rowsT l).length := by rw [rowsT_length]; omega
  simp [pick, h2, h1]
theorem ptL_step {ks : List Tr} {k : Nat} {x : Tr} (h : ks[k]? = some x) : ptL (ks.drop k) = x.pt :: ptL (ks.drop (k + 1)) := by
  obtain ⟨hlt, rfl⟩ := List.getElem?_eq_some_iff.1 h
  rw [List.drop_eq_getElem_cons hlt]; simp only [ptL]
theorem ptL_end {ks : List Tr} {k : Nat} (h : ks.length ≤ k) : ptL (ks.drop k) = [] := by
  rw [List.drop_of_length_le h]; simp only [ptL]
set_option maxHeartbeats 4000000 in
theorem Parts_app {w0 : World} {D : Nat → Prop} : ∀ (t : Tr), ∀ (A : List Ent) {R : List Ent} (w : World) {m r : Int}, Hp w0 D (A ++ R) w → TrR w0 D (A ++ R) t → 0 ≤ m → m ≤ 6000 → partsT t.pt m = r →
    Calls Try.prog 54 #[.agg t.cells.toArray, .int .i64 m] w fun e w' => e = .returned (.int .i64 r) ∧ Hp w0 D (A ++ R) w' := by
  intro t
  induction t using Tr.ind with
  | h t ih =>
  obtain ⟨xk, xf, xd, xn, xt, xa, xc, ks⟩ := t
  intro A R w m r H ht hm0 hm1 hr
  obtain ⟨R, rfl⟩ : ∃ S, S = A ++ R := ⟨_, rfl⟩
  cases ht with
  | mk hrd hc hle hs =>
  simp only [Tr.pt, partsT] at hr
  obtain ⟨N, hN⟩ : ∃ N, ks.length = N := ⟨_, rfl⟩
  have HN := Lib.hid hN
  have HRD := Lib.hid hrd
  have HS := Lib.hid hs
  simp only [Tr.cells]
  rw [hN] at hc hle ⊢
  clear hN hrd hs
  generalize A ++ R = R at *
  go_enter Try.func54, Try.ntmps54
  go_wp2_with (first
    | ((with_reducible refine gBx ?_); refine bxA H rfl rfl rfl ?_; clear H; intro b1 w1 H))
  obtain ⟨b2, rfl⟩ : ∃ z, z = b1 := ⟨_, rfl⟩
  go_loopg [5, 6] N (fun g v5 v6 wr => ∃ (k : Nat) (n : Int), v5 = .int .i64 n ∧ v6 = .int .i64 (k : Int) ∧ k + g = N ∧ Hid (partsL (ptL (ks.drop k)) m n = r) ∧ 1 ≤ n ∧ n ≤ m + 1 ∧ Hp w0 D (⟨some b2, [.int .i64 xk, .int .i64 xf, .int .i64 xd, .int .u64 xn, .string xt, .slice xa N xc], 50, 6⟩ :: R) wr)
  case atStart => exact ⟨0, 1, rfl, rfl, by omega, Lib.hid hr, by omega, by omega, H⟩
  case round =>
    clear H hr
    obtain ⟨k, n, rfl, rfl, hkg, HR, hn1, hn2, H⟩ := hrel
    have HKG := Lib.hid hkg
    by_cases hk : k < N
    · have hkl : k < ks.length := by rw [HN.out]; exact hk
      obtain ⟨x, hx⟩ : ∃ x, ks[k]? = some x := ⟨_, List.getElem?_eq_getElem hkl⟩
      have hst := HR.out
      rw [ptL_step hx] at hst
      simp only [partsL] at hst
      have HE := Lib.hid (rowsT_at hx)
      obtain ⟨xb, xo, rfl, hO⟩ := HRD.out.some_of (by rw [rowsT_length]; omega)
      have HTX := Lib.hid (HS.out x (List.mem_of_getElem? hx))
      have HX : Hid (x ∈ (Tr.mk xk xf xd xn xt (some ⟨xb, xo, none⟩) xc ks).kids) := Lib.hid (List.mem_of_getElem? hx)
      obtain ⟨q, hq⟩ : ∃ q, partsT x.pt (m - n) = q := ⟨_, rfl⟩
      by_cases hnm : n ≤ m
      · have hb := partsT_bd x.pt (m - n) (by omega)
        rw [hq] at hb hst
        rw [if_pos hnm] at hst
        have HR2 := Lib.hid hst
        have HPX := Lib.hid hq
        obtain ⟨hb1, hb2⟩ := hb
        clear hst hx hkg hq hkl HR HRD HS
        go_wp2_with (first
    | ((with_reducible refine gLd ?_); refine wl_loadR (agg := true) (n := 6) (k := k * 6) (hO [_] _ H) rfl rfl (by first | rfl | omega) T50 HE.out ?_)
    | (go_at_call 54; (refine (ih x HX.out [_] _ H (HTX.out.push _) (by omega) (by omega) HPX.out).mono ?_; rintro e w1 ⟨rfl, H1⟩; clear H; have H := H1; clear H1; (try simp only [List.cons_append, List.nil_append] at H)))
    | ((with_reducible refine gLd ?_); refine eLd H rfl rfl ?_; first | ((repeat ((with_reducible refine gEx ?_); first | (refine kLd 0 rfl rfl (by exact TT _ rfl) rfl ?_) | (refine kLdA 0 rfl rfl (by exact TT _ rfl) (Nat.le_of_ble_eq_true rfl) (by simp only [Nd.cells, Nd.zero, LS2]; rfl) ?_) | (refine nxL ?_))); fail_if_success (with_reducible refine gEx ?_)))
    | ((with_reducible refine gEq ?_); (first | (refine wl_cmp rfl rfl rfl rfl ?_) | (refine wl_scmp rfl rfl rfl rfl ?_)); intro rb hrb; cases rb <;> (first | (exfalso; simp at hrb; done) | ((try simp only [CS1, gt_iff_lt, ge_iff_le, ne_eq, Decidable.not_not] at hrb); (try subst hrb); (try (exfalso; omega))))))
        go_roundg (gk - 1)
        case measure => have := HKG.out; omega
        case rel => exact ⟨k + 1, n + q, by go_num, by go_num, by have := HKG.out; omega, HR2, by omega, by omega, H⟩
      · rw [if_neg hnm] at hst
        subst hst
        clear hx hkg hq hkl HR HRD HS
        go_wp2_with (first
    | ((with_reducible refine gLd ?_); refine eLd H rfl rfl ?_; first | ((repeat ((with_reducible refine gEx ?_); first | (refine kLd 0 rfl rfl (by exact TT _ rfl) rfl ?_) | (refine kLdA 0 rfl rfl (by exact TT _ rfl) (Nat.le_of_ble_eq_true rfl) (by simp only [Nd.cells, Nd.zero, LS2]; rfl) ?_) | (refine nxL ?_))); fail_if_success (with_reducible refine gEx ?_)))
    | ((with_reducible refine gEq ?_); (first | (refine wl_cmp rfl rfl rfl rfl ?_) | (refine wl_scmp rfl rfl rfl rfl ?_)); intro rb hrb; cases rb <;> (first | (exfalso; simp at hrb; done) | ((try simp only [CS1, gt_iff_lt, ge_iff_le, ne_eq, Decidable.not_not] at hrb); (try subst hrb); (try (exfalso; omega))))))
        go_ret
        exact ⟨rfl, H.drop⟩
    · have hst := HR.out
      rw [ptL_end (by have := HN.out; omega)] at hst
      simp only [partsL] at hst
      subst hst
      clear hkg HR HRD HS
      go_wp2_with (first
    | ((with_reducible refine gLd ?_); refine eLd H rfl rfl ?_; first | ((repeat ((with_reducible refine gEx ?_); first | (refine kLd 0 rfl rfl (by exact TT _ rfl) rfl ?_) | (refine kLdA 0 rfl rfl (by exact TT _ rfl) (Nat.le_of_ble_eq_true rfl) (by simp only [Nd.cells, Nd.zero, LS2]; rfl) ?_) | (refine nxL ?_))); fail_if_success (with_reducible refine gEx ?_)))
    | ((with_reducible refine gEq ?_); (first | (refine wl_cmp rfl rfl rfl rfl ?_) | (refine wl_scmp rfl rfl rfl rfl ?_)); intro rb hrb; cases rb <;> (first | (exfalso; simp at hrb; done) | ((try simp only [CS1, gt_iff_lt, ge_iff_le, ne_eq, Decidable.not_not] at hrb); (try subst hrb); (try (exfalso; omega))))))
      go_ret
      exact ⟨rfl, H.drop⟩
theorem Parts_spec {w0 : World} {D : Nat → Prop} {R : List Ent} {w : World} {t : Tr} {m r : Int} (H : Hp w0 D R w) (ht : TrR w0 D R t) (h0 : 0 ≤ m) (h1 : m ≤ 6000) (hr : partsT t.pt m = r) :
    Calls Try.prog 54 #[.agg t.cells.toArray, .int .i64 m] w fun e w' => e = .returned (.int .i64 r) ∧ Hp w0 D R w' := Parts_app t [] w H ht h0 h1 hr
section
variable {P : Program} {w0 w : World} {D : Nat → Prop} {L R : List Ent} {a : Act}
theorem run_ldRA {b o o' k n : Nat} {vs : List Value} {v : Value} {agg : Bool} {dst : Option Tmp} {t ty : TypeId} {ad : Operand} {pos : String} {af : Array Edge} {g : Option (Nat × Bool)}
    (hO : ∀ (j : Nat) (u : Value), vs[j]? = some u → w.cell? ⟨b, o + j, none⟩ = some u) (hx : a.eval ad = .pointer (some ⟨b, o', none⟩)) (he : o' = o + k) (ht : tI P t = some (agg, n)) (hv : pick agg n vs k = some v) :
    (execOp a.eval ⟨dst, .load t ad, ty, pos, af, g⟩).run P w = .ok (.value v) w := by
  subst he
  simp only [execOp, hx, Instr.loadAt, Instr.sureAddr, Sem.run_bind, Sem.run_pure, Result.andThen_ok, cells_load hO ht hv]
end
set_option maxHeartbeats 4000000 in
theorem large_spec {w0 w : World} {D : Nat → Prop} {R : List Ent} {t : Tr} {q : Int} {r : Bool} (H : Hp w0 D (R) w) (ht : TrR w0 D R t) (hq : partsT t.pt 6000 = q) (hr : decide (6000 < q) = r) :
    Calls Try.prog 23 #[.agg t.cells.toArray] w fun e w' => e = .returned (.bool r) ∧ Hp w0 D (R) w' := by
  have HT := Lib.hid ht
  have HQ := Lib.hid hq
  obtain ⟨xk, xf, xd, xn, xt, xa, xc, ks⟩ := t
  clear ht hq
  all_goals simp only [Tr.cells] at *
  cases r
  all_goals simp only [decide_eq_true_eq, decide_eq_false_iff_not] at hr
  all_goals go_enter Try.func23, Try.ntmps23
  all_goals go_wp2_with (first
    | (go_at_call 54; (refine (Parts_spec (t := .mk xk xf xd xn xt xa xc ks) H (HT.out.push [_]) (by omega) (by omega) HQ.out).mono ?_; rintro e w1 ⟨rfl, H1⟩; clear H; have H := H1; clear H1))
    | ((with_reducible refine gLd ?_); refine eLd H rfl rfl ?_; first | ((repeat ((with_reducible refine gEx ?_); first | (refine kLd 0 rfl rfl (by exact TT _ rfl) rfl ?_) | (refine kLdA 0 rfl rfl (by exact TT _ rfl) (Nat.le_of_ble_eq_true rfl) (by simp only [Nd.cells, Nd.zero, LS2]; rfl) ?_) | (refine nxL ?_))); fail_if_success (with_reducible refine gEx ?_)))
    | ((with_reducible refine gBx ?_); refine bxA H rfl rfl rfl ?_; clear H; intro b1 w1 H)
    | ((with_reducible refine gEq ?_); (first | (refine wl_cmp rfl rfl rfl rfl ?_) | (refine wl_scmp rfl rfl rfl rfl ?_)); intro rb hrb; cases rb <;> (first | (exfalso; simp at hrb; done) | ((try simp only [CS1, gt_iff_lt, ge_iff_le, ne_eq, Decidable.not_not] at hrb); (try subst hrb); (try (exfalso; omega))))))
  all_goals go_ret
  all_goals exact ⟨rfl, H.drop⟩
set_option maxHeartbeats 4000000 in
theorem Same_no {w0 w : World} {D : Nat → Prop} {R : List Ent} {xk xf xd xn yk yf yd yn : Int} {xt yt : ByteArray} {xa ya : Option Addr} {xc yc M N : Nat} (H : Hp w0 D (R) w) (h : ¬ (xk = yk ∧ xf = yf ∧ xd = yd ∧ xn = yn ∧ xt.toList = yt.toList ∧ N = M)) :
    Calls Try.prog 27 #[.agg (List.toArray [.int .i64 xk, .int .i64 xf, .int .i64 xd, .int .u64 xn, .string xt, .slice xa N xc]), .agg (List.toArray [.int .i64 yk, .int .i64 yf, .int .i64 yd, .int .u64 yn, .string yt, .slice ya M yc])] w fun e w' => e = .returned (.bool false) ∧ Hp w0 D (R) w' := by
  rcases (show (¬ xk = yk) ∨ (xk = yk ∧ ¬ xf = yf) ∨ (xk = yk ∧ xf = yf ∧ ¬ xd = yd) ∨ (xk = yk ∧ xf = yf ∧ xd = yd ∧ ¬ xn = yn) ∨ (xk = yk ∧ xf = yf ∧ xd = yd ∧ xn = yn ∧ ¬ xt.toList = yt.toList) ∨ (xk = yk ∧ xf = yf ∧ xd = yd ∧ xn = yn ∧ xt.toList = yt.toList ∧ ¬ (N : Int) = (M : Int)) from (by by_cases h1 : xk = yk <;> by_cases h2 : xf = yf <;> by_cases h3 : xd = yd <;> by_cases h4 : xn = yn <;> by_cases h5 : xt.toList = yt.toList <;> by_cases h6 : N = M <;> simp_all <;> omega)) with h1 | ⟨rfl, h1⟩ | ⟨rfl, rfl, h1⟩ | ⟨rfl, rfl, rfl, h1⟩ | ⟨rfl, rfl, rfl, rfl, h1⟩ | ⟨rfl, rfl, rfl, rfl, h2, h1⟩
  case inr.inr.inr.inr.inr => (obtain rfl : xt = yt := sEq_iff.1 (by unfold sEq; rw [beq_iff_eq]; exact h2)); clear h2 h; go_enter Try.func27, Try.ntmps27; go_wp2_with (first
    | ((with_reducible refine gLd ?_); refine eLd H rfl rfl ?_; first | ((repeat ((with_reducible refine gEx ?_); first | (refine kLd 0 rfl rfl (by exact TT _ rfl) rfl ?_) | (refine kLdA 0 rfl rfl (by exact TT _ rfl) (Nat.le_of_ble_eq_true rfl) (by simp only [Nd.cells, Nd.zero, LS2]; rfl) ?_) | (refine nxL ?_))); fail_if_success (with_reducible refine gEx ?_)))
    | ((with_reducible refine gBx ?_); refine bxA H rfl rfl rfl ?_; clear H; intro b1 w1 H)
    | ((with_reducible refine gEq ?_); (first | (refine wl_cmp rfl rfl rfl rfl ?_) | (refine wl_scmp rfl rfl rfl rfl ?_)); intro rb hrb; cases rb <;> (first | (exfalso; simp at hrb; done) | ((try simp only [CS1, gt_iff_lt, ge_iff_le, ne_eq, Decidable.not_not] at hrb); (try subst hrb); (try (exfalso; omega)))))); go_ret; exact ⟨rfl, H.drop.drop⟩
  all_goals clear h
  all_goals go_enter Try.func27, Try.ntmps27
  all_goals go_wp2_with (first
    | ((with_reducible refine gLd ?_); refine eLd H rfl rfl ?_; first | ((repeat ((with_reducible refine gEx ?_); first | (refine kLd 0 rfl rfl (by exact TT _ rfl) rfl ?_) | (refine kLdA 0 rfl rfl (by exact TT _ rfl) (Nat.le_of_ble_eq_true rfl) (by simp only [Nd.cells, Nd.zero, LS2]; rfl) ?_) | (refine nxL ?_))); fail_if_success (with_reducible refine gEx ?_)))
    | ((with_reducible refine gBx ?_); refine bxA H rfl rfl rfl ?_; clear H; intro b1 w1 H)
    | ((with_reducible refine gEq ?_); (first | (refine wl_cmp rfl rfl rfl rfl ?_) | (refine wl_scmp rfl rfl rfl rfl ?_)); intro rb hrb; cases rb <;> (first | (exfalso; simp at hrb; done) | ((try simp only [CS1, gt_iff_lt, ge_iff_le, ne_eq, Decidable.not_not] at hrb); (try subst hrb); (try (exfalso; omega))))))
  all_goals (first | (exfalso; contradiction) | (go_ret; exact ⟨rfl, H.drop.drop⟩))
set_option maxHeartbeats 8000000 in
theorem Same_spec {w0 : World} {D : Nat → Prop} : ∀ (t : Tr), ∀ (s : Tr) {R : List Ent} (w : World) {r : Bool}, Hp w0 D R w → TrR w0 D R t → TrR w0 D R s → t.pt.beq s.pt = r →
    Calls Try.prog 27 #[.agg t.cells.toArray, .agg s.cells.toArray] w fun e w' => e = .returned (.bool r) ∧ Hp w0 D R w' := by
  intro t
  induction t using Tr.ind with
  | h t ih =>
  obtain ⟨xk, xf, xd, xn, xt, xa, xc, ks⟩ := t
  intro s R w r H ht hs hr
  obtain ⟨yk, yf, yd, yn, yt, ya, yc, js⟩ := s
  by_cases hh : xk = yk ∧ xf = yf ∧ xd = yd ∧ xn = yn ∧ xt.toList = yt.toList ∧ ks.length = js.length
  · obtain ⟨rfl, rfl, rfl, rfl, h5, hN2⟩ := hh
    have h5 : xt = yt := sEq_iff.1 (by unfold sEq; rw [beq_iff_eq]; exact h5)
    subst h5
    cases ht with
    | mk hrd hc hle hks =>
    cases hs with
    | mk hrd2 hc2 hle2 hjs =>
    simp only [Tr.pt, Pt.beq, beq_self_eq_true, Bool.true_and, ptL_len, hN2, sEq_iff.2 rfl] at hr
    obtain ⟨N, hN⟩ : ∃ N, ks.length = N := ⟨_, rfl⟩
    have HN := Lib.hid hN
    have HM : Hid (js.length = N) := Lib.hid (by rw [← hN2]; exact hN)
    have HRD := Lib.hid hrd
    have HRD2 := Lib.hid hrd2
    have HS := Lib.hid hks
    have HS2 := Lib.hid hjs
    simp only [Tr.cells]
    rw [hN] at hc hle hN2 ⊢
    rw [← hN2] at hc2 hle2 ⊢
    clear hN hN2 hrd hrd2 hks hjs
    go_enter Try.func27, Try.ntmps27
    go_wp2_with (first
    | ((with_reducible refine gBx ?_); first | (have hq := bz; clear hq; refine bxA H rfl rfl rfl ?_; clear H; intro b3 w1 H) | (refine bxA H rfl rfl rfl ?_; clear H; intro bz w1 H))
    | ((with_reducible refine gLd ?_); refine eLd H rfl rfl ?_; first | ((repeat ((with_reducible refine gEx ?_); first | (refine kLd 0 rfl rfl (by exact TT _ rfl) rfl ?_) | (refine kLdA 0 rfl rfl (by exact TT _ rfl) (Nat.le_of_ble_eq_true rfl) (by simp only [Nd.cells, Nd.zero, LS2]; rfl) ?_) | (refine nxL ?_))); fail_if_success (with_reducible refine gEx ?_)))
    | ((with_reducible refine gEq ?_); (first | (refine wl_cmp rfl rfl rfl rfl ?_) | (refine wl_scmp rfl rfl rfl rfl ?_)); intro rb hrb; cases rb <;> (first | (exfalso; simp at hrb; done) | ((try simp only [CS1, gt_iff_lt, ge_iff_le, ne_eq, Decidable.not_not] at hrb); (try subst hrb); (try (exfalso; omega))))))
    go_loopg [5] N (fun g v5 wr => ∃ (k : Nat), v5 = .int .i64 (k : Int) ∧ k + g = N ∧ Hid (beqL (ptL (ks.drop k)) (ptL (js.drop k)) = r) ∧ Hp w0 D (⟨some b3, [.int .i64 xk, .int .i64 xf, .int .i64 xd, .int .u64 xn, .string xt, .slice ya N yc], 50, 6⟩ :: ⟨some bz, [.int .i64 xk, .int .i64 xf, .int .i64 xd, .int .u64 xn, .string xt, .slice xa N xc], 50, 6⟩ :: R) wr)
    case atStart => exact ⟨0, rfl, by omega, Lib.hid hr, H⟩
    case round =>
      clear H hr
      obtain ⟨k, rfl, hkg, HR, H⟩ := hrel
      have HKG := Lib.hid hkg
      by_cases hk : k < N
      · have hkl : k < ks.length := by rw [HN.out]; exact hk
        have hkm : k < js.length := by rw [HM.out]; exact hk
        obtain ⟨x, hx⟩ : ∃ x, ks[k]? = some x := ⟨_, List.getElem?_eq_getElem hkl⟩
        obtain ⟨y, hy⟩ : ∃ y, js[k]? = some y := ⟨_, List.getElem?_eq_getElem hkm⟩
        have hst := HR.out
        rw [ptL_step hx, ptL_step hy] at hst
        simp only [beqL] at hst
        have HE := Lib.hid (rowsT_at hx)
        have HE2 := Lib.hid (rowsT_at hy)
        obtain ⟨xb, xo, rfl, hO⟩ := HRD.out.some_of (by rw [rowsT_length]; omega)
        obtain ⟨yb, yo, rfl, hO2⟩ := HRD2.out.some_of (by rw [rowsT_length]; omega)
        have htx := (HS.out x (List.mem_of_getElem? hx)).push [⟨some b3, [.int .i64 xk, .int .i64 xf, .int .i64 xd, .int .u64 xn, .string xt, .slice (some ⟨yb, yo, none⟩) N yc], 50, 6⟩, ⟨some bz, [.int .i64 xk, .int .i64 xf, .int .i64 xd, .int .u64 xn, .string xt, .slice (some ⟨xb, xo, none⟩) N xc], 50, 6⟩]
        have hty := (HS2.out y (List.mem_of_getElem? hy)).push [⟨some b3, [.int .i64 xk, .int .i64 xf, .int .i64 xd, .int .u64 xn, .string xt, .slice (some ⟨yb, yo, none⟩) N yc], 50, 6⟩, ⟨some bz, [.int .i64 xk, .int .i64 xf, .int .i64 xd, .int .u64 xn, .string xt, .slice (some ⟨xb, xo, none⟩) N xc], 50, 6⟩]
        simp only [List.cons_append, List.nil_append] at htx hty
        have HTX := Lib.hid htx
        have HTY := Lib.hid hty
        have HX : Hid (x ∈ (Tr.mk xk xf xd xn xt (some ⟨xb, xo, none⟩) xc ks).kids) := Lib.hid (List.mem_of_getElem? hx)
        obtain ⟨q, hq⟩ : ∃ q, x.pt.beq y.pt = q := ⟨_, rfl⟩
        rw [hq] at hst
        have HPX := Lib.hid hq
        clear hx hy hkg hq hkl hkm HR HRD HRD2 HS HS2 htx hty
        cases q
        · simp only [Bool.false_and] at hst
          subst hst
          go_wp2_with (first
    | ((with_reducible refine gRg ?_); refine wp_region_BH (A := []) H rfl ?_; replace H := H.drew; (try simp only [List.nil_append] at H); (refine bTakeL 0 rfl (by decide +kernel) (H) rfl (by intro u hu; go_simp; rfl) ?_; (try simp only [Act.put, List.setIfInBounds_toArray, List.set_cons_succ, List.set_cons_zero])); (refine bTakeL 2 rfl (by decide +kernel) (H) rfl (by intro u hu; go_simp; rfl) ?_; (try simp only [Act.put, List.setIfInBounds_toArray, List.set_cons_succ, List.set_cons_zero])); (refine bTakeL 5 rfl (by decide +kernel) (H) rfl (by intro u hu; go_simp; rfl) ?_; (try simp only [Act.put, List.setIfInBounds_toArray, List.set_cons_succ, List.set_cons_zero])); (refine bTakeL 7 rfl (by decide +kernel) (H) rfl (by intro u hu; go_simp; rfl) ?_; (try simp only [Act.put, List.setIfInBounds_toArray, List.set_cons_succ, List.set_cons_zero])); (refine bTakeL 1 rfl (by decide +kernel) (H) rfl (fun u hu => run_ld 1 hu rfl rfl rfl T47 rfl) ?_; (try simp only [Act.put, List.setIfInBounds_toArray, List.set_cons_succ, List.set_cons_zero])); (refine bTakeL 6 rfl (by decide +kernel) (H) rfl (fun u hu => run_ld 0 hu rfl rfl rfl T47 rfl) ?_; (try simp only [Act.put, List.setIfInBounds_toArray, List.set_cons_succ, List.set_cons_zero])); (refine bTakeL 3 rfl (by decide +kernel) (H) rfl (by intro u hu; go_simp; first | rfl | (rw [if_pos (by omega)]; done) | (rw [if_pos (by omega)]; rfl)) ?_; (try simp only [Act.put, List.setIfInBounds_toArray, List.set_cons_succ, List.set_cons_zero])); (refine bTakeL 8 rfl (by decide +kernel) (H) rfl (by intro u hu; go_simp; first | rfl | (rw [if_pos (by omega)]; done) | (rw [if_pos (by omega)]; rfl)) ?_; (try simp only [Act.put, List.setIfInBounds_toArray, List.set_cons_succ, List.set_cons_zero])); (refine bTakeL 4 rfl (by decide +kernel) (H) rfl (fun u hu => run_ldRA (k := k * 6) (hO [_, _] _ hu) rfl (by first | rfl | omega) T50 HE.out) ?_; (try simp only [Act.put, List.setIfInBounds_toArray, List.set_cons_succ, List.set_cons_zero])); (refine bTakeL 9 rfl (by decide +kernel) (H) rfl (fun u hu => run_ldRA (k := k * 6) (hO2 [_, _] _ hu) rfl (by first | rfl | omega) T50 HE2.out) ?_; (try simp only [Act.put, List.setIfInBounds_toArray, List.set_cons_succ, List.set_cons_zero])); (refine bOneL 10 (by decide +kernel) rfl rfl ?_); (intro K hK; go_simp; go_at_call 27; (with_reducible refine (ih x HX.out y _ H HTX.out HTY.out HPX.out).mono ?_); rintro e w1 ⟨rfl, H1⟩; clear H; have H := H1; clear H1; (try simp only []); refine hK _ _ (H) ?_; clear hK K; (try simp only [Act.put, List.setIfInBounds_toArray, List.set_cons_succ, List.set_cons_zero]); (refine bTakeL 11 rfl (by decide +kernel) (H) rfl (by intro u hu; go_simp; rfl) ?_; (try simp only [Act.put, List.setIfInBounds_toArray, List.set_cons_succ, List.set_cons_zero])); (refine bDone (by decide +kernel) ?_); (skip)))
    | ((with_reducible refine gLd ?_); refine eLd H rfl rfl ?_; first | ((repeat ((with_reducible refine gEx ?_); first | (refine kLd 0 rfl rfl (by exact TT _ rfl) rfl ?_) | (refine kLdA 0 rfl rfl (by exact TT _ rfl) (Nat.le_of_ble_eq_true rfl) (by simp only [Nd.cells, Nd.zero, LS2]; rfl) ?_) | (refine nxL ?_))); fail_if_success (with_reducible refine gEx ?_)))
    | ((with_reducible refine gEq ?_); (first | (refine wl_cmp rfl rfl rfl rfl ?_) | (refine wl_scmp rfl rfl rfl rfl ?_)); intro rb hrb; cases rb <;> (first | (exfalso; simp at hrb; done) | ((try simp only [CS1, gt_iff_lt, ge_iff_le, ne_eq, Decidable.not_not] at hrb); (try subst hrb); (try (exfalso; omega))))))
          go_ret
          exact ⟨rfl, H.drop.drop⟩
        · simp only [Bool.true_and] at hst
          have HR2 := Lib.hid hst
          clear hst
          go_wp2_with (first
    | ((with_reducible refine gRg ?_); refine wp_region_BH (A := []) H rfl ?_; replace H := H.drew; (try simp only [List.nil_append] at H); (refine bTakeL 0 rfl (by decide +kernel) (H) rfl (by intro u hu; go_simp; rfl) ?_; (try simp only [Act.put, List.setIfInBounds_toArray, List.set_cons_succ, List.set_cons_zero])); (refine bTakeL 2 rfl (by decide +kernel) (H) rfl (by intro u hu; go_simp; rfl) ?_; (try simp only [Act.put, List.setIfInBounds_toArray, List.set_cons_succ, List.set_cons_zero])); (refine bTakeL 5 rfl (by decide +kernel) (H) rfl (by intro u hu; go_simp; rfl) ?_; (try simp only [Act.put, List.setIfInBounds_toArray, List.set_cons_succ, List.set_cons_zero])); (refine bTakeL 7 rfl (by decide +kernel) (H) rfl (by intro u hu; go_simp; rfl) ?_; (try simp only [Act.put, List.setIfInBounds_toArray, List.set_cons_succ, List.set_cons_zero])); (refine bTakeL 1 rfl (by decide +kernel) (H) rfl (fun u hu => run_ld 1 hu rfl rfl rfl T47 rfl) ?_; (try simp only [Act.put, List.setIfInBounds_toArray, List.set_cons_succ, List.set_cons_zero])); (refine bTakeL 6 rfl (by decide +kernel) (H) rfl (fun u hu => run_ld 0 hu rfl rfl rfl T47 rfl) ?_; (try simp only [Act.put, List.setIfInBounds_toArray, List.set_cons_succ, List.set_cons_zero])); (refine bTakeL 3 rfl (by decide +kernel) (H) rfl (by intro u hu; go_simp; first | rfl | (rw [if_pos (by omega)]; done) | (rw [if_pos (by omega)]; rfl)) ?_; (try simp only [Act.put, List.setIfInBounds_toArray, List.set_cons_succ, List.set_cons_zero])); (refine bTakeL 8 rfl (by decide +kernel) (H) rfl (by intro u hu; go_simp; first | rfl | (rw [if_pos (by omega)]; done) | (rw [if_pos (by omega)]; rfl)) ?_; (try simp only [Act.put, List.setIfInBounds_toArray, List.set_cons_succ, List.set_cons_zero])); (refine bTakeL 4 rfl (by decide +kernel) (H) rfl (fun u hu => run_ldRA (k := k * 6) (hO [_, _] _ hu) rfl (by first | rfl | omega) T50 HE.out) ?_; (try simp only [Act.put, List.setIfInBounds_toArray, List.set_cons_succ, List.set_cons_zero])); (refine bTakeL 9 rfl (by decide +kernel) (H) rfl (fun u hu => run_ldRA (k := k * 6) (hO2 [_, _] _ hu) rfl (by first | rfl | omega) T50 HE2.out) ?_; (try simp only [Act.put, List.setIfInBounds_toArray, List.set_cons_succ, List.set_cons_zero])); (refine bOneL 10 (by decide +kernel) rfl rfl ?_); (intro K hK; go_simp; go_at_call 27; (with_reducible refine (ih x HX.out y _ H HTX.out HTY.out HPX.out).mono ?_); rintro e w1 ⟨rfl, H1⟩; clear H; have H := H1; clear H1; (try simp only []); refine hK _ _ (H) ?_; clear hK K; (try simp only [Act.put, List.setIfInBounds_toArray, List.set_cons_succ, List.set_cons_zero]); (refine bTakeL 11 rfl (by decide +kernel) (H) rfl (by intro u hu; go_simp; rfl) ?_; (try simp only [Act.put, List.setIfInBounds_toArray, List.set_cons_succ, List.set_cons_zero])); (refine bDone (by decide +kernel) ?_); (skip)))
    | ((with_reducible refine gLd ?_); refine eLd H rfl rfl ?_; first | ((repeat ((with_reducible refine gEx ?_); first | (refine kLd 0 rfl rfl (by exact TT _ rfl) rfl ?_) | (refine kLdA 0 rfl rfl (by exact TT _ rfl) (Nat.le_of_ble_eq_true rfl) (by simp only [Nd.cells, Nd.zero, LS2]; rfl) ?_) | (refine nxL ?_))); fail_if_success (with_reducible refine gEx ?_)))
    | ((with_reducible refine gEq ?_); (first | (refine wl_cmp rfl rfl rfl rfl ?_) | (refine wl_scmp rfl rfl rfl rfl ?_)); intro rb hrb; cases rb <;> (first | (exfalso; simp at hrb; done) | ((try simp only [CS1, gt_iff_lt, ge_iff_le, ne_eq, Decidable.not_not] at hrb); (try subst hrb); (try (exfalso; omega))))))
          go_roundg (gk - 1)
          case measure => have := HKG.out; omega
          case rel => exact ⟨k + 1, by go_num, by have := HKG.out; omega, HR2, H⟩
      · have hst := HR.out
        rw [ptL_end (by have := HN.out; omega)] at hst
        simp only [beqL] at hst
        subst hst
        clear hkg HR HRD HRD2 HS HS2
        go_wp2_with (first
    | ((with_reducible refine gLd ?_); refine eLd H rfl rfl ?_; first | ((repeat ((with_reducible refine gEx ?_); first | (refine kLd 0 rfl rfl (by exact TT _ rfl) rfl ?_) | (refine kLdA 0 rfl rfl (by exact TT _ rfl) (Nat.le_of_ble_eq_true rfl) (by simp only [Nd.cells, Nd.zero, LS2]; rfl) ?_) | (refine nxL ?_))); fail_if_success (with_reducible refine gEx ?_)))
    | ((with_reducible refine gEq ?_); (first | (refine wl_cmp rfl rfl rfl rfl ?_) | (refine wl_scmp rfl rfl rfl rfl ?_)); intro rb hrb; cases rb <;> (first | (exfalso; simp at hrb; done) | ((try simp only [CS1, gt_iff_lt, ge_iff_le, ne_eq, Decidable.not_not] at hrb); (try subst hrb); (try (exfalso; omega))))))
        go_ret
        exact ⟨rfl, H.drop.drop⟩
  · have hr0 : r = false := by
      rw [← hr]
      cases hb : (Tr.mk xk xf xd xn xt xa xc ks).pt.beq (Tr.mk yk yf yd yn yt ya yc js).pt with
      | false => rfl
      | true =>
        have h1 := Pt.beq_eq _ _ hb
        simp only [Tr.pt, Pt.mk.injEq] at h1
        obtain ⟨h1, h2, h3, h4, h5, h6⟩ := h1
        have h7 := congrArg List.length h6
        rw [ptL_len, ptL_len] at h7
        exact absurd ⟨h1, h2, h3, h4, by rw [h5], h7⟩ hh
    subst hr0
    exact Same_no H hh
end Go.Proofs.Ytebecelhcpljaaa
