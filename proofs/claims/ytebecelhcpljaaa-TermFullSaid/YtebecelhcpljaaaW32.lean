/- TermFull: what the law computes. -/
import Derived.Test.YtebecelhcpljaaaW24
import Derived.Test.YtebecelhcpljaaaW31
import Derived.Test.YtebecelhcpljaaaPlainG
import Derived.Test.YtebecelhcpljaaaTreeP
import Derived.Deep.Cut
import Derived.WalkKit
import Derived.Lib.Hide
import Derived.Deep.LoopGhost
import Derived.WalkSpells
set_option linter.unusedVariables false
set_option linter.unusedSimpArgs false
namespace Go.Proofs.Ytebecelhcpljaaa
open Go.RowKit Go.Gx Go.Gx.Trm
set_option maxRecDepth 100000
theorem conv64 {m : Int} (h0 : -9223372036854775808 ≤ m) (h1 : m ≤ 9223372036854775807) : IntKind.i64.wrap m = m := by rw [IntKind.wrap_i64]; omega
section
variable {P : Program} {w : World} {a : Act}
theorem run_addI {m n r : Int} {dst : Option Tmp} {t u ty : TypeId} {x y : Operand} {pos : String} {af : Array Edge} {g : Option (Nat × Bool)} (hx : a.eval x = .int .i64 m) (hy : a.eval y = .int .i64 n) (hr : m + n = r) (h1 : -9223372036854775808 ≤ r) (h2 : r ≤ 9223372036854775807) :
    (execOp a.eval ⟨dst, .binOp .add t x y u, ty, pos, af, g⟩).run P w = .ok (.value (.int .i64 r)) w := by
  subst hr
  have e := conv64 h1 h2
  simp [execOp, hx, hy, eqGuard, binOp, Op.intArith, e]
theorem run_subI {m n r : Int} {dst : Option Tmp} {t u ty : TypeId} {x y : Operand} {pos : String} {af : Array Edge} {g : Option (Nat × Bool)} (hx : a.eval x = .int .i64 m) (hy : a.eval y = .int .i64 n) (hr : m - n = r) (h1 : -9223372036854775808 ≤ r) (h2 : r ≤ 9223372036854775807) :
    (execOp a.eval ⟨dst, .binOp .sub t x y u, ty, pos, af, g⟩).run P w = .ok (.value (.int .i64 r)) w := by
  subst hr
  have e := conv64 h1 h2
  simp [execOp, hx, hy, eqGuard, binOp, Op.intArith, e]
end
section
variable {P : Program} {w : World} {a : Act} {ops : Array Oper} {Q : Exit → Act → World → Prop} {rest : List Oper}
theorem run_cvI {k k' : IntKind} {m r : Int} {t u ty : TypeId} {dst : Option Tmp} {x : Operand} {pos : String} {af : Array Edge} {g : Option (Nat × Bool)}
    (hx : a.eval x = .int k m) (ht : P.underlying t = some (.int k)) (hu : P.underlying u = some (.int k')) (hr : k'.wrap m = r) :
    (execOp a.eval ⟨dst, .convert t u x, ty, pos, af, g⟩).run P w = .ok (.value (.int k' r)) w := by
  subst hr
  simp [execOp, hx, convert, run_underlying ht, run_underlying hu, Conv.intToInt]
theorem wl_cvI {k k' : IntKind} {m r : Int} {t u ty : TypeId} {dst : Option Tmp} {x : Operand} {pos : String} {af : Array Edge} {g : Option (Nat × Bool)}
    (hx : a.eval x = .int k m) (ht : P.underlying t = some (.int k)) (hu : P.underlying u = some (.int k')) (hr : k'.wrap m = r)
    (hw : Region.wanted ⟨dst, .convert t u x, ty, pos, af, g⟩ (yielded ops a.tmps) = true) (kk : wpList P ops Q rest (a.put dst (.int k' r)) w) : wpList P ops Q (⟨dst, .convert t u x, ty, pos, af, g⟩ :: rest) a w := wl_run hw (run_cvI hx ht hu hr) kk
theorem gCvX {t u ty : TypeId} {dst : Option Tmp} {x : Operand} {pos : String} {af : Array Edge} {g : Option (Nat × Bool)} (k : wpList P ops Q (⟨dst, .convert t u x, ty, pos, af, g⟩ :: rest) a w) : wpList P ops Q (⟨dst, .convert t u x, ty, pos, af, g⟩ :: rest) a w := k
end
theorem wrapU {n : Int} (h0 : 0 ≤ n) (h1 : n ≤ 65536) : IntKind.u64.wrap n = n := by rw [IntKind.wrap_u64]; omega
theorem large_t {w0 w : World} {D : Nat → Prop} {R : List Ent} {k f d n : Int} {t : ByteArray} {x : Option Addr} {c0 N : Nat} {ts : List Tr} {q : Int} {r : Bool} (H : Hp w0 D R w) (hN : ts.length = N) (ht : TrR w0 D R (.mk k f d n t x c0 ts)) (hq : partsT (Tr.pt (.mk k f d n t x c0 ts)) 6000 = q) (hr : decide (6000 < q) = r) :
    Calls Try.prog 23 #[.agg (List.toArray [.int .i64 k, .int .i64 f, .int .i64 d, .int .u64 n, .string t, .slice x N c0])] w fun e w' => e = .returned (.bool r) ∧ Hp w0 D R w' := by
  subst hN
  have h := large_spec (w := w) (R := R) (t := .mk k f d n t x c0 ts) H ht hq hr
  simp only [Tr.cells] at h
  exact h
theorem small_of {t : Pt} {q : Int} (h : partsT t 6000 = q) (hr : decide (6000 < q) = false) : t.size ≤ 6000 := by
  have h1 : ¬ 6000 < q := by simpa using hr
  have h2 := partsT_eq t 6000 (by omega) (by rw [h]; omega)
  omega
theorem fresh_step {m : Nat} {l : List En} {k : Nat} {e : En} (h : l[k]? = some e) : freshN m (l.take (k + 1)) = freshN m (l.take k) + (if isNew m e then 1 else 0) := by
  obtain ⟨hlt, rfl⟩ := List.getElem?_eq_some_iff.1 h
  rw [List.take_succ_eq_append_getElem hlt, freshN_app]
  congr 1
  unfold freshN
  cases hb : isNew m l[k] <;> simp [hb]
theorem freshN_len (m : Nat) (l : List En) : freshN m l ≤ l.length := by unfold freshN; exact List.length_filter_le _ _
/-- what comes of the tree in the pool that is nearly full -/
theorem full_cases {m left : Nat} (hml : m + left = 65536) {t : Pt} (hp : t.pos) (hs : t.size ≤ 6000) {lq : List En} {sq f : Int} (hq : ofE [] t = (lq, sq, f)) (hf : f = 0) :
    (looksT t 0 0).1 = 0 ∧ wfP lq ∧ lq.length ≤ 6000 ∧
    ((∃ (mp : List En) (kp : Int), growT t (numsB m) = (numsB m ++ mp, kp, 0) ∧ treeP (numsB m ++ mp) kp = t ∧ mp.length = freshN m lq ∧ freshN m lq ≤ left ∧ wfP (numsB m ++ mp)) ∨
     (∃ (mp : List En) (tm : Int), growT t (numsB m) = (numsB m ++ mp, tm, 6) ∧ left < freshN m lq)) := by
  subst hf
  obtain ⟨mm, k, e1, g1, e2, e3, _, _, e6, e7⟩ := of_ok (l := []) (t := t) wfP_nil (by simp; omega) (by rw [hq])
  have hlk : (looksT t 0 0).1 = 0 := by
    by_cases h : (looksT t 0 0).1 = 0
    · exact h
    · unfold ofE at hq; rw [if_neg h] at hq; simp only [Prod.mk.injEq] at hq; exact hq.2.2
  rw [hq] at e1
  simp only [Prod.mk.injEq, List.nil_append] at e1
  obtain ⟨rfl, rfl, _⟩ := e1
  simp only [List.nil_append] at *
  obtain ⟨a1, a2, a3, a4⟩ := looksT_ok t 0 0 (looksT t 0 0).2 (Prod.ext hlk rfl)
  have hw0 := numsB_wf m (by omega)
  have hS0 : Sim m [] [] := ⟨rfl, fun t => by
    constructor
    · intro h; rw [List.append_nil] at h; exact .inr h
    · rintro (⟨k, hk, _⟩ | h)
      · have := inP_bd hk; simp at this; omega
      · rw [List.append_nil]; exact h⟩
  obtain ⟨mq, kq, j1, j2, j3, j4, j5, j6, j7, j8⟩ := sim_grow hml t [] [] wfP_nil (by rw [List.append_nil]; exact hw0) hS0 a1 hp (by omega) (by omega) (by simp; omega)
  rw [g1] at j1
  simp only [Prod.mk.injEq, List.nil_append] at j1
  obtain ⟨rfl, rfl, _⟩ := j1
  simp only [List.nil_append, List.append_nil] at *
  refine ⟨hlk, e7, by omega, ?_⟩
  rcases j8 with ⟨mp, kp, q1, q2, q3, q4, q5, hS⟩ | ⟨q1, q2⟩
  · left
    simp only [List.nil_append, List.append_nil] at *
    have hwp := grow_wf t (numsB m) hw0
    rw [q1] at hwp
    have hlen := grow_full t (numsB m) (by rw [numsB_len]; omega)
    rw [q1] at hlen
    dsimp only at hlen hwp
    rw [List.length_append, numsB_len, hS.len] at hlen
    exact ⟨mp, kp, q1, q5, hS.len, by omega, hwp⟩
  · right
    simp only [List.nil_append, List.append_nil] at *
    obtain ⟨mp, h1, h2⟩ := grow_app t (numsB m)
    exact ⟨mp, _, Prod.ext h1 (Prod.ext rfl q1), q2⟩
theorem Len_c {w0 w : World} {D : Nat → Prop} {R : List Ent} {p mb : Nat} {a : Option Nat} {c : Nat} {l : List En} {z : Int} (H : Hp w0 D R w) {i : Nat} (hp : R[i]? = some (eP p mb a c l)) (hz : (l.length : Int) = z) :
    Calls Try.prog 19 #[.pointer (some ⟨p, 0, none⟩)] w fun e w' => e = .returned (.int .i64 z) ∧ Hp w0 D R w' := by
  subst hz; exact Len_at H hp
set_option maxHeartbeats 32000000 in
theorem Full_spec {w0 w : World} {D : Nat → Prop} {R : List Ent} (H : Hp w0 D R w) (lf : Int) (ta : Tr) (hA : TrA w0 D ta) (hpos : ta.pt.pos) :
    Calls Try.prog 6 #[.int .i64 lf, .agg ta.cells.toArray] w fun e w' => e = .returned (.bool true) ∧ ∃ L, Hp w0 D L w' := by
  have hta := hA.rd R
  obtain ⟨qa, hqa⟩ : ∃ q, partsT ta.pt 6000 = q := ⟨_, rfl⟩
  obtain ⟨ra, hra⟩ : ∃ r, decide (6000 < qa) = r := ⟨_, rfl⟩
  have hsa : ra = false → ta.pt.size ≤ 6000 := fun h => small_of hqa (hra.trans h)
  obtain ⟨xk, xf, xd, xn, xt, xa, xc, ks⟩ := ta
  have HRA := Lib.hid hta
  have HTA : ∀ bx : Nat, TrR w0 D (⟨some bx, [.int .i64 xk, .int .i64 xf, .int .i64 xd, .int .u64 xn, .string xt, .slice xa ks.length xc], 50, 6⟩ :: R) (.mk xk xf xd xn xt xa xc ks) := fun bx => hta.push [⟨some bx, [.int .i64 xk, .int .i64 xf, .int .i64 xd, .int .u64 xn, .string xt, .slice xa ks.length xc], 50, 6⟩]
  have HTA := Lib.hid HTA
  have HQA := Lib.hid hqa
  have HRRA := Lib.hid hra
  clear hA hta hqa hra
  simp only [Tr.cells]
  by_cases hl0 : lf < 0
  · go_enter Try.func6, Try.ntmps6
    go_wp2_with (first
    | ((with_reducible refine gBx ?_); first | (refine bxA H rfl rfl rfl ?_; clear H; intro bx w1 H))
    | (go_at_call 23; (refine (large_t (ts := ks) H rfl (HTA.out bx) HQA.out HRRA.out).mono ?_); rintro e w1 ⟨rfl, H1⟩; clear H; have H := H1; clear H1)
    | (go_at_call 11; ((refine (live_hp H).mono ?_); rintro e w1 ⟨rfl, H1⟩; clear H; have H := H1; clear H1))
    | ((with_reducible refine gLd ?_); refine eLd H rfl rfl ?_; first | ((repeat ((with_reducible refine gEx ?_); first | (refine kLd 0 rfl rfl (by exact TT _ rfl) rfl ?_) | (refine kLdA 0 rfl rfl (by exact TT _ rfl) (Nat.le_of_ble_eq_true rfl) (by simp only [Nd.cells, Nd.zero, LS2]; rfl) ?_) | (refine nxL ?_))); fail_if_success (with_reducible refine gEx ?_)))
    | ((with_reducible refine gBx ?_); refine bxA H rfl rfl rfl ?_; clear H; intro b1 w1 H)
    | ((with_reducible refine gEq ?_); (first | (refine wl_cmp rfl rfl rfl rfl ?_) | (refine wl_scmp rfl rfl rfl rfl ?_)); intro rb hrb; cases rb <;> (first | (exfalso; simp at hrb; done) | ((try simp only [CS1, gt_iff_lt, ge_iff_le, ne_eq, Decidable.not_not] at hrb); (try subst hrb); (try (exfalso; omega)))))
    | ((with_reducible refine gRg ?_); refine wp_region_text rfl (by decide +kernel) ?_; replace H := H.drew)
    | ((with_reducible refine EndQ.intro ?_ ?_); (· kernel_rfl)))
    go_ret
    exact ⟨rfl, _, H⟩
  by_cases hl8 : 8 < lf
  · go_enter Try.func6, Try.ntmps6
    go_wp2_with (first
    | ((with_reducible refine gBx ?_); first | (refine bxA H rfl rfl rfl ?_; clear H; intro bx w1 H))
    | (go_at_call 23; (refine (large_t (ts := ks) H rfl (HTA.out bx) HQA.out HRRA.out).mono ?_); rintro e w1 ⟨rfl, H1⟩; clear H; have H := H1; clear H1)
    | (go_at_call 11; ((refine (live_hp H).mono ?_); rintro e w1 ⟨rfl, H1⟩; clear H; have H := H1; clear H1))
    | ((with_reducible refine gLd ?_); refine eLd H rfl rfl ?_; first | ((repeat ((with_reducible refine gEx ?_); first | (refine kLd 0 rfl rfl (by exact TT _ rfl) rfl ?_) | (refine kLdA 0 rfl rfl (by exact TT _ rfl) (Nat.le_of_ble_eq_true rfl) (by simp only [Nd.cells, Nd.zero, LS2]; rfl) ?_) | (refine nxL ?_))); fail_if_success (with_reducible refine gEx ?_)))
    | ((with_reducible refine gBx ?_); refine bxA H rfl rfl rfl ?_; clear H; intro b1 w1 H)
    | ((with_reducible refine gEq ?_); (first | (refine wl_cmp rfl rfl rfl rfl ?_) | (refine wl_scmp rfl rfl rfl rfl ?_)); intro rb hrb; cases rb <;> (first | (exfalso; simp at hrb; done) | ((try simp only [CS1, gt_iff_lt, ge_iff_le, ne_eq, Decidable.not_not] at hrb); (try subst hrb); (try (exfalso; omega)))))
    | ((with_reducible refine gRg ?_); refine wp_region_text rfl (by decide +kernel) ?_; replace H := H.drew)
    | ((with_reducible refine EndQ.intro ?_ ?_); (· kernel_rfl)))
    go_ret
    exact ⟨rfl, _, H⟩
  cases ra with
  | true =>
    go_enter Try.func6, Try.ntmps6
    go_wp2_with (first
    | ((with_reducible refine gBx ?_); first | (refine bxA H rfl rfl rfl ?_; clear H; intro bx w1 H))
    | (go_at_call 23; (refine (large_t (ts := ks) H rfl (HTA.out bx) HQA.out HRRA.out).mono ?_); rintro e w1 ⟨rfl, H1⟩; clear H; have H := H1; clear H1)
    | (go_at_call 11; ((refine (live_hp H).mono ?_); rintro e w1 ⟨rfl, H1⟩; clear H; have H := H1; clear H1))
    | ((with_reducible refine gLd ?_); refine eLd H rfl rfl ?_; first | ((repeat ((with_reducible refine gEx ?_); first | (refine kLd 0 rfl rfl (by exact TT _ rfl) rfl ?_) | (refine kLdA 0 rfl rfl (by exact TT _ rfl) (Nat.le_of_ble_eq_true rfl) (by simp only [Nd.cells, Nd.zero, LS2]; rfl) ?_) | (refine nxL ?_))); fail_if_success (with_reducible refine gEx ?_)))
    | ((with_reducible refine gBx ?_); refine bxA H rfl rfl rfl ?_; clear H; intro b1 w1 H)
    | ((with_reducible refine gEq ?_); (first | (refine wl_cmp rfl rfl rfl rfl ?_) | (refine wl_scmp rfl rfl rfl rfl ?_)); intro rb hrb; cases rb <;> (first | (exfalso; simp at hrb; done) | ((try simp only [CS1, gt_iff_lt, ge_iff_le, ne_eq, Decidable.not_not] at hrb); (try subst hrb); (try (exfalso; omega)))))
    | ((with_reducible refine gRg ?_); refine wp_region_text rfl (by decide +kernel) ?_; replace H := H.drew)
    | ((with_reducible refine EndQ.intro ?_ ?_); (· kernel_rfl)))
    go_ret
    exact ⟨rfl, _, H⟩
  | false =>
  have hsa := hsa rfl
  obtain ⟨n, rfl⟩ : ∃ n : Nat, lf = (n : Int) := ⟨lf.toNat, by omega⟩
  obtain ⟨m, hm⟩ : ∃ m : Nat, m + n = 65536 := ⟨65536 - n, by omega⟩
  have hn8 : (n : Int) ≤ 8 := by omega
  obtain ⟨lq, sq, f, hoq⟩ : ∃ l s e, ofE [] (Tr.pt (.mk xk xf xd xn xt xa xc ks)) = (l, s, e) := ⟨_, _, _, rfl⟩
  have hwq : wfP lq := by have := ofE_wf (l := []) (t := Tr.pt (.mk xk xf xd xn xt xa xc ks)) wfP_nil; rw [hoq] at this; exact this
  have hlq : lq.length ≤ 6000 := by obtain ⟨mm, h1, h2⟩ := ofE_len [] (Tr.pt (.mk xk xf xd xn xt xa xc ks)); rw [hoq] at h1; dsimp only at h1; rw [h1]; simp; omega
  have hgq : (looksT (Tr.pt (.mk xk xf xd xn xt xa xc ks)) 0 0).1 = 0 → (growT (Tr.pt (.mk xk xf xd xn xt xa xc ks)) []).2.2 = 0 := fun h => grow_ok' (l := []) (t := Tr.pt (.mk xk xf xd xn xt xa xc ks)) wfP_nil (by simp; omega) h
  obtain ⟨fr, hfr⟩ : ∃ fr, freshN m lq = fr := ⟨_, rfl⟩
  have hfr6 : (fr : Int) ≤ 6000 := by have := freshN_len m lq; omega
  have hwb := numsB_wf m (by omega)
  have hfc := full_cases (left := n) hm hpos hsa hoq
  have HRA2 := HRA
  have HSA := Lib.hid hsa
  have HOQ := Lib.hid hoq
  have HGQ := Lib.hid hgq
  have HLQ6 := Lib.hid hlq
  have HFR := Lib.hid hfr
  have HWB := Lib.hid hwb
  have HLB : Hid ((numsB m).length ≤ 65536) := Lib.hid (by rw [numsB_len]; omega)
  by_cases hf : f = 0
  · obtain ⟨hlk, _, _, hcs⟩ := hfc hf
    rw [hfr] at hcs
    rcases hcs with ⟨mp, kp, q1, q2, q3, q4, q5⟩ | ⟨mp, tm, q1, q2⟩
    · have HGP : Hid ((looksT (Tr.pt (.mk xk xf xd xn xt xa xc ks)) 0 0).1 = 0 → (growT (Tr.pt (.mk xk xf xd xn xt xa xc ks)) (numsB m)).2.2 = 0) := Lib.hid (fun _ => by rw [q1])
      have HOP : Hid (ofE (numsB m) (Tr.pt (.mk xk xf xd xn xt xa xc ks)) = (numsB m ++ mp, kp, 0)) := Lib.hid (by unfold ofE; rw [if_pos hlk, q1])
      have HTP := Lib.hid q2
      have hlz : ((numsB m ++ mp).length : Int) = (m : Int) + fr := by rw [List.length_append, numsB_len, q3]; simp
      have HLZ := Lib.hid hlz
      have HL2 : Hid ((numsB m ++ mp).length ≤ 65536) := Lib.hid (by omega)
      have HW2 := Lib.hid q5
      have hfn : (fr : Int) ≤ (n : Int) := by omega
      subst hf
      clear hpos hfc hoq hwq hlq hgq hfr hwb hlk q1 q2 q3 q4 q5 hsa hlz
      go_enter Try.func6, Try.ntmps6
      go_wp2_with (first
          | ((with_reducible refine gBx ?_); first | (refine bxA H rfl rfl rfl ?_; clear H; intro bx w1 H))
          | (go_at_call 23; (refine (large_t (ts := ks) H rfl (HTA.out bx) HQA.out HRRA.out).mono ?_); rintro e w1 ⟨rfl, H1⟩; clear H; have H := H1; clear H1)
          | (go_at_call 12; (refine (New_spec (Hg.of H)).mono ?_; rintro e w1 ⟨p, rfl, hP⟩; clear H))
          | ((with_reducible refine gLd ?_); refine eLd H rfl rfl ?_; first | ((repeat ((with_reducible refine gEx ?_); first | (refine kLd 0 rfl rfl (by exact TT _ rfl) rfl ?_) | (refine kLdA 0 rfl rfl (by exact TT _ rfl) (Nat.le_of_ble_eq_true rfl) (by simp only [Nd.cells, Nd.zero, LS2]; rfl) ?_) | (refine nxL ?_))); fail_if_success (with_reducible refine gEx ?_)))
          | ((with_reducible refine gBx ?_); refine bxA H rfl rfl rfl ?_; clear H; intro b1 w1 H)
          | ((with_reducible refine gEq ?_); (first | (refine wl_cmp rfl rfl rfl rfl ?_) | (refine wl_scmp rfl rfl rfl rfl ?_)); intro rb hrb; cases rb <;> (first | (exfalso; simp at hrb; done) | ((try simp only [CS1, gt_iff_lt, ge_iff_le, ne_eq, Decidable.not_not] at hrb); (try subst hrb); (try (exfalso; omega)))))
          | ((with_reducible refine gRg ?_); refine wp_region_text rfl (by decide +kernel) ?_; replace H := H.drew)
          | ((with_reducible refine EndQ.intro ?_ ?_); (· kernel_rfl)))
      go_loopg [6] m (fun g v6 wr => ∃ k : Nat, v6 = .int .i64 (k : Int) ∧ k + g = m ∧ Pl w0 D [] (⟨some bx, [.int .i64 xk, .int .i64 xf, .int .i64 xd, .int .u64 xn, .string xt, .slice xa ks.length xc], 50, 6⟩ :: R) p (numsB k) wr)
      case atStart => exact ⟨0, rfl, by omega, hP⟩
      case round =>
        clear hP
        obtain ⟨k, rfl, hkg, hP⟩ := hrel
        have HKG := Lib.hid hkg
        by_cases hk : k < m
        · have hmk := numsB_make (k := k) (by omega)
          have HMK : Hid (makeE (numsB k) ⟨2, 0, 0, (k : Int), ⟨#[]⟩, 0, 0⟩ = (numsB (k + 1), (k : Int) + 1, 0)) := Lib.hid hmk
          have HLK : Hid ((numsB k).length ≤ 65536) := Lib.hid (by rw [numsB_len]; omega)
          have HOKK := Lib.hid (numsB_wf k (by omega)).ok
          have hkm : (k : Int) < 65536 - (n : Int) := by omega
          clear hmk hkg
          go_wp2_with (first
          | ((with_reducible refine gCvX ?_); refine wl_cvI rfl Try.underlying3 Try.underlying31 (wrapU (n := (k : Int)) (by omega) (by omega)) rfl ?_)
          | (go_at_call 31; (refine (Num_mk hP HLK.out HOKK.out HMK.out).mono ?_; rintro e w1 ⟨rfl, h1⟩; clear hP; have hP := h1; clear h1))
          | (go_at_call 18; ((refine (num_pl hP _).mono ?_); rintro e w1 ⟨rfl, h1⟩; clear hP; have hP := h1; clear h1))
          | ((with_reducible refine gLd ?_); refine eLd H rfl rfl ?_; first | ((repeat ((with_reducible refine gEx ?_); first | (refine kLd 0 rfl rfl (by exact TT _ rfl) rfl ?_) | (refine kLdA 0 rfl rfl (by exact TT _ rfl) (Nat.le_of_ble_eq_true rfl) (by simp only [Nd.cells, Nd.zero, LS2]; rfl) ?_) | (refine nxL ?_))); fail_if_success (with_reducible refine gEx ?_)))
          | ((with_reducible refine gBx ?_); refine bxA H rfl rfl rfl ?_; clear H; intro b1 w1 H)
          | ((with_reducible refine gEq ?_); (first | (refine wl_cmp rfl rfl rfl rfl ?_) | (refine wl_scmp rfl rfl rfl rfl ?_)); intro rb hrb; cases rb <;> (first | (exfalso; simp at hrb; done) | ((try simp only [CS1, gt_iff_lt, ge_iff_le, ne_eq, Decidable.not_not] at hrb); (try subst hrb); (try (exfalso; omega)))))
          | ((with_reducible refine gRg ?_); refine wp_region_text rfl (by decide +kernel) ?_; replace H := H.drew)
          | ((with_reducible refine EndQ.intro ?_ ?_); (· kernel_rfl)))
          go_roundg (gk - 1)
          case measure => have := HKG.out; omega
          case rel => exact ⟨k + 1, by go_num, by have := HKG.out; omega, hP⟩
        · obtain rfl : m = k := by omega
          have hkm : 65536 - (n : Int) ≤ (m : Int) := by omega
          clear hkg hk
          go_wp2_with (first
          | (go_at_call 13; (refine (rNew_pl hP).mono ?_; rintro e w1 ⟨q, rfl, h1⟩; clear hP; obtain ⟨mb, a, c, hg⟩ := h1; obtain ⟨wz, Dz, H, back, bk2⟩ := hg.openX; clear hg))
          | (go_at_call 26; (refine (rOf_spec (t := (.mk xk xf xd xn xt xa xc ks)) (l := []) (l2 := lq) (tm := sq) (Hp.swap (A := [_, _]) (B := [_, _, _, _]) H) (TrR.down bk2 (HRA.out.push (_ :: _ :: [_]))) (Nat.zero_le _) okP_nil HOQ.out HGQ.out).mono ?_; rintro e w1 ⟨b, s, d, cb, cs, cd, rfl, H1⟩; clear H; have H := H1; clear H1))
          | ((with_reducible refine gLd ?_); refine eLd H rfl rfl ?_; first | ((repeat ((with_reducible refine gEx ?_); first | (refine kLd 0 rfl rfl (by exact TT _ rfl) rfl ?_) | (refine kLdA 0 rfl rfl (by exact TT _ rfl) (Nat.le_of_ble_eq_true rfl) (by simp only [Nd.cells, Nd.zero, LS2]; rfl) ?_) | (refine nxL ?_))); fail_if_success (with_reducible refine gEx ?_)))
          | ((with_reducible refine gBx ?_); refine bxA H rfl rfl rfl ?_; clear H; intro b1 w1 H)
          | ((with_reducible refine gEq ?_); (first | (refine wl_cmp rfl rfl rfl rfl ?_) | (refine wl_scmp rfl rfl rfl rfl ?_)); intro rb hrb; cases rb <;> (first | (exfalso; simp at hrb; done) | ((try simp only [CS1, gt_iff_lt, ge_iff_le, ne_eq, Decidable.not_not] at hrb); (try subst hrb); (try (exfalso; omega)))))
          | ((with_reducible refine gRg ?_); refine wp_region_text rfl (by decide +kernel) ?_; replace H := H.drew)
          | ((with_reducible refine EndQ.intro ?_ ?_); (· kernel_rfl)))
          go_loopg [12, 13] lq.length (fun g v12 v13 wr => ∃ k : Nat, v12 = .int .i64 ((freshN m (lq.take k) : Nat) : Int) ∧ v13 = .int .i64 (k : Int) ∧ k + g = lq.length ∧ Hp wz Dz (eQ q b s d cb cs cd lq :: eQn b cb lq :: eQs s cs lq :: eQd d cd lq :: eP p mb a c (numsB m) :: eE a c (numsB m) :: ⟨some bx, [.int .i64 xk, .int .i64 xf, .int .i64 xd, .int .u64 xn, .string xt, .slice xa ks.length xc], 50, 6⟩ :: R) wr)
          case atStart => exact ⟨0, rfl, rfl, by omega, H⟩
          case round =>
            clear H
            obtain ⟨k, rfl, rfl, hkg, H⟩ := hrel
            have HKG := Lib.hid hkg
            by_cases hk : k < lq.length
            · obtain ⟨⟨⟨x1, x2, x3, x4, x5, x6, x7⟩, z8, z9⟩, hx⟩ : ∃ e, lq[k]? = some e := ⟨_, List.getElem?_eq_getElem hk⟩
              obtain ⟨bq, hbq⟩ : ∃ bq, b = some bq := H.some_of (i := 1) rfl (by dsimp only; rw [nodesV_len]; omega)
              subst hbq
              have hcb : lq.length ≤ cb := by have h9 := H.le (i := 1) rfl; dsimp only at h9; rw [nodesV_len] at h9; omega
              have hrow := nodesV_at hx
              have HK1 : Hid ((rowsN (lq.map En.n))[k * 7]? = some (.int .i64 x1)) := Lib.hid (by
                have := congrArg (fun l => l[0]?) hrow
                simpa [Nd.cells, List.getElem?_take, List.getElem?_drop] using this)
              have HK3 : Hid ((rowsN (lq.map En.n))[k * 7 + 3]? = some (.int .u64 x4)) := Lib.hid (by
                have := congrArg (fun l => l[3]?) hrow
                simpa [Nd.cells, List.getElem?_take, List.getElem?_drop] using this)
              have hst := fresh_step (m := m) hx
              have hfl := freshN_len m (lq.take k)
              obtain ⟨fk, hfk⟩ : ∃ fk, freshN m (lq.take k) = fk := ⟨_, rfl⟩
              rw [hfk] at hst hfl ⊢
              have hfk0 : (fk : Int) ≤ 6000 := by rw [List.length_take] at hfl; have := HLQ6.out; omega
              have hks : (k : Int) ≤ 6000 := by have := HLQ6.out; omega
              have hkl : (k : Int) < lq.length := by omega
              rcases (show (¬ x1 = 2) ∨ (x1 = 2 ∧ 65536 - (n : Int) ≤ x4) ∨ (x1 = 2 ∧ x4 < 65536 - (n : Int)) by omega) with h2 | ⟨h2, h3⟩ | ⟨h2, h3⟩
              · have HF : Hid (freshN m (lq.take (k + 1)) = fk + 1) := Lib.hid (by rw [hst]; simp [isNew, h2])
                clear hst hfl hfk hx hrow hkg
                go_wp2_with (first
              | ((with_reducible refine gLd ?_); refine eLd H rfl rfl ?_; first | (refine kLd 0 rfl rfl T22 rfl ?_) | (refine kLd 1 rfl rfl T3 HK1.out ?_) | (refine kLd 1 rfl rfl T31 HK3.out ?_))
              | ((with_reducible refine gCvX ?_); refine wl_cvI (r := 65536 - (n : Int)) rfl Try.underlying3 Try.underlying31 (wrapU (by omega) (by omega)) rfl ?_)
              | ((with_reducible refine gLd ?_); refine eLd H rfl rfl ?_; first | ((repeat ((with_reducible refine gEx ?_); first | (refine kLd 0 rfl rfl (by exact TT _ rfl) rfl ?_) | (refine kLdA 0 rfl rfl (by exact TT _ rfl) (Nat.le_of_ble_eq_true rfl) (by simp only [Nd.cells, Nd.zero, LS2]; rfl) ?_) | (refine nxL ?_))); fail_if_success (with_reducible refine gEx ?_)))
              | ((with_reducible refine gBx ?_); refine bxA H rfl rfl rfl ?_; clear H; intro b1 w1 H)
              | ((with_reducible refine gEq ?_); (first | (refine wl_cmp rfl rfl rfl rfl ?_) | (refine wl_scmp rfl rfl rfl rfl ?_)); intro rb hrb; cases rb <;> (first | (exfalso; simp at hrb; done) | ((try simp only [CS1, gt_iff_lt, ge_iff_le, ne_eq, Decidable.not_not] at hrb); (try subst hrb); (try (exfalso; omega)))))
              | ((with_reducible refine gRg ?_); refine wp_region_text rfl (by decide +kernel) ?_; replace H := H.drew)
              | ((with_reducible refine EndQ.intro ?_ ?_); (· kernel_rfl)))
                go_roundg (gk - 1)
                case measure => have := HKG.out; omega
                case rel => exact ⟨k + 1, by rw [HF.out]; go_num, by go_num, by have := HKG.out; omega, H⟩
              · have HF : Hid (freshN m (lq.take (k + 1)) = fk + 1) := Lib.hid (by rw [hst]; simp [isNew, h2]; omega)
                subst h2
                clear hst hfl hfk hx hrow hkg
                go_wp2_with (first
              | ((with_reducible refine gLd ?_); refine eLd H rfl rfl ?_; first | (refine kLd 0 rfl rfl T22 rfl ?_) | (refine kLd 1 rfl rfl T3 HK1.out ?_) | (refine kLd 1 rfl rfl T31 HK3.out ?_))
              | ((with_reducible refine gCvX ?_); refine wl_cvI (r := 65536 - (n : Int)) rfl Try.underlying3 Try.underlying31 (wrapU (by omega) (by omega)) rfl ?_)
              | ((with_reducible refine gLd ?_); refine eLd H rfl rfl ?_; first | ((repeat ((with_reducible refine gEx ?_); first | (refine kLd 0 rfl rfl (by exact TT _ rfl) rfl ?_) | (refine kLdA 0 rfl rfl (by exact TT _ rfl) (Nat.le_of_ble_eq_true rfl) (by simp only [Nd.cells, Nd.zero, LS2]; rfl) ?_) | (refine nxL ?_))); fail_if_success (with_reducible refine gEx ?_)))
              | ((with_reducible refine gBx ?_); refine bxA H rfl rfl rfl ?_; clear H; intro b1 w1 H)
              | ((with_reducible refine gEq ?_); (first | (refine wl_cmp rfl rfl rfl rfl ?_) | (refine wl_scmp rfl rfl rfl rfl ?_)); intro rb hrb; cases rb <;> (first | (exfalso; simp at hrb; done) | ((try simp only [CS1, gt_iff_lt, ge_iff_le, ne_eq, Decidable.not_not] at hrb); (try subst hrb); (try (exfalso; omega)))))
              | ((with_reducible refine gRg ?_); refine wp_region_text rfl (by decide +kernel) ?_; replace H := H.drew)
              | ((with_reducible refine EndQ.intro ?_ ?_); (· kernel_rfl)))
                go_roundg (gk - 1)
                case measure => have := HKG.out; omega
                case rel => exact ⟨k + 1, by rw [HF.out]; go_num, by go_num, by have := HKG.out; omega, H⟩
              · have HF : Hid (freshN m (lq.take (k + 1)) = fk) := Lib.hid (by rw [hst]; simp [isNew, h2]; omega)
                subst h2
                clear hst hfl hfk hx hrow hkg
                go_wp2_with (first
              | ((with_reducible refine gLd ?_); refine eLd H rfl rfl ?_; first | (refine kLd 0 rfl rfl T22 rfl ?_) | (refine kLd 1 rfl rfl T3 HK1.out ?_) | (refine kLd 1 rfl rfl T31 HK3.out ?_))
              | ((with_reducible refine gCvX ?_); refine wl_cvI (r := 65536 - (n : Int)) rfl Try.underlying3 Try.underlying31 (wrapU (by omega) (by omega)) rfl ?_)
              | ((with_reducible refine gLd ?_); refine eLd H rfl rfl ?_; first | ((repeat ((with_reducible refine gEx ?_); first | (refine kLd 0 rfl rfl (by exact TT _ rfl) rfl ?_) | (refine kLdA 0 rfl rfl (by exact TT _ rfl) (Nat.le_of_ble_eq_true rfl) (by simp only [Nd.cells, Nd.zero, LS2]; rfl) ?_) | (refine nxL ?_))); fail_if_success (with_reducible refine gEx ?_)))
              | ((with_reducible refine gBx ?_); refine bxA H rfl rfl rfl ?_; clear H; intro b1 w1 H)
              | ((with_reducible refine gEq ?_); (first | (refine wl_cmp rfl rfl rfl rfl ?_) | (refine wl_scmp rfl rfl rfl rfl ?_)); intro rb hrb; cases rb <;> (first | (exfalso; simp at hrb; done) | ((try simp only [CS1, gt_iff_lt, ge_iff_le, ne_eq, Decidable.not_not] at hrb); (try subst hrb); (try (exfalso; omega)))))
              | ((with_reducible refine gRg ?_); refine wp_region_text rfl (by decide +kernel) ?_; replace H := H.drew)
              | ((with_reducible refine EndQ.intro ?_ ?_); (· kernel_rfl)))
                go_roundg (gk - 1)
                case measure => have := HKG.out; omega
                case rel => exact ⟨k + 1, by rw [HF.out], by go_num, by have := HKG.out; omega, H⟩
            · have hkl : (lq.length : Int) ≤ (k : Int) := by omega
              have hk9 : freshN m (lq.take k) = fr := by rw [List.take_of_length_le (by omega)]; exact HFR.out
              rw [hk9]
              clear hkg hk hk9
              go_wp2_with (first
                  | (go_at_call 24; (refine (Lent_spec (.mk xk xf xd xn xt xa xc ks) _ H (TrR.down bk2 (HRA.out.push (_ :: _ :: _ :: _ :: _ :: _ :: [_]))) HSA.out).mono ?_; rintro e w1 ⟨⟨zk, zf, zd, zn, zt, za, zc, zs⟩, N1, rfl, hpt, htw, H1⟩; have HPT := Lib.hid hpt; have HTW := Lib.hid htw; clear hpt htw H; have H := Hp.swap (A := [_, _, _, _]) (B := [_, _]) (Hp.swap (A := N1) (B := [_, _, _, _, _, _, _]) H1); clear H1; simp only [List.cons_append, List.nil_append] at H; (try simp only [Tr.cells])))
                  | (go_at_call 25; (refine (Of_spec (L := eQ q b s d cb cs cd lq :: eQn b cb lq :: eQs s cs lq :: eQd d cd lq :: ⟨some bx, [.int .i64 xk, .int .i64 xf, .int .i64 xd, .int .u64 xn, .string xt, .slice xa ks.length xc], 50, 6⟩ :: (N1 ++ R)) (t := (.mk zk zf zd zn zt za zc zs)) (l := numsB m) ⟨mb, a, c, back _ _ H⟩ (((HTW.out.right R).push [eQ q b s d cb cs cd lq, eQn b cb lq, eQs s cs lq, eQd d cd lq, ⟨some bx, [.int .i64 xk, .int .i64 xf, .int .i64 xd, .int .u64 xn, .string xt, .slice xa ks.length xc], 50, 6⟩]) w0 D) HLB.out HWB.out.ok ((congrArg (ofE (numsB m)) HPT.out).trans HOP.out) (by rw [HPT.out]; exact HGP.out)).mono ?_; rintro e w1 ⟨rfl, h1⟩; clear H back bk2; obtain ⟨mb, a, c, hg⟩ := h1; obtain ⟨wz, Dz, H, back, bk2⟩ := hg.openX; clear hg))
                  | (go_at_call 18; ((refine (num_spec H _).mono ?_); rintro e w1 ⟨rfl, H1⟩; clear H; have H := H1; clear H1))
                  | ((with_reducible refine gRg ?_); refine wp_region_B (fun u => Hp wz Dz (eP p mb a c (numsB m ++ mp) :: eE a c (numsB m ++ mp) :: eQ q b s d cb cs cd lq :: eQn b cb lq :: eQs s cs lq :: eQd d cd lq :: ⟨some bx, [.int .i64 xk, .int .i64 xf, .int .i64 xd, .int .u64 xn, .string xt, .slice xa ks.length xc], 50, 6⟩ :: (N1 ++ R)) u) rfl ?_; replace H := H.drew; (refine bTakeL 0 rfl (by decide +kernel) H rfl (by intro u hu; go_simp; rfl) ?_; (try simp only [Act.put, List.setIfInBounds_toArray, List.set_cons_succ, List.set_cons_zero])); (refine bOneL 1 (by decide +kernel) rfl rfl ?_); (intro K hK; go_simp; go_at_call 18; refine (num_spec H 0).mono ?_; rintro e w1 ⟨rfl, H1⟩; clear H; have H := H1; clear H1; (try simp only []); refine hK _ _ H ?_; clear hK K; (try simp only [Act.put, List.setIfInBounds_toArray, List.set_cons_succ, List.set_cons_zero]); (refine bTakeL 2 rfl (by decide +kernel) H rfl (fun u _ => run_cmp (r := true) rfl rfl (by simp [cmpB])) ?_; (try simp only [Act.put, List.setIfInBounds_toArray, List.set_cons_succ, List.set_cons_zero])); (refine bTakeL 3 rfl (by decide +kernel) H rfl (by intro u hu; go_simp; rfl) ?_; (try simp only [Act.put, List.setIfInBounds_toArray, List.set_cons_succ, List.set_cons_zero])); (refine bTakeL 4 rfl (by decide +kernel) H rfl (by intro u hu; go_simp; rfl) ?_; (try simp only [Act.put, List.setIfInBounds_toArray, List.set_cons_succ, List.set_cons_zero])); (refine bTakeL 6 rfl (by decide +kernel) H rfl (by intro u hu; go_simp; rfl) ?_; (try simp only [Act.put, List.setIfInBounds_toArray, List.set_cons_succ, List.set_cons_zero])); (refine bTakeL 8 rfl (by decide +kernel) H rfl (by intro u hu; go_simp; rfl) ?_; (try simp only [Act.put, List.setIfInBounds_toArray, List.set_cons_succ, List.set_cons_zero])); (refine bTakeL 7 rfl (by decide +kernel) H rfl (fun u _ => run_subI (r := (m : Int)) rfl rfl (by omega) (by omega) (by omega)) ?_; (try simp only [Act.put, List.setIfInBounds_toArray, List.set_cons_succ, List.set_cons_zero])); (refine bTakeL 9 rfl (by decide +kernel) H rfl (fun u _ => run_addI (r := (m : Int) + fr) rfl rfl rfl (by omega) (by omega)) ?_; (try simp only [Act.put, List.setIfInBounds_toArray, List.set_cons_succ, List.set_cons_zero])); (refine bOneL 5 (by decide +kernel) rfl rfl ?_); (intro K hK; go_simp; go_at_call 19; refine (Len_c (i := 0) (z := (m : Int) + fr) H rfl HLZ.out).mono ?_; rintro e w1 ⟨rfl, H1⟩; clear H; have H := H1; clear H1; (try simp only []); refine hK _ _ H ?_; clear hK K; (try simp only [Act.put, List.setIfInBounds_toArray, List.set_cons_succ, List.set_cons_zero]); (refine bTakeL 10 rfl (by decide +kernel) H rfl (fun u _ => run_cmp (r := true) rfl rfl (by simp [cmpB])) ?_; (try simp only [Act.put, List.setIfInBounds_toArray, List.set_cons_succ, List.set_cons_zero])); (refine bTakeL 11 rfl (by decide +kernel) H rfl (by intro u hu; go_simp; rfl) ?_; (try simp only [Act.put, List.setIfInBounds_toArray, List.set_cons_succ, List.set_cons_zero])); (refine bTakeL 12 rfl (by decide +kernel) H rfl (by intro u hu; go_simp; rfl) ?_; (try simp only [Act.put, List.setIfInBounds_toArray, List.set_cons_succ, List.set_cons_zero])); (refine bTakeL 13 rfl (by decide +kernel) H rfl (by intro u hu; go_simp; rfl) ?_; (try simp only [Act.put, List.setIfInBounds_toArray, List.set_cons_succ, List.set_cons_zero])); (refine bTakeL 14 rfl (by decide +kernel) H rfl (by intro u hu; go_simp; rfl) ?_; (try simp only [Act.put, List.setIfInBounds_toArray, List.set_cons_succ, List.set_cons_zero])); (refine bTakeL 16 rfl (by decide +kernel) H rfl (fun u hu => run_ldA 6 hu rfl rfl rfl T50 (Nat.le_of_ble_eq_true rfl) rfl) ?_; (try simp only [Act.put, List.setIfInBounds_toArray, List.set_cons_succ, List.set_cons_zero])); (refine bOneL 15 (by decide +kernel) rfl rfl ?_); (intro K hK; go_simp; go_at_call 28; refine (Tree_spec HL2.out HW2.out _ _ kp (Nat.le_refl _) H ⟨mb, a, c, 0, 1, rfl, rfl⟩).mono ?_; rintro e w1 ⟨t1, X1, rfl, hpt1, htw1, H1⟩; clear H; have H := H1; clear H1; (try simp only []); refine hK _ _ H.dropL ?_; clear hK K; (try simp only [Act.put, List.setIfInBounds_toArray, List.set_cons_succ, List.set_cons_zero]); (refine bOneL 17 (by decide +kernel) rfl rfl ?_); (intro K hK; go_simp; go_at_call 27; refine (Same_spec (r := true) t1 (.mk xk xf xd xn xt xa xc ks) _ H ((htw1.right _) _ _) ((TrR.down bk2 ((HRA.out.push N1).push (_ :: _ :: _ :: _ :: _ :: _ :: [_]))).push X1) (by rw [hpt1, HTP.out]; exact Pt.beq_rfl _)).mono ?_; rintro e w1 ⟨rfl, H1⟩; clear H; have H := H1; clear H1; (try simp only []); refine hK _ _ H.dropL ?_; clear hK K; (try simp only [Act.put, List.setIfInBounds_toArray, List.set_cons_succ, List.set_cons_zero]); (refine bTakeL 18 rfl (by decide +kernel) H.dropL rfl (by intro u hu; go_simp; rfl) ?_; (try simp only [Act.put, List.setIfInBounds_toArray, List.set_cons_succ, List.set_cons_zero])); (refine bTakeL 19 rfl (by decide +kernel) H.dropL rfl (by intro u hu; go_simp; rfl) ?_; (try simp only [Act.put, List.setIfInBounds_toArray, List.set_cons_succ, List.set_cons_zero])); (refine bOneL 20 (by decide +kernel) rfl rfl ?_); (intro K hK; go_simp; go_at_call 11; refine (live_hp H).mono ?_; rintro e w1 ⟨rfl, H1⟩; clear H; have H := H1; clear H1; (try simp only []); refine hK _ _ H.dropL ?_; clear hK K; (try simp only [Act.put, List.setIfInBounds_toArray, List.set_cons_succ, List.set_cons_zero]); (refine bTakeL 21 rfl (by decide +kernel) H.dropL rfl (by intro u hu; go_simp; rfl) ?_; (try simp only [Act.put, List.setIfInBounds_toArray, List.set_cons_succ, List.set_cons_zero])); (refine bTakeL 22 rfl (by decide +kernel) H.dropL rfl (by intro u hu; go_simp; rfl) ?_; (try simp only [Act.put, List.setIfInBounds_toArray, List.set_cons_succ, List.set_cons_zero])); (refine bDone (by decide +kernel) ?_); (replace H := H.dropL)))))))
                  | ((with_reducible refine gLd ?_); refine eLd H rfl rfl ?_; first | ((repeat ((with_reducible refine gEx ?_); first | (refine kLd 0 rfl rfl (by exact TT _ rfl) rfl ?_) | (refine kLdA 0 rfl rfl (by exact TT _ rfl) (Nat.le_of_ble_eq_true rfl) (by simp only [Nd.cells, Nd.zero, LS2]; rfl) ?_) | (refine nxL ?_))); fail_if_success (with_reducible refine gEx ?_)))
                  | ((with_reducible refine gBx ?_); refine bxA H rfl rfl rfl ?_; clear H; intro b1 w1 H)
                  | ((with_reducible refine gEq ?_); (first | (refine wl_cmp rfl rfl rfl rfl ?_) | (refine wl_scmp rfl rfl rfl rfl ?_)); intro rb hrb; cases rb <;> (first | (exfalso; simp at hrb; done) | ((try simp only [CS1, gt_iff_lt, ge_iff_le, ne_eq, Decidable.not_not] at hrb); (try subst hrb); (try (exfalso; omega)))))
                  | ((with_reducible refine gRg ?_); refine wp_region_text rfl (by decide +kernel) ?_; replace H := H.drew)
                  | ((with_reducible refine EndQ.intro ?_ ?_); (· kernel_rfl)))
              go_ret
              exact ⟨rfl, _, bk2 _ _ H⟩
    · have HGP := Lib.hid q1
      have HLKS := Lib.hid hlk
      have hfn : (n : Int) < (fr : Int) := by omega
      subst hf
      clear hpos hfc hoq hwq hlq hgq hfr hwb hlk q1 q2 hsa
      go_enter Try.func6, Try.ntmps6
      go_wp2_with (first
          | ((with_reducible refine gBx ?_); first | (refine bxA H rfl rfl rfl ?_; clear H; intro bx w1 H))
          | (go_at_call 23; (refine (large_t (ts := ks) H rfl (HTA.out bx) HQA.out HRRA.out).mono ?_); rintro e w1 ⟨rfl, H1⟩; clear H; have H := H1; clear H1)
          | (go_at_call 12; (refine (New_spec (Hg.of H)).mono ?_; rintro e w1 ⟨p, rfl, hP⟩; clear H))
          | ((with_reducible refine gLd ?_); refine eLd H rfl rfl ?_; first | ((repeat ((with_reducible refine gEx ?_); first | (refine kLd 0 rfl rfl (by exact TT _ rfl) rfl ?_) | (refine kLdA 0 rfl rfl (by exact TT _ rfl) (Nat.le_of_ble_eq_true rfl) (by simp only [Nd.cells, Nd.zero, LS2]; rfl) ?_) | (refine nxL ?_))); fail_if_success (with_reducible refine gEx ?_)))
          | ((with_reducible refine gBx ?_); refine bxA H rfl rfl rfl ?_; clear H; intro b1 w1 H)
          | ((with_reducible refine gEq ?_); (first | (refine wl_cmp rfl rfl rfl rfl ?_) | (refine wl_scmp rfl rfl rfl rfl ?_)); intro rb hrb; cases rb <;> (first | (exfalso; simp at hrb; done) | ((try simp only [CS1, gt_iff_lt, ge_iff_le, ne_eq, Decidable.not_not] at hrb); (try subst hrb); (try (exfalso; omega)))))
          | ((with_reducible refine gRg ?_); refine wp_region_text rfl (by decide +kernel) ?_; replace H := H.drew)
          | ((with_reducible refine EndQ.intro ?_ ?_); (· kernel_rfl)))
      go_loopg [6] m (fun g v6 wr => ∃ k : Nat, v6 = .int .i64 (k : Int) ∧ k + g = m ∧ Pl w0 D [] (⟨some bx, [.int .i64 xk, .int .i64 xf, .int .i64 xd, .int .u64 xn, .string xt, .slice xa ks.length xc], 50, 6⟩ :: R) p (numsB k) wr)
      case atStart => exact ⟨0, rfl, by omega, hP⟩
      case round =>
        clear hP
        obtain ⟨k, rfl, hkg, hP⟩ := hrel
        have HKG := Lib.hid hkg
        by_cases hk : k < m
        · have hmk := numsB_make (k := k) (by omega)
          have HMK : Hid (makeE (numsB k) ⟨2, 0, 0, (k : Int), ⟨#[]⟩, 0, 0⟩ = (numsB (k + 1), (k : Int) + 1, 0)) := Lib.hid hmk
          have HLK : Hid ((numsB k).length ≤ 65536) := Lib.hid (by rw [numsB_len]; omega)
          have HOKK := Lib.hid (numsB_wf k (by omega)).ok
          have hkm : (k : Int) < 65536 - (n : Int) := by omega
          clear hmk hkg
          go_wp2_with (first
          | ((with_reducible refine gCvX ?_); refine wl_cvI rfl Try.underlying3 Try.underlying31 (wrapU (n := (k : Int)) (by omega) (by omega)) rfl ?_)
          | (go_at_call 31; (refine (Num_mk hP HLK.out HOKK.out HMK.out).mono ?_; rintro e w1 ⟨rfl, h1⟩; clear hP; have hP := h1; clear h1))
          | (go_at_call 18; ((refine (num_pl hP _).mono ?_); rintro e w1 ⟨rfl, h1⟩; clear hP; have hP := h1; clear h1))
          | ((with_reducible refine gLd ?_); refine eLd H rfl rfl ?_; first | ((repeat ((with_reducible refine gEx ?_); first | (refine kLd 0 rfl rfl (by exact TT _ rfl) rfl ?_) | (refine kLdA 0 rfl rfl (by exact TT _ rfl) (Nat.le_of_ble_eq_true rfl) (by simp only [Nd.cells, Nd.zero, LS2]; rfl) ?_) | (refine nxL ?_))); fail_if_success (with_reducible refine gEx ?_)))
          | ((with_reducible refine gBx ?_); refine bxA H rfl rfl rfl ?_; clear H; intro b1 w1 H)
          | ((with_reducible refine gEq ?_); (first | (refine wl_cmp rfl rfl rfl rfl ?_) | (refine wl_scmp rfl rfl rfl rfl ?_)); intro rb hrb; cases rb <;> (first | (exfalso; simp at hrb; done) | ((try simp only [CS1, gt_iff_lt, ge_iff_le, ne_eq, Decidable.not_not] at hrb); (try subst hrb); (try (exfalso; omega)))))
          | ((with_reducible refine gRg ?_); refine wp_region_text rfl (by decide +kernel) ?_; replace H := H.drew)
          | ((with_reducible refine EndQ.intro ?_ ?_); (· kernel_rfl)))
          go_roundg (gk - 1)
          case measure => have := HKG.out; omega
          case rel => exact ⟨k + 1, by go_num, by have := HKG.out; omega, hP⟩
        · obtain rfl : m = k := by omega
          have hkm : 65536 - (n : Int) ≤ (m : Int) := by omega
          clear hkg hk
          go_wp2_with (first
          | (go_at_call 13; (refine (rNew_pl hP).mono ?_; rintro e w1 ⟨q, rfl, h1⟩; clear hP; obtain ⟨mb, a, c, hg⟩ := h1; obtain ⟨wz, Dz, H, back, bk2⟩ := hg.openX; clear hg))
          | (go_at_call 26; (refine (rOf_spec (t := (.mk xk xf xd xn xt xa xc ks)) (l := []) (l2 := lq) (tm := sq) (Hp.swap (A := [_, _]) (B := [_, _, _, _]) H) (TrR.down bk2 (HRA.out.push (_ :: _ :: [_]))) (Nat.zero_le _) okP_nil HOQ.out HGQ.out).mono ?_; rintro e w1 ⟨b, s, d, cb, cs, cd, rfl, H1⟩; clear H; have H := H1; clear H1))
          | ((with_reducible refine gLd ?_); refine eLd H rfl rfl ?_; first | ((repeat ((with_reducible refine gEx ?_); first | (refine kLd 0 rfl rfl (by exact TT _ rfl) rfl ?_) | (refine kLdA 0 rfl rfl (by exact TT _ rfl) (Nat.le_of_ble_eq_true rfl) (by simp only [Nd.cells, Nd.zero, LS2]; rfl) ?_) | (refine nxL ?_))); fail_if_success (with_reducible refine gEx ?_)))
          | ((with_reducible refine gBx ?_); refine bxA H rfl rfl rfl ?_; clear H; intro b1 w1 H)
          | ((with_reducible refine gEq ?_); (first | (refine wl_cmp rfl rfl rfl rfl ?_) | (refine wl_scmp rfl rfl rfl rfl ?_)); intro rb hrb; cases rb <;> (first | (exfalso; simp at hrb; done) | ((try simp only [CS1, gt_iff_lt, ge_iff_le, ne_eq, Decidable.not_not] at hrb); (try subst hrb); (try (exfalso; omega)))))
          | ((with_reducible refine gRg ?_); refine wp_region_text rfl (by decide +kernel) ?_; replace H := H.drew)
          | ((with_reducible refine EndQ.intro ?_ ?_); (· kernel_rfl)))
          go_loopg [12, 13] lq.length (fun g v12 v13 wr => ∃ k : Nat, v12 = .int .i64 ((freshN m (lq.take k) : Nat) : Int) ∧ v13 = .int .i64 (k : Int) ∧ k + g = lq.length ∧ Hp wz Dz (eQ q b s d cb cs cd lq :: eQn b cb lq :: eQs s cs lq :: eQd d cd lq :: eP p mb a c (numsB m) :: eE a c (numsB m) :: ⟨some bx, [.int .i64 xk, .int .i64 xf, .int .i64 xd, .int .u64 xn, .string xt, .slice xa ks.length xc], 50, 6⟩ :: R) wr)
          case atStart => exact ⟨0, rfl, rfl, by omega, H⟩
          case round =>
            clear H
            obtain ⟨k, rfl, rfl, hkg, H⟩ := hrel
            have HKG := Lib.hid hkg
            by_cases hk : k < lq.length
            · obtain ⟨⟨⟨x1, x2, x3, x4, x5, x6, x7⟩, z8, z9⟩, hx⟩ : ∃ e, lq[k]? = some e := ⟨_, List.getElem?_eq_getElem hk⟩
              obtain ⟨bq, hbq⟩ : ∃ bq, b = some bq := H.some_of (i := 1) rfl (by dsimp only; rw [nodesV_len]; omega)
              subst hbq
              have hcb : lq.length ≤ cb := by have h9 := H.le (i := 1) rfl; dsimp only at h9; rw [nodesV_len] at h9; omega
              have hrow := nodesV_at hx
              have HK1 : Hid ((rowsN (lq.map En.n))[k * 7]? = some (.int .i64 x1)) := Lib.hid (by
                have := congrArg (fun l => l[0]?) hrow
                simpa [Nd.cells, List.getElem?_take, List.getElem?_drop] using this)
              have HK3 : Hid ((rowsN (lq.map En.n))[k * 7 + 3]? = some (.int .u64 x4)) := Lib.hid (by
                have := congrArg (fun l => l[3]?) hrow
                simpa [Nd.cells, List.getElem?_take, List.getElem?_drop] using this)
              have hst := fresh_step (m := m) hx
              have hfl := freshN_len m (lq.take k)
              obtain ⟨fk, hfk⟩ : ∃ fk, freshN m (lq.take k) = fk := ⟨_, rfl⟩
              rw [hfk] at hst hfl ⊢
              have hfk0 : (fk : Int) ≤ 6000 := by rw [List.length_take] at hfl; have := HLQ6.out; omega
              have hks : (k : Int) ≤ 6000 := by have := HLQ6.out; omega
              have hkl : (k : Int) < lq.length := by omega
              rcases (show (¬ x1 = 2) ∨ (x1 = 2 ∧ 65536 - (n : Int) ≤ x4) ∨ (x1 = 2 ∧ x4 < 65536 - (n : Int)) by omega) with h2 | ⟨h2, h3⟩ | ⟨h2, h3⟩
              · have HF : Hid (freshN m (lq.take (k + 1)) = fk + 1) := Lib.hid (by rw [hst]; simp [isNew, h2])
                clear hst hfl hfk hx hrow hkg
                go_wp2_with (first
              | ((with_reducible refine gLd ?_); refine eLd H rfl rfl ?_; first | (refine kLd 0 rfl rfl T22 rfl ?_) | (refine kLd 1 rfl rfl T3 HK1.out ?_) | (refine kLd 1 rfl rfl T31 HK3.out ?_))
              | ((with_reducible refine gCvX ?_); refine wl_cvI (r := 65536 - (n : Int)) rfl Try.underlying3 Try.underlying31 (wrapU (by omega) (by omega)) rfl ?_)
              | ((with_reducible refine gLd ?_); refine eLd H rfl rfl ?_; first | ((repeat ((with_reducible refine gEx ?_); first | (refine kLd 0 rfl rfl (by exact TT _ rfl) rfl ?_) | (refine kLdA 0 rfl rfl (by exact TT _ rfl) (Nat.le_of_ble_eq_true rfl) (by simp only [Nd.cells, Nd.zero, LS2]; rfl) ?_) | (refine nxL ?_))); fail_if_success (with_reducible refine gEx ?_)))
              | ((with_reducible refine gBx ?_); refine bxA H rfl rfl rfl ?_; clear H; intro b1 w1 H)
              | ((with_reducible refine gEq ?_); (first | (refine wl_cmp rfl rfl rfl rfl ?_) | (refine wl_scmp rfl rfl rfl rfl ?_)); intro rb hrb; cases rb <;> (first | (exfalso; simp at hrb; done) | ((try simp only [CS1, gt_iff_lt, ge_iff_le, ne_eq, Decidable.not_not] at hrb); (try subst hrb); (try (exfalso; omega)))))
              | ((with_reducible refine gRg ?_); refine wp_region_text rfl (by decide +kernel) ?_; replace H := H.drew)
              | ((with_reducible refine EndQ.intro ?_ ?_); (· kernel_rfl)))
                go_roundg (gk - 1)
                case measure => have := HKG.out; omega
                case rel => exact ⟨k + 1, by rw [HF.out]; go_num, by go_num, by have := HKG.out; omega, H⟩
              · have HF : Hid (freshN m (lq.take (k + 1)) = fk + 1) := Lib.hid (by rw [hst]; simp [isNew, h2]; omega)
                subst h2
                clear hst hfl hfk hx hrow hkg
                go_wp2_with (first
              | ((with_reducible refine gLd ?_); refine eLd H rfl rfl ?_; first | (refine kLd 0 rfl rfl T22 rfl ?_) | (refine kLd 1 rfl rfl T3 HK1.out ?_) | (refine kLd 1 rfl rfl T31 HK3.out ?_))
              | ((with_reducible refine gCvX ?_); refine wl_cvI (r := 65536 - (n : Int)) rfl Try.underlying3 Try.underlying31 (wrapU (by omega) (by omega)) rfl ?_)
              | ((with_reducible refine gLd ?_); refine eLd H rfl rfl ?_; first | ((repeat ((with_reducible refine gEx ?_); first | (refine kLd 0 rfl rfl (by exact TT _ rfl) rfl ?_) | (refine kLdA 0 rfl rfl (by exact TT _ rfl) (Nat.le_of_ble_eq_true rfl) (by simp only [Nd.cells, Nd.zero, LS2]; rfl) ?_) | (refine nxL ?_))); fail_if_success (with_reducible refine gEx ?_)))
              | ((with_reducible refine gBx ?_); refine bxA H rfl rfl rfl ?_; clear H; intro b1 w1 H)
              | ((with_reducible refine gEq ?_); (first | (refine wl_cmp rfl rfl rfl rfl ?_) | (refine wl_scmp rfl rfl rfl rfl ?_)); intro rb hrb; cases rb <;> (first | (exfalso; simp at hrb; done) | ((try simp only [CS1, gt_iff_lt, ge_iff_le, ne_eq, Decidable.not_not] at hrb); (try subst hrb); (try (exfalso; omega)))))
              | ((with_reducible refine gRg ?_); refine wp_region_text rfl (by decide +kernel) ?_; replace H := H.drew)
              | ((with_reducible refine EndQ.intro ?_ ?_); (· kernel_rfl)))
                go_roundg (gk - 1)
                case measure => have := HKG.out; omega
                case rel => exact ⟨k + 1, by rw [HF.out]; go_num, by go_num, by have := HKG.out; omega, H⟩
              · have HF : Hid (freshN m (lq.take (k + 1)) = fk) := Lib.hid (by rw [hst]; simp [isNew, h2]; omega)
                subst h2
                clear hst hfl hfk hx hrow hkg
                go_wp2_with (first
              | ((with_reducible refine gLd ?_); refine eLd H rfl rfl ?_; first | (refine kLd 0 rfl rfl T22 rfl ?_) | (refine kLd 1 rfl rfl T3 HK1.out ?_) | (refine kLd 1 rfl rfl T31 HK3.out ?_))
              | ((with_reducible refine gCvX ?_); refine wl_cvI (r := 65536 - (n : Int)) rfl Try.underlying3 Try.underlying31 (wrapU (by omega) (by omega)) rfl ?_)
              | ((with_reducible refine gLd ?_); refine eLd H rfl rfl ?_; first | ((repeat ((with_reducible refine gEx ?_); first | (refine kLd 0 rfl rfl (by exact TT _ rfl) rfl ?_) | (refine kLdA 0 rfl rfl (by exact TT _ rfl) (Nat.le_of_ble_eq_true rfl) (by simp only [Nd.cells, Nd.zero, LS2]; rfl) ?_) | (refine nxL ?_))); fail_if_success (with_reducible refine gEx ?_)))
              | ((with_reducible refine gBx ?_); refine bxA H rfl rfl rfl ?_; clear H; intro b1 w1 H)
              | ((with_reducible refine gEq ?_); (first | (refine wl_cmp rfl rfl rfl rfl ?_) | (refine wl_scmp rfl rfl rfl rfl ?_)); intro rb hrb; cases rb <;> (first | (exfalso; simp at hrb; done) | ((try simp only [CS1, gt_iff_lt, ge_iff_le, ne_eq, Decidable.not_not] at hrb); (try subst hrb); (try (exfalso; omega)))))
              | ((with_reducible refine gRg ?_); refine wp_region_text rfl (by decide +kernel) ?_; replace H := H.drew)
              | ((with_reducible refine EndQ.intro ?_ ?_); (· kernel_rfl)))
                go_roundg (gk - 1)
                case measure => have := HKG.out; omega
                case rel => exact ⟨k + 1, by rw [HF.out], by go_num, by have := HKG.out; omega, H⟩
            · have hkl : (lq.length : Int) ≤ (k : Int) := by omega
              have hk9 : freshN m (lq.take k) = fr := by rw [List.take_of_length_le (by omega)]; exact HFR.out
              rw [hk9]
              clear hkg hk hk9
              go_wp2_with (first
                  | (go_at_call 24; (refine (Lent_spec (.mk xk xf xd xn xt xa xc ks) _ H (TrR.down bk2 (HRA.out.push (_ :: _ :: _ :: _ :: _ :: _ :: [_]))) HSA.out).mono ?_; rintro e w1 ⟨⟨zk, zf, zd, zn, zt, za, zc, zs⟩, N1, rfl, hpt, htw, H1⟩; have HPT := Lib.hid hpt; have HTW := Lib.hid htw; clear hpt htw H; have H := Hp.swap (A := [_, _, _, _]) (B := [_, _]) (Hp.swap (A := N1) (B := [_, _, _, _, _, _, _]) H1); clear H1; simp only [List.cons_append, List.nil_append] at H; (try simp only [Tr.cells])))
                  | (go_at_call 25; (refine (Of_cut (L := eQ q b s d cb cs cd lq :: eQn b cb lq :: eQs s cs lq :: eQd d cd lq :: ⟨some bx, [.int .i64 xk, .int .i64 xf, .int .i64 xd, .int .u64 xn, .string xt, .slice xa ks.length xc], 50, 6⟩ :: (N1 ++ R)) (t := (.mk zk zf zd zn zt za zc zs)) (l := numsB m) ⟨mb, a, c, back _ _ H⟩ (((HTW.out.right R).push [eQ q b s d cb cs cd lq, eQn b cb lq, eQs s cs lq, eQd d cd lq, ⟨some bx, [.int .i64 xk, .int .i64 xf, .int .i64 xd, .int .u64 xn, .string xt, .slice xa ks.length xc], 50, 6⟩]) w0 D) HWB.out HLB.out (by rw [HPT.out]; exact HLKS.out) ((congrArg (fun z => growT z (numsB m)) HPT.out).trans HGP.out) (by decide)).mono ?_; rintro e w1 ⟨rfl, h1⟩; clear H back bk2; obtain ⟨mb, a, c, hg⟩ := h1; obtain ⟨wz, Dz, H, back, bk2⟩ := hg.openX; clear hg))
                  | (go_at_call 18; ((refine (num_spec H _).mono ?_); rintro e w1 ⟨rfl, H1⟩; clear H; have H := H1; clear H1))
                  | (go_at_call 19; (refine (Len_c (i := 0) (z := (m : Int)) H rfl (by rw [numsB_len])).mono ?_; rintro e w1 ⟨rfl, H1⟩; clear H; have H := H1; clear H1))
                  | (go_at_call 11; ((refine (live_hp (bk2 _ _ H)).mono ?_); rintro e w1 ⟨rfl, H1⟩))
                  | ((with_reducible refine gLd ?_); refine eLd H rfl rfl ?_; first | ((repeat ((with_reducible refine gEx ?_); first | (refine kLd 0 rfl rfl (by exact TT _ rfl) rfl ?_) | (refine kLdA 0 rfl rfl (by exact TT _ rfl) (Nat.le_of_ble_eq_true rfl) (by simp only [Nd.cells, Nd.zero, LS2]; rfl) ?_) | (refine nxL ?_))); fail_if_success (with_reducible refine gEx ?_)))
                  | ((with_reducible refine gBx ?_); refine bxA H rfl rfl rfl ?_; clear H; intro b1 w1 H)
                  | ((with_reducible refine gEq ?_); (first | (refine wl_cmp rfl rfl rfl rfl ?_) | (refine wl_scmp rfl rfl rfl rfl ?_)); intro rb hrb; cases rb <;> (first | (exfalso; simp at hrb; done) | ((try simp only [CS1, gt_iff_lt, ge_iff_le, ne_eq, Decidable.not_not] at hrb); (try subst hrb); (try (exfalso; omega)))))
                  | ((with_reducible refine gRg ?_); refine wp_region_text rfl (by decide +kernel) ?_; replace H := H.drew)
                  | ((with_reducible refine EndQ.intro ?_ ?_); (· kernel_rfl)))
              go_ret
              exact ⟨rfl, _, H1⟩
  · have hbe : 0 ≤ f ∧ f ≤ 53 := by
      by_cases h : (looksT (Tr.pt (.mk xk xf xd xn xt xa xc ks)) 0 0).1 = 0
      · have h2 := hgq h; unfold ofE at hoq; rw [if_pos h] at hoq; rw [hoq] at h2; dsimp only at h2; omega
      · have h2 := looksT_er (Tr.pt (.mk xk xf xd xn xt xa xc ks)) 0 0; unfold ofE at hoq; rw [if_neg h] at hoq; simp only [Prod.mk.injEq] at hoq; omega
    have hlk : ¬ (looksT (Tr.pt (.mk xk xf xd xn xt xa xc ks)) 0 0).1 = 0 := by
      intro h
      have h2 := hgq h; unfold ofE at hoq; rw [if_pos h] at hoq; rw [hoq] at h2; exact hf h2
    have HOP : Hid (ofE (numsB m) (Tr.pt (.mk xk xf xd xn xt xa xc ks)) = (numsB m, 0, f)) := Lib.hid (by
      unfold ofE at hoq ⊢; rw [if_neg hlk] at hoq ⊢; simp only [Prod.mk.injEq] at hoq; rw [hoq.2.2])
    have HGP : Hid ((looksT (Tr.pt (.mk xk xf xd xn xt xa xc ks)) 0 0).1 = 0 → (growT (Tr.pt (.mk xk xf xd xn xt xa xc ks)) (numsB m)).2.2 = 0) := Lib.hid (fun h => absurd h hlk)
    obtain ⟨hbe1, hbe2⟩ := hbe
    clear hpos hfc hoq hwq hlq hgq hfr hwb hlk hsa
    go_enter Try.func6, Try.ntmps6
    go_wp2_with (first
        | ((with_reducible refine gBx ?_); first | (refine bxA H rfl rfl rfl ?_; clear H; intro bx w1 H))
        | (go_at_call 23; (refine (large_t (ts := ks) H rfl (HTA.out bx) HQA.out HRRA.out).mono ?_); rintro e w1 ⟨rfl, H1⟩; clear H; have H := H1; clear H1)
        | (go_at_call 12; (refine (New_spec (Hg.of H)).mono ?_; rintro e w1 ⟨p, rfl, hP⟩; clear H))
        | ((with_reducible refine gLd ?_); refine eLd H rfl rfl ?_; first | ((repeat ((with_reducible refine gEx ?_); first | (refine kLd 0 rfl rfl (by exact TT _ rfl) rfl ?_) | (refine kLdA 0 rfl rfl (by exact TT _ rfl) (Nat.le_of_ble_eq_true rfl) (by simp only [Nd.cells, Nd.zero, LS2]; rfl) ?_) | (refine nxL ?_))); fail_if_success (with_reducible refine gEx ?_)))
        | ((with_reducible refine gBx ?_); refine bxA H rfl rfl rfl ?_; clear H; intro b1 w1 H)
        | ((with_reducible refine gEq ?_); (first | (refine wl_cmp rfl rfl rfl rfl ?_) | (refine wl_scmp rfl rfl rfl rfl ?_)); intro rb hrb; cases rb <;> (first | (exfalso; simp at hrb; done) | ((try simp only [CS1, gt_iff_lt, ge_iff_le, ne_eq, Decidable.not_not] at hrb); (try subst hrb); (try (exfalso; omega)))))
        | ((with_reducible refine gRg ?_); refine wp_region_text rfl (by decide +kernel) ?_; replace H := H.drew)
        | ((with_reducible refine EndQ.intro ?_ ?_); (· kernel_rfl)))
    go_loopg [6] m (fun g v6 wr => ∃ k : Nat, v6 = .int .i64 (k : Int) ∧ k + g = m ∧ Pl w0 D [] (⟨some bx, [.int .i64 xk, .int .i64 xf, .int .i64 xd, .int .u64 xn, .string xt, .slice xa ks.length xc], 50, 6⟩ :: R) p (numsB k) wr)
    case atStart => exact ⟨0, rfl, by omega, hP⟩
    case round =>
      clear hP
      obtain ⟨k, rfl, hkg, hP⟩ := hrel
      have HKG := Lib.hid hkg
      by_cases hk : k < m
      · have hmk := numsB_make (k := k) (by omega)
        have HMK : Hid (makeE (numsB k) ⟨2, 0, 0, (k : Int), ⟨#[]⟩, 0, 0⟩ = (numsB (k + 1), (k : Int) + 1, 0)) := Lib.hid hmk
        have HLK : Hid ((numsB k).length ≤ 65536) := Lib.hid (by rw [numsB_len]; omega)
        have HOKK := Lib.hid (numsB_wf k (by omega)).ok
        have hkm : (k : Int) < 65536 - (n : Int) := by omega
        clear hmk hkg
        go_wp2_with (first
        | ((with_reducible refine gCvX ?_); refine wl_cvI rfl Try.underlying3 Try.underlying31 (wrapU (n := (k : Int)) (by omega) (by omega)) rfl ?_)
        | (go_at_call 31; (refine (Num_mk hP HLK.out HOKK.out HMK.out).mono ?_; rintro e w1 ⟨rfl, h1⟩; clear hP; have hP := h1; clear h1))
        | (go_at_call 18; ((refine (num_pl hP _).mono ?_); rintro e w1 ⟨rfl, h1⟩; clear hP; have hP := h1; clear h1))
        | ((with_reducible refine gLd ?_); refine eLd H rfl rfl ?_; first | ((repeat ((with_reducible refine gEx ?_); first | (refine kLd 0 rfl rfl (by exact TT _ rfl) rfl ?_) | (refine kLdA 0 rfl rfl (by exact TT _ rfl) (Nat.le_of_ble_eq_true rfl) (by simp only [Nd.cells, Nd.zero, LS2]; rfl) ?_) | (refine nxL ?_))); fail_if_success (with_reducible refine gEx ?_)))
        | ((with_reducible refine gBx ?_); refine bxA H rfl rfl rfl ?_; clear H; intro b1 w1 H)
        | ((with_reducible refine gEq ?_); (first | (refine wl_cmp rfl rfl rfl rfl ?_) | (refine wl_scmp rfl rfl rfl rfl ?_)); intro rb hrb; cases rb <;> (first | (exfalso; simp at hrb; done) | ((try simp only [CS1, gt_iff_lt, ge_iff_le, ne_eq, Decidable.not_not] at hrb); (try subst hrb); (try (exfalso; omega)))))
        | ((with_reducible refine gRg ?_); refine wp_region_text rfl (by decide +kernel) ?_; replace H := H.drew)
        | ((with_reducible refine EndQ.intro ?_ ?_); (· kernel_rfl)))
        go_roundg (gk - 1)
        case measure => have := HKG.out; omega
        case rel => exact ⟨k + 1, by go_num, by have := HKG.out; omega, hP⟩
      · obtain rfl : m = k := by omega
        have hkm : 65536 - (n : Int) ≤ (m : Int) := by omega
        clear hkg hk
        go_wp2_with (first
        | (go_at_call 13; (refine (rNew_pl hP).mono ?_; rintro e w1 ⟨q, rfl, h1⟩; clear hP; obtain ⟨mb, a, c, hg⟩ := h1; obtain ⟨wz, Dz, H, back, bk2⟩ := hg.openX; clear hg))
        | (go_at_call 26; (refine (rOf_spec (t := (.mk xk xf xd xn xt xa xc ks)) (l := []) (l2 := lq) (tm := sq) (Hp.swap (A := [_, _]) (B := [_, _, _, _]) H) (TrR.down bk2 (HRA.out.push (_ :: _ :: [_]))) (Nat.zero_le _) okP_nil HOQ.out HGQ.out).mono ?_; rintro e w1 ⟨b, s, d, cb, cs, cd, rfl, H1⟩; clear H; have H := H1; clear H1))
        | ((with_reducible refine gLd ?_); refine eLd H rfl rfl ?_; first | ((repeat ((with_reducible refine gEx ?_); first | (refine kLd 0 rfl rfl (by exact TT _ rfl) rfl ?_) | (refine kLdA 0 rfl rfl (by exact TT _ rfl) (Nat.le_of_ble_eq_true rfl) (by simp only [Nd.cells, Nd.zero, LS2]; rfl) ?_) | (refine nxL ?_))); fail_if_success (with_reducible refine gEx ?_)))
        | ((with_reducible refine gBx ?_); refine bxA H rfl rfl rfl ?_; clear H; intro b1 w1 H)
        | ((with_reducible refine gEq ?_); (first | (refine wl_cmp rfl rfl rfl rfl ?_) | (refine wl_scmp rfl rfl rfl rfl ?_)); intro rb hrb; cases rb <;> (first | (exfalso; simp at hrb; done) | ((try simp only [CS1, gt_iff_lt, ge_iff_le, ne_eq, Decidable.not_not] at hrb); (try subst hrb); (try (exfalso; omega)))))
        | ((with_reducible refine gRg ?_); refine wp_region_text rfl (by decide +kernel) ?_; replace H := H.drew)
        | ((with_reducible refine EndQ.intro ?_ ?_); (· kernel_rfl)))
        go_loopg [12, 13] lq.length (fun g v12 v13 wr => ∃ k : Nat, v12 = .int .i64 ((freshN m (lq.take k) : Nat) : Int) ∧ v13 = .int .i64 (k : Int) ∧ k + g = lq.length ∧ Hp wz Dz (eQ q b s d cb cs cd lq :: eQn b cb lq :: eQs s cs lq :: eQd d cd lq :: eP p mb a c (numsB m) :: eE a c (numsB m) :: ⟨some bx, [.int .i64 xk, .int .i64 xf, .int .i64 xd, .int .u64 xn, .string xt, .slice xa ks.length xc], 50, 6⟩ :: R) wr)
        case atStart => exact ⟨0, rfl, rfl, by omega, H⟩
        case round =>
          clear H
          obtain ⟨k, rfl, rfl, hkg, H⟩ := hrel
          have HKG := Lib.hid hkg
          by_cases hk : k < lq.length
          · obtain ⟨⟨⟨x1, x2, x3, x4, x5, x6, x7⟩, z8, z9⟩, hx⟩ : ∃ e, lq[k]? = some e := ⟨_, List.getElem?_eq_getElem hk⟩
            obtain ⟨bq, hbq⟩ : ∃ bq, b = some bq := H.some_of (i := 1) rfl (by dsimp only; rw [nodesV_len]; omega)
            subst hbq
            have hcb : lq.length ≤ cb := by have h9 := H.le (i := 1) rfl; dsimp only at h9; rw [nodesV_len] at h9; omega
            have hrow := nodesV_at hx
            have HK1 : Hid ((rowsN (lq.map En.n))[k * 7]? = some (.int .i64 x1)) := Lib.hid (by
              have := congrArg (fun l => l[0]?) hrow
              simpa [Nd.cells, List.getElem?_take, List.getElem?_drop] using this)
            have HK3 : Hid ((rowsN (lq.map En.n))[k * 7 + 3]? = some (.int .u64 x4)) := Lib.hid (by
              have := congrArg (fun l => l[3]?) hrow
              simpa [Nd.cells, List.getElem?_take, List.getElem?_drop] using this)
            have hst := fresh_step (m := m) hx
            have hfl := freshN_len m (lq.take k)
            obtain ⟨fk, hfk⟩ : ∃ fk, freshN m (lq.take k) = fk := ⟨_, rfl⟩
            rw [hfk] at hst hfl ⊢
            have hfk0 : (fk : Int) ≤ 6000 := by rw [List.length_take] at hfl; have := HLQ6.out; omega
            have hks : (k : Int) ≤ 6000 := by have := HLQ6.out; omega
            have hkl : (k : Int) < lq.length := by omega
            rcases (show (¬ x1 = 2) ∨ (x1 = 2 ∧ 65536 - (n : Int) ≤ x4) ∨ (x1 = 2 ∧ x4 < 65536 - (n : Int)) by omega) with h2 | ⟨h2, h3⟩ | ⟨h2, h3⟩
            · have HF : Hid (freshN m (lq.take (k + 1)) = fk + 1) := Lib.hid (by rw [hst]; simp [isNew, h2])
              clear hst hfl hfk hx hrow hkg
              go_wp2_with (first
            | ((with_reducible refine gLd ?_); refine eLd H rfl rfl ?_; first | (refine kLd 0 rfl rfl T22 rfl ?_) | (refine kLd 1 rfl rfl T3 HK1.out ?_) | (refine kLd 1 rfl rfl T31 HK3.out ?_))
            | ((with_reducible refine gCvX ?_); refine wl_cvI (r := 65536 - (n : Int)) rfl Try.underlying3 Try.underlying31 (wrapU (by omega) (by omega)) rfl ?_)
            | ((with_reducible refine gLd ?_); refine eLd H rfl rfl ?_; first | ((repeat ((with_reducible refine gEx ?_); first | (refine kLd 0 rfl rfl (by exact TT _ rfl) rfl ?_) | (refine kLdA 0 rfl rfl (by exact TT _ rfl) (Nat.le_of_ble_eq_true rfl) (by simp only [Nd.cells, Nd.zero, LS2]; rfl) ?_) | (refine nxL ?_))); fail_if_success (with_reducible refine gEx ?_)))
            | ((with_reducible refine gBx ?_); refine bxA H rfl rfl rfl ?_; clear H; intro b1 w1 H)
            | ((with_reducible refine gEq ?_); (first | (refine wl_cmp rfl rfl rfl rfl ?_) | (refine wl_scmp rfl rfl rfl rfl ?_)); intro rb hrb; cases rb <;> (first | (exfalso; simp at hrb; done) | ((try simp only [CS1, gt_iff_lt, ge_iff_le, ne_eq, Decidable.not_not] at hrb); (try subst hrb); (try (exfalso; omega)))))
            | ((with_reducible refine gRg ?_); refine wp_region_text rfl (by decide +kernel) ?_; replace H := H.drew)
            | ((with_reducible refine EndQ.intro ?_ ?_); (· kernel_rfl)))
              go_roundg (gk - 1)
              case measure => have := HKG.out; omega
              case rel => exact ⟨k + 1, by rw [HF.out]; go_num, by go_num, by have := HKG.out; omega, H⟩
            · have HF : Hid (freshN m (lq.take (k + 1)) = fk + 1) := Lib.hid (by rw [hst]; simp [isNew, h2]; omega)
              subst h2
              clear hst hfl hfk hx hrow hkg
              go_wp2_with (first
            | ((with_reducible refine gLd ?_); refine eLd H rfl rfl ?_; first | (refine kLd 0 rfl rfl T22 rfl ?_) | (refine kLd 1 rfl rfl T3 HK1.out ?_) | (refine kLd 1 rfl rfl T31 HK3.out ?_))
            | ((with_reducible refine gCvX ?_); refine wl_cvI (r := 65536 - (n : Int)) rfl Try.underlying3 Try.underlying31 (wrapU (by omega) (by omega)) rfl ?_)
            | ((with_reducible refine gLd ?_); refine eLd H rfl rfl ?_; first | ((repeat ((with_reducible refine gEx ?_); first | (refine kLd 0 rfl rfl (by exact TT _ rfl) rfl ?_) | (refine kLdA 0 rfl rfl (by exact TT _ rfl) (Nat.le_of_ble_eq_true rfl) (by simp only [Nd.cells, Nd.zero, LS2]; rfl) ?_) | (refine nxL ?_))); fail_if_success (with_reducible refine gEx ?_)))
            | ((with_reducible refine gBx ?_); refine bxA H rfl rfl rfl ?_; clear H; intro b1 w1 H)
            | ((with_reducible refine gEq ?_); (first | (refine wl_cmp rfl rfl rfl rfl ?_) | (refine wl_scmp rfl rfl rfl rfl ?_)); intro rb hrb; cases rb <;> (first | (exfalso; simp at hrb; done) | ((try simp only [CS1, gt_iff_lt, ge_iff_le, ne_eq, Decidable.not_not] at hrb); (try subst hrb); (try (exfalso; omega)))))
            | ((with_reducible refine gRg ?_); refine wp_region_text rfl (by decide +kernel) ?_; replace H := H.drew)
            | ((with_reducible refine EndQ.intro ?_ ?_); (· kernel_rfl)))
              go_roundg (gk - 1)
              case measure => have := HKG.out; omega
              case rel => exact ⟨k + 1, by rw [HF.out]; go_num, by go_num, by have := HKG.out; omega, H⟩
            · have HF : Hid (freshN m (lq.take (k + 1)) = fk) := Lib.hid (by rw [hst]; simp [isNew, h2]; omega)
              subst h2
              clear hst hfl hfk hx hrow hkg
              go_wp2_with (first
            | ((with_reducible refine gLd ?_); refine eLd H rfl rfl ?_; first | (refine kLd 0 rfl rfl T22 rfl ?_) | (refine kLd 1 rfl rfl T3 HK1.out ?_) | (refine kLd 1 rfl rfl T31 HK3.out ?_))
            | ((with_reducible refine gCvX ?_); refine wl_cvI (r := 65536 - (n : Int)) rfl Try.underlying3 Try.underlying31 (wrapU (by omega) (by omega)) rfl ?_)
            | ((with_reducible refine gLd ?_); refine eLd H rfl rfl ?_; first | ((repeat ((with_reducible refine gEx ?_); first | (refine kLd 0 rfl rfl (by exact TT _ rfl) rfl ?_) | (refine kLdA 0 rfl rfl (by exact TT _ rfl) (Nat.le_of_ble_eq_true rfl) (by simp only [Nd.cells, Nd.zero, LS2]; rfl) ?_) | (refine nxL ?_))); fail_if_success (with_reducible refine gEx ?_)))
            | ((with_reducible refine gBx ?_); refine bxA H rfl rfl rfl ?_; clear H; intro b1 w1 H)
            | ((with_reducible refine gEq ?_); (first | (refine wl_cmp rfl rfl rfl rfl ?_) | (refine wl_scmp rfl rfl rfl rfl ?_)); intro rb hrb; cases rb <;> (first | (exfalso; simp at hrb; done) | ((try simp only [CS1, gt_iff_lt, ge_iff_le, ne_eq, Decidable.not_not] at hrb); (try subst hrb); (try (exfalso; omega)))))
            | ((with_reducible refine gRg ?_); refine wp_region_text rfl (by decide +kernel) ?_; replace H := H.drew)
            | ((with_reducible refine EndQ.intro ?_ ?_); (· kernel_rfl)))
              go_roundg (gk - 1)
              case measure => have := HKG.out; omega
              case rel => exact ⟨k + 1, by rw [HF.out], by go_num, by have := HKG.out; omega, H⟩
          · have hkl : (lq.length : Int) ≤ (k : Int) := by omega
            have hk9 : freshN m (lq.take k) = fr := by rw [List.take_of_length_le (by omega)]; exact HFR.out
            rw [hk9]
            clear hkg hk hk9
            go_wp2_with (first
                | (go_at_call 24; (refine (Lent_spec (.mk xk xf xd xn xt xa xc ks) _ H (TrR.down bk2 (HRA.out.push (_ :: _ :: _ :: _ :: _ :: _ :: [_]))) HSA.out).mono ?_; rintro e w1 ⟨⟨zk, zf, zd, zn, zt, za, zc, zs⟩, N1, rfl, hpt, htw, H1⟩; have HPT := Lib.hid hpt; have HTW := Lib.hid htw; clear hpt htw H; have H := Hp.swap (A := [_, _, _, _]) (B := [_, _]) (Hp.swap (A := N1) (B := [_, _, _, _, _, _, _]) H1); clear H1; simp only [List.cons_append, List.nil_append] at H; (try simp only [Tr.cells])))
                | (go_at_call 25; (refine (Of_spec (L := eQ q b s d cb cs cd lq :: eQn b cb lq :: eQs s cs lq :: eQd d cd lq :: ⟨some bx, [.int .i64 xk, .int .i64 xf, .int .i64 xd, .int .u64 xn, .string xt, .slice xa ks.length xc], 50, 6⟩ :: (N1 ++ R)) (t := (.mk zk zf zd zn zt za zc zs)) (l := numsB m) ⟨mb, a, c, back _ _ H⟩ (((HTW.out.right R).push [eQ q b s d cb cs cd lq, eQn b cb lq, eQs s cs lq, eQd d cd lq, ⟨some bx, [.int .i64 xk, .int .i64 xf, .int .i64 xd, .int .u64 xn, .string xt, .slice xa ks.length xc], 50, 6⟩]) w0 D) HLB.out HWB.out.ok ((congrArg (ofE (numsB m)) HPT.out).trans HOP.out) (by rw [HPT.out]; exact HGP.out)).mono ?_; rintro e w1 ⟨rfl, h1⟩; clear H back bk2; obtain ⟨mb, a, c, hg⟩ := h1; obtain ⟨wz, Dz, H, back, bk2⟩ := hg.openX; clear hg))
                | (go_at_call 18; ((refine (num_spec H _).mono ?_); rintro e w1 ⟨rfl, H1⟩; clear H; have H := H1; clear H1))
                | (go_at_call 19; (refine (Len_c (i := 0) (z := (m : Int)) H rfl (by rw [numsB_len])).mono ?_; rintro e w1 ⟨rfl, H1⟩; clear H; have H := H1; clear H1))
                | (go_at_call 11; ((refine (live_hp (bk2 _ _ H)).mono ?_); rintro e w1 ⟨rfl, H1⟩))
                | ((with_reducible refine gLd ?_); refine eLd H rfl rfl ?_; first | ((repeat ((with_reducible refine gEx ?_); first | (refine kLd 0 rfl rfl (by exact TT _ rfl) rfl ?_) | (refine kLdA 0 rfl rfl (by exact TT _ rfl) (Nat.le_of_ble_eq_true rfl) (by simp only [Nd.cells, Nd.zero, LS2]; rfl) ?_) | (refine nxL ?_))); fail_if_success (with_reducible refine gEx ?_)))
                | ((with_reducible refine gBx ?_); refine bxA H rfl rfl rfl ?_; clear H; intro b1 w1 H)
                | ((with_reducible refine gEq ?_); (first | (refine wl_cmp rfl rfl rfl rfl ?_) | (refine wl_scmp rfl rfl rfl rfl ?_)); intro rb hrb; cases rb <;> (first | (exfalso; simp at hrb; done) | ((try simp only [CS1, gt_iff_lt, ge_iff_le, ne_eq, Decidable.not_not] at hrb); (try subst hrb); (try (exfalso; omega)))))
                | ((with_reducible refine gRg ?_); refine wp_region_text rfl (by decide +kernel) ?_; replace H := H.drew)
                | ((with_reducible refine EndQ.intro ?_ ?_); (· kernel_rfl)))
            go_ret
            exact ⟨rfl, _, H1⟩
end Go.Proofs.Ytebecelhcpljaaa
