/- Make. -/
import Derived.Test.YtebecelhcpljaaaW9
import Derived.Deep.Cut
import Derived.WalkKit
import Derived.Lib.Hide
import Derived.Deep.LoopGhost
import Derived.WalkSpells
set_option linter.unusedVariables false
set_option linter.unusedSimpArgs false
namespace Go.Proofs.Ytebecelhcpljaaa
open Go.RowKit Go.Gx Go.Gx.Trm
set_option maxRecDepth 100000
theorem check_at {w0 w : World} {D : Nat → Prop} {R : List Ent} {p mb : Nat} {a : Option Nat} {c : Nat} {l : List En} {i j : Nat} {n : Nd} {sz dp er : Int} (H : Hp w0 D R w) (hp : R[i]? = some (eP p mb a c l)) (hq : R[j]? = some (eE a c l)) (hl : l.length ≤ 65536) (hok : okP l) (h1 : sizeC l n = sz) (h2 : deepC l n = dp) (h3 : checkE l n = er) :
    Calls Try.prog 70 #[.pointer (some ⟨p, 0, none⟩), .agg n.cells.toArray] w fun e w' => e = .returned (.tuple #[.int .i64 sz, .int .i64 dp, .int .i64 er]) ∧ Hp w0 D R w' := by
  subst h1 h2 h3
  exact check_spec H hp hq hl hok n
theorem pl_new {w0 w : World} {D : Nat → Prop} {L : List Ent} {p mb : Nat} {a : Option Nat} {c : Nat} {l : List En} {n : Nd} {sz dp : Int}
    (H : Hp w0 D (⟨some p, [.slice (adr a 0) (l.length + 1) c, .map (some mb)], 81, 2⟩ :: ⟨a, rowsE l ++ [.int .i64 n.kind, .int .i64 n.frm, .int .i64 n.dst, .int .u64 n.num, .string n.text, .int .i64 n.a, .int .i64 n.b, .int .i64 sz, .int .i64 dp], 88, c * 9⟩ :: L) w) :
    Hp w0 D (eP p mb a c (l ++ [⟨n, sz, dp⟩]) :: eE a c (l ++ [⟨n, sz, dp⟩]) :: L) w := by
  simp only [eP, eE, List.length_append, List.length_cons, List.length_nil, Nat.zero_add]
  rw [← rowsE_snoc]
  exact H
def MkP (W : World) (E : Nat → Prop) (M : List (Nat × List (Value × Value))) (L : List Ent) (p : Nat) (l' : List En) (t er : Int) (e : Ending) (w' : World) : Prop :=
  e = .returned (.tuple #[.int .i64 t, .int .i64 er]) ∧ Pl W E M L p l' w'
set_option maxHeartbeats 4000000 in
theorem Make_err {W w : World} {E : Nat → Prop} {M : List (Nat × List (Value × Value))} {L : List Ent} {p : Nat} {l : List En} {n : Nd} {er : Int} {r : Option Nat} (h0 : Pl W E M L p l w) (hl : l.length ≤ 65536) (hok : okP l) (her : checkE l n = er) (hfi : findN l n 0 = r) (h5 : ¬ er = 0) : Calls Try.prog 39 #[.pointer (some ⟨p, 0, none⟩), .agg n.cells.toArray] w fun e w' => MkP W E M L p (l) (0) (er) e w' := by
  obtain ⟨mb, a, c, h⟩ := h0
  obtain ⟨x1, x2, x3, x4, x5, x6, x7⟩ := n
  obtain ⟨sz, hsz⟩ : ∃ z, sizeC l ⟨x1, x2, x3, x4, x5, x6, x7⟩ = z := ⟨_, rfl⟩
  obtain ⟨dp, hdp⟩ : ∃ z, deepC l ⟨x1, x2, x3, x4, x5, x6, x7⟩ = z := ⟨_, rfl⟩
  have HSZ := Lib.hid hsz
  have HDP := Lib.hid hdp
  have HER := Lib.hid her
  have HHL := Lib.hid hl
  clear hl
  have HOK := Lib.hid hok
  have HFI := Lib.hid hfi
  clear hsz hdp her hok hfi
  obtain ⟨w0, D, H, back, hm⟩ := h.open1 (i := 0) rfl
  have HM := Lib.hid hm
  clear hm h
  simp only [Nd.cells]
  go_enter Try.func39, Try.ntmps39
  go_wp2_with (first
    | (go_at_call 70; (refine (check_at (i := 1) (j := 2) (n := ⟨x1, x2, x3, x4, x5, x6, x7⟩) H rfl rfl HHL.out HOK.out HSZ.out HDP.out HER.out).mono ?_; rintro e w1 ⟨rfl, H1⟩; clear H; have H := H1; clear H1))
    | ((with_reducible refine gLk ?_); refine wl_lookN (n := ⟨x1, x2, x3, x4, x5, x6, x7⟩) rfl rfl rfl (HM.out _ _ H) HFI.out ?_)
    | ((with_reducible refine gBs ?_); refine bs1 (vs := [.int .i64 x1, .int .i64 x2, .int .i64 x3, .int .u64 x4, .string x5, .int .i64 x6, .int .i64 x7, .int .i64 sz, .int .i64 dp]) H rfl S79 rfl (by decide) (by decide) rfl ?_; clear H; intro b8 w1 H)
    | ((with_reducible refine gAp ?_); refine wl_append 3 0 rfl H rfl rfl rfl rfl S79 (by decide) (Or.inl rfl) (rowsE_length l) rfl (fun h => by cases h) (Nat.le_of_ble_eq_true rfl) rfl (by have h9 := H6.out; unfold maxLen; omega) (by have h9 := H6.out; omega) ?_; clear H; intro a' c' w1 H h9; clear h9; simp only [List.set_cons_zero, List.set_cons_succ, List.drop_zero, Nat.one_mul, List.take_succ_cons, List.take_zero] at H; replace H := H.drop)
    | ((with_reducible refine gMu ?_); refine wl_mapUpN (e := ⟨⟨x1, x2, x3, x4, x5, x6, x7⟩, sz, dp⟩) rfl rfl rfl rfl (back _ _ H) 0 rfl HFI.out ?_; clear H back; intro w1 h1; obtain ⟨w0, D, H, back⟩ := h1.open)
    | ((with_reducible refine gLd ?_); refine eLd H rfl rfl ?_; first | ((repeat ((with_reducible refine gEx ?_); first | (refine kLd 0 rfl rfl (by exact TT _ rfl) rfl ?_) | (refine kLdA 0 rfl rfl (by exact TT _ rfl) (Nat.le_of_ble_eq_true rfl) (by simp only [Nd.cells, Nd.zero, eP, eE, LS2]; rfl) ?_) | (refine nxL ?_))); fail_if_success (with_reducible refine gEx ?_)))
    | ((with_reducible refine gSt ?_); (first | (refine eSt H rfl rfl ⟨.int _ _, rfl, ?_⟩) | (refine eSt H rfl rfl ⟨.bool _, rfl, ?_⟩) | (refine eSt H rfl rfl ⟨.slice _ _ _, rfl, ?_⟩) | (refine eSt H rfl rfl ⟨.pointer _, rfl, ?_⟩) | (refine eSt H rfl rfl ⟨.string _, rfl, ?_⟩) | (refine eSt H rfl rfl ⟨.agg (List.toArray _), rfl, ?_⟩)); (first | ((repeat ((with_reducible refine gES ?_); first | (refine kSt 0 rfl rfl (by exact TT _ rfl) rfl (Nat.le_of_ble_eq_true rfl) ?_) | (refine kStA 0 rfl rfl (by exact TT _ rfl) rfl rfl (Nat.le_of_ble_eq_true rfl) ?_) | (refine nxS ?_))); fail_if_success (with_reducible refine gES ?_))); clear H; intro w1 H; simp only [List.set_cons_zero, List.set_cons_succ] at H; (try simp only [lay, LS1, Nat.reduceAdd] at H))
    | ((with_reducible refine gBx ?_); refine bxA H rfl rfl rfl ?_; clear H; intro b1 w1 H)
    | ((with_reducible refine gBs ?_); (first | (refine bs1 H rfl (by exact SS _ rfl) rfl (Nat.le_of_ble_eq_true rfl) (Nat.le_of_ble_eq_true rfl) rfl ?_) | (refine wl_buildSlice0 rfl (by exact SS _ rfl) H ?_)); clear H; intro b1 w1 H)
    | ((with_reducible refine gEq ?_); (first | (refine wl_cmp rfl rfl rfl rfl ?_) | (refine wl_scmp rfl rfl rfl rfl ?_)); intro rb hrb; cases rb <;> (first | (exfalso; simp at hrb; done) | ((try simp only [CS1, gt_iff_lt, ge_iff_le, ne_eq, Decidable.not_not] at hrb); (try subst hrb); (try (exfalso; omega)))))
    | ((with_reducible refine gAl ?_); (first | (refine al H Z33 rfl rfl ?_) | (refine al H Z110 rfl rfl ?_) | (refine al H Z122 rfl rfl ?_)); clear H; intro b1 w1 H)
    | ((with_reducible refine gRg ?_); refine wp_region_text rfl (by decide +kernel) ?_; replace H := H.drew)
    | ((with_reducible refine EndQ.intro ?_ ?_); (· kernel_rfl)))
  all_goals go_ret2
  all_goals exact ⟨rfl, mb, a, c, back _ _ H.drop⟩
set_option maxHeartbeats 4000000 in
theorem Make_hit {W w : World} {E : Nat → Prop} {M : List (Nat × List (Value × Value))} {L : List Ent} {p : Nat} {l : List En} {n : Nd} {i : Nat} (h0 : Pl W E M L p l w) (hl : l.length ≤ 65536) (hok : okP l) (her : checkE l n = 0) (hfi : findN l n 0 = some i)  : Calls Try.prog 39 #[.pointer (some ⟨p, 0, none⟩), .agg n.cells.toArray] w fun e w' => MkP W E M L p (l) ((i : Int) + 1) (0) e w' := by
  obtain ⟨mb, a, c, h⟩ := h0
  obtain ⟨x1, x2, x3, x4, x5, x6, x7⟩ := n
  obtain ⟨sz, hsz⟩ : ∃ z, sizeC l ⟨x1, x2, x3, x4, x5, x6, x7⟩ = z := ⟨_, rfl⟩
  obtain ⟨dp, hdp⟩ : ∃ z, deepC l ⟨x1, x2, x3, x4, x5, x6, x7⟩ = z := ⟨_, rfl⟩
  have HSZ := Lib.hid hsz
  have HDP := Lib.hid hdp
  have HER := Lib.hid her
  have HHL := Lib.hid hl
  clear hl
  have HOK := Lib.hid hok
  have HFI := Lib.hid hfi
  clear hsz hdp her hok hfi
  obtain ⟨w0, D, H, back, hm⟩ := h.open1 (i := 0) rfl
  have HM := Lib.hid hm
  clear hm h
  simp only [Nd.cells]
  go_enter Try.func39, Try.ntmps39
  go_wp2_with (first
    | (go_at_call 70; (refine (check_at (i := 1) (j := 2) (n := ⟨x1, x2, x3, x4, x5, x6, x7⟩) H rfl rfl HHL.out HOK.out HSZ.out HDP.out HER.out).mono ?_; rintro e w1 ⟨rfl, H1⟩; clear H; have H := H1; clear H1))
    | ((with_reducible refine gLk ?_); refine wl_lookN (n := ⟨x1, x2, x3, x4, x5, x6, x7⟩) rfl rfl rfl (HM.out _ _ H) HFI.out ?_)
    | ((with_reducible refine gBs ?_); refine bs1 (vs := [.int .i64 x1, .int .i64 x2, .int .i64 x3, .int .u64 x4, .string x5, .int .i64 x6, .int .i64 x7, .int .i64 sz, .int .i64 dp]) H rfl S79 rfl (by decide) (by decide) rfl ?_; clear H; intro b8 w1 H)
    | ((with_reducible refine gAp ?_); refine wl_append 3 0 rfl H rfl rfl rfl rfl S79 (by decide) (Or.inl rfl) (rowsE_length l) rfl (fun h => by cases h) (Nat.le_of_ble_eq_true rfl) rfl (by have h9 := H6.out; unfold maxLen; omega) (by have h9 := H6.out; omega) ?_; clear H; intro a' c' w1 H h9; clear h9; simp only [List.set_cons_zero, List.set_cons_succ, List.drop_zero, Nat.one_mul, List.take_succ_cons, List.take_zero] at H; replace H := H.drop)
    | ((with_reducible refine gMu ?_); refine wl_mapUpN (e := ⟨⟨x1, x2, x3, x4, x5, x6, x7⟩, sz, dp⟩) rfl rfl rfl rfl (back _ _ H) 0 rfl HFI.out ?_; clear H back; intro w1 h1; obtain ⟨w0, D, H, back⟩ := h1.open)
    | ((with_reducible refine gLd ?_); refine eLd H rfl rfl ?_; first | ((repeat ((with_reducible refine gEx ?_); first | (refine kLd 0 rfl rfl (by exact TT _ rfl) rfl ?_) | (refine kLdA 0 rfl rfl (by exact TT _ rfl) (Nat.le_of_ble_eq_true rfl) (by simp only [Nd.cells, Nd.zero, eP, eE, LS2]; rfl) ?_) | (refine nxL ?_))); fail_if_success (with_reducible refine gEx ?_)))
    | ((with_reducible refine gSt ?_); (first | (refine eSt H rfl rfl ⟨.int _ _, rfl, ?_⟩) | (refine eSt H rfl rfl ⟨.bool _, rfl, ?_⟩) | (refine eSt H rfl rfl ⟨.slice _ _ _, rfl, ?_⟩) | (refine eSt H rfl rfl ⟨.pointer _, rfl, ?_⟩) | (refine eSt H rfl rfl ⟨.string _, rfl, ?_⟩) | (refine eSt H rfl rfl ⟨.agg (List.toArray _), rfl, ?_⟩)); (first | ((repeat ((with_reducible refine gES ?_); first | (refine kSt 0 rfl rfl (by exact TT _ rfl) rfl (Nat.le_of_ble_eq_true rfl) ?_) | (refine kStA 0 rfl rfl (by exact TT _ rfl) rfl rfl (Nat.le_of_ble_eq_true rfl) ?_) | (refine nxS ?_))); fail_if_success (with_reducible refine gES ?_))); clear H; intro w1 H; simp only [List.set_cons_zero, List.set_cons_succ] at H; (try simp only [lay, LS1, Nat.reduceAdd] at H))
    | ((with_reducible refine gBx ?_); refine bxA H rfl rfl rfl ?_; clear H; intro b1 w1 H)
    | ((with_reducible refine gBs ?_); (first | (refine bs1 H rfl (by exact SS _ rfl) rfl (Nat.le_of_ble_eq_true rfl) (Nat.le_of_ble_eq_true rfl) rfl ?_) | (refine wl_buildSlice0 rfl (by exact SS _ rfl) H ?_)); clear H; intro b1 w1 H)
    | ((with_reducible refine gEq ?_); (first | (refine wl_cmp rfl rfl rfl rfl ?_) | (refine wl_scmp rfl rfl rfl rfl ?_)); intro rb hrb; cases rb <;> (first | (exfalso; simp at hrb; done) | ((try simp only [CS1, gt_iff_lt, ge_iff_le, ne_eq, Decidable.not_not] at hrb); (try subst hrb); (try (exfalso; omega)))))
    | ((with_reducible refine gAl ?_); (first | (refine al H Z33 rfl rfl ?_) | (refine al H Z110 rfl rfl ?_) | (refine al H Z122 rfl rfl ?_)); clear H; intro b1 w1 H)
    | ((with_reducible refine gRg ?_); refine wp_region_text rfl (by decide +kernel) ?_; replace H := H.drew)
    | ((with_reducible refine EndQ.intro ?_ ?_); (· kernel_rfl)))
  all_goals go_ret2
  all_goals exact ⟨rfl, mb, a, c, back _ _ H.drop⟩
set_option maxHeartbeats 4000000 in
theorem Make_full {W w : World} {E : Nat → Prop} {M : List (Nat × List (Value × Value))} {L : List Ent} {p : Nat} {l : List En} {n : Nd}  (h0 : Pl W E M L p l w) (hl : l.length ≤ 65536) (hok : okP l) (her : checkE l n = 0) (hfi : findN l n 0 = none) (h6 : 65536 ≤ l.length) : Calls Try.prog 39 #[.pointer (some ⟨p, 0, none⟩), .agg n.cells.toArray] w fun e w' => MkP W E M L p (l) (0) (6) e w' := by
  obtain ⟨mb, a, c, h⟩ := h0
  obtain ⟨x1, x2, x3, x4, x5, x6, x7⟩ := n
  obtain ⟨sz, hsz⟩ : ∃ z, sizeC l ⟨x1, x2, x3, x4, x5, x6, x7⟩ = z := ⟨_, rfl⟩
  obtain ⟨dp, hdp⟩ : ∃ z, deepC l ⟨x1, x2, x3, x4, x5, x6, x7⟩ = z := ⟨_, rfl⟩
  have HSZ := Lib.hid hsz
  have HDP := Lib.hid hdp
  have HER := Lib.hid her
  have HHL := Lib.hid hl
  clear hl
  have HOK := Lib.hid hok
  have HFI := Lib.hid hfi
  clear hsz hdp her hok hfi
  obtain ⟨w0, D, H, back, hm⟩ := h.open1 (i := 0) rfl
  have HM := Lib.hid hm
  clear hm h
  simp only [Nd.cells]
  go_enter Try.func39, Try.ntmps39
  go_wp2_with (first
    | (go_at_call 70; (refine (check_at (i := 1) (j := 2) (n := ⟨x1, x2, x3, x4, x5, x6, x7⟩) H rfl rfl HHL.out HOK.out HSZ.out HDP.out HER.out).mono ?_; rintro e w1 ⟨rfl, H1⟩; clear H; have H := H1; clear H1))
    | ((with_reducible refine gLk ?_); refine wl_lookN (n := ⟨x1, x2, x3, x4, x5, x6, x7⟩) rfl rfl rfl (HM.out _ _ H) HFI.out ?_)
    | ((with_reducible refine gBs ?_); refine bs1 (vs := [.int .i64 x1, .int .i64 x2, .int .i64 x3, .int .u64 x4, .string x5, .int .i64 x6, .int .i64 x7, .int .i64 sz, .int .i64 dp]) H rfl S79 rfl (by decide) (by decide) rfl ?_; clear H; intro b8 w1 H)
    | ((with_reducible refine gAp ?_); refine wl_append 3 0 rfl H rfl rfl rfl rfl S79 (by decide) (Or.inl rfl) (rowsE_length l) rfl (fun h => by cases h) (Nat.le_of_ble_eq_true rfl) rfl (by have h9 := H6.out; unfold maxLen; omega) (by have h9 := H6.out; omega) ?_; clear H; intro a' c' w1 H h9; clear h9; simp only [List.set_cons_zero, List.set_cons_succ, List.drop_zero, Nat.one_mul, List.take_succ_cons, List.take_zero] at H; replace H := H.drop)
    | ((with_reducible refine gMu ?_); refine wl_mapUpN (e := ⟨⟨x1, x2, x3, x4, x5, x6, x7⟩, sz, dp⟩) rfl rfl rfl rfl (back _ _ H) 0 rfl HFI.out ?_; clear H back; intro w1 h1; obtain ⟨w0, D, H, back⟩ := h1.open)
    | ((with_reducible refine gLd ?_); refine eLd H rfl rfl ?_; first | ((repeat ((with_reducible refine gEx ?_); first | (refine kLd 0 rfl rfl (by exact TT _ rfl) rfl ?_) | (refine kLdA 0 rfl rfl (by exact TT _ rfl) (Nat.le_of_ble_eq_true rfl) (by simp only [Nd.cells, Nd.zero, eP, eE, LS2]; rfl) ?_) | (refine nxL ?_))); fail_if_success (with_reducible refine gEx ?_)))
    | ((with_reducible refine gSt ?_); (first | (refine eSt H rfl rfl ⟨.int _ _, rfl, ?_⟩) | (refine eSt H rfl rfl ⟨.bool _, rfl, ?_⟩) | (refine eSt H rfl rfl ⟨.slice _ _ _, rfl, ?_⟩) | (refine eSt H rfl rfl ⟨.pointer _, rfl, ?_⟩) | (refine eSt H rfl rfl ⟨.string _, rfl, ?_⟩) | (refine eSt H rfl rfl ⟨.agg (List.toArray _), rfl, ?_⟩)); (first | ((repeat ((with_reducible refine gES ?_); first | (refine kSt 0 rfl rfl (by exact TT _ rfl) rfl (Nat.le_of_ble_eq_true rfl) ?_) | (refine kStA 0 rfl rfl (by exact TT _ rfl) rfl rfl (Nat.le_of_ble_eq_true rfl) ?_) | (refine nxS ?_))); fail_if_success (with_reducible refine gES ?_))); clear H; intro w1 H; simp only [List.set_cons_zero, List.set_cons_succ] at H; (try simp only [lay, LS1, Nat.reduceAdd] at H))
    | ((with_reducible refine gBx ?_); refine bxA H rfl rfl rfl ?_; clear H; intro b1 w1 H)
    | ((with_reducible refine gBs ?_); (first | (refine bs1 H rfl (by exact SS _ rfl) rfl (Nat.le_of_ble_eq_true rfl) (Nat.le_of_ble_eq_true rfl) rfl ?_) | (refine wl_buildSlice0 rfl (by exact SS _ rfl) H ?_)); clear H; intro b1 w1 H)
    | ((with_reducible refine gEq ?_); (first | (refine wl_cmp rfl rfl rfl rfl ?_) | (refine wl_scmp rfl rfl rfl rfl ?_)); intro rb hrb; cases rb <;> (first | (exfalso; simp at hrb; done) | ((try simp only [CS1, gt_iff_lt, ge_iff_le, ne_eq, Decidable.not_not] at hrb); (try subst hrb); (try (exfalso; omega)))))
    | ((with_reducible refine gAl ?_); (first | (refine al H Z33 rfl rfl ?_) | (refine al H Z110 rfl rfl ?_) | (refine al H Z122 rfl rfl ?_)); clear H; intro b1 w1 H)
    | ((with_reducible refine gRg ?_); refine wp_region_text rfl (by decide +kernel) ?_; replace H := H.drew)
    | ((with_reducible refine EndQ.intro ?_ ?_); (· kernel_rfl)))
  all_goals go_ret2
  all_goals exact ⟨rfl, mb, a, c, back _ _ H.drop⟩
set_option maxHeartbeats 4000000 in
theorem Make_new {W w : World} {E : Nat → Prop} {M : List (Nat × List (Value × Value))} {L : List Ent} {p : Nat} {l : List En} {n : Nd} {l2 : List En} {t : Int} (h0 : Pl W E M L p l w) (hl : l.length ≤ 65536) (hok : okP l) (her : checkE l n = 0) (hfi : findN l n 0 = none) (h6 : l.length ≤ 65535) (hl2 : l ++ [⟨n, sizeC l n, deepC l n⟩] = l2) (ht : (l.length : Int) + 1 = t) : Calls Try.prog 39 #[.pointer (some ⟨p, 0, none⟩), .agg n.cells.toArray] w fun e w' => MkP W E M L p (l2) (t) (0) e w' := by
  obtain ⟨mb, a, c, h⟩ := h0
  obtain ⟨x1, x2, x3, x4, x5, x6, x7⟩ := n
  obtain ⟨sz, hsz⟩ : ∃ z, sizeC l ⟨x1, x2, x3, x4, x5, x6, x7⟩ = z := ⟨_, rfl⟩
  obtain ⟨dp, hdp⟩ : ∃ z, deepC l ⟨x1, x2, x3, x4, x5, x6, x7⟩ = z := ⟨_, rfl⟩
  have HSZ := Lib.hid hsz
  have HDP := Lib.hid hdp
  have HER := Lib.hid her
  have HHL := Lib.hid hl
  clear hl
  rw [hsz, hdp] at hl2
  have H6 := Lib.hid h6
  clear h6
  have HL2 := Lib.hid hl2
  have HT := Lib.hid ht
  clear hl2 ht
  have HOK := Lib.hid hok
  have HFI := Lib.hid hfi
  clear hsz hdp her hok hfi
  obtain ⟨w0, D, H, back, hm⟩ := h.open1 (i := 0) rfl
  have HM := Lib.hid hm
  clear hm h
  simp only [Nd.cells]
  go_enter Try.func39, Try.ntmps39
  go_wp2_with (first
    | (go_at_call 70; (refine (check_at (i := 1) (j := 2) (n := ⟨x1, x2, x3, x4, x5, x6, x7⟩) H rfl rfl HHL.out HOK.out HSZ.out HDP.out HER.out).mono ?_; rintro e w1 ⟨rfl, H1⟩; clear H; have H := H1; clear H1))
    | ((with_reducible refine gLk ?_); refine wl_lookN (n := ⟨x1, x2, x3, x4, x5, x6, x7⟩) rfl rfl rfl (HM.out _ _ H) HFI.out ?_)
    | ((with_reducible refine gBs ?_); refine bs1 (vs := [.int .i64 x1, .int .i64 x2, .int .i64 x3, .int .u64 x4, .string x5, .int .i64 x6, .int .i64 x7, .int .i64 sz, .int .i64 dp]) H rfl S79 rfl (by decide) (by decide) rfl ?_; clear H; intro b8 w1 H)
    | ((with_reducible refine gAp ?_); refine wl_append 3 0 rfl H rfl rfl rfl rfl S79 (by decide) (Or.inl rfl) (rowsE_length l) rfl (fun h => by cases h) (Nat.le_of_ble_eq_true rfl) rfl (by have h9 := H6.out; unfold maxLen; omega) (by have h9 := H6.out; omega) ?_; clear H; intro a' c' w1 H h9; clear h9; simp only [List.set_cons_zero, List.set_cons_succ, List.drop_zero, Nat.one_mul, List.take_succ_cons, List.take_zero] at H; replace H := H.drop)
    | ((with_reducible refine gMu ?_); refine wl_mapUpN (e := ⟨⟨x1, x2, x3, x4, x5, x6, x7⟩, sz, dp⟩) rfl rfl rfl rfl (back _ _ H) 0 rfl HFI.out ?_; clear H back; intro w1 h1; obtain ⟨w0, D, H, back⟩ := h1.open)
    | ((with_reducible refine gEq ?_); refine wl_cmp rfl rfl rfl rfl ?_; intro rb hrb; cases rb <;> (first | (exfalso; simp at hrb; done) | (exfalso; have h9 := H6.out; simp at hrb; omega) | clear hrb))
    | ((with_reducible refine gLd ?_); refine eLd H rfl rfl ?_; first | ((repeat ((with_reducible refine gEx ?_); first | (refine kLd 0 rfl rfl (by exact TT _ rfl) rfl ?_) | (refine kLdA 0 rfl rfl (by exact TT _ rfl) (Nat.le_of_ble_eq_true rfl) (by simp only [Nd.cells, Nd.zero, eP, eE, LS2]; rfl) ?_) | (refine nxL ?_))); fail_if_success (with_reducible refine gEx ?_)))
    | ((with_reducible refine gSt ?_); (first | (refine eSt H rfl rfl ⟨.int _ _, rfl, ?_⟩) | (refine eSt H rfl rfl ⟨.bool _, rfl, ?_⟩) | (refine eSt H rfl rfl ⟨.slice _ _ _, rfl, ?_⟩) | (refine eSt H rfl rfl ⟨.pointer _, rfl, ?_⟩) | (refine eSt H rfl rfl ⟨.string _, rfl, ?_⟩) | (refine eSt H rfl rfl ⟨.agg (List.toArray _), rfl, ?_⟩)); (first | ((repeat ((with_reducible refine gES ?_); first | (refine kSt 0 rfl rfl (by exact TT _ rfl) rfl (Nat.le_of_ble_eq_true rfl) ?_) | (refine kStA 0 rfl rfl (by exact TT _ rfl) rfl rfl (Nat.le_of_ble_eq_true rfl) ?_) | (refine nxS ?_))); fail_if_success (with_reducible refine gES ?_))); clear H; intro w1 H; simp only [List.set_cons_zero, List.set_cons_succ] at H; (try simp only [lay, LS1, Nat.reduceAdd] at H))
    | ((with_reducible refine gBx ?_); refine bxA H rfl rfl rfl ?_; clear H; intro b1 w1 H)
    | ((with_reducible refine gBs ?_); (first | (refine bs1 H rfl (by exact SS _ rfl) rfl (Nat.le_of_ble_eq_true rfl) (Nat.le_of_ble_eq_true rfl) rfl ?_) | (refine wl_buildSlice0 rfl (by exact SS _ rfl) H ?_)); clear H; intro b1 w1 H)
    | ((with_reducible refine gEq ?_); (first | (refine wl_cmp rfl rfl rfl rfl ?_) | (refine wl_scmp rfl rfl rfl rfl ?_)); intro rb hrb; cases rb <;> (first | (exfalso; simp at hrb; done) | ((try simp only [CS1, gt_iff_lt, ge_iff_le, ne_eq, Decidable.not_not] at hrb); (try subst hrb); (try (exfalso; omega)))))
    | ((with_reducible refine gAl ?_); (first | (refine al H Z33 rfl rfl ?_) | (refine al H Z110 rfl rfl ?_) | (refine al H Z122 rfl rfl ?_)); clear H; intro b1 w1 H)
    | ((with_reducible refine gRg ?_); refine wp_region_text rfl (by decide +kernel) ?_; replace H := H.drew)
    | ((with_reducible refine EndQ.intro ?_ ?_); (· kernel_rfl)))
  all_goals go_ret2
  refine ⟨by rw [← HT.out]; rfl, mb, a', c', ?_⟩
  rw [← HL2.out]
  exact back _ _ (pl_new (n := ⟨x1, x2, x3, x4, x5, x6, x7⟩) H.drop)
theorem Make_spec {W w : World} {E : Nat → Prop} {M : List (Nat × List (Value × Value))} {L : List Ent} {p : Nat} {l l2 : List En} {n : Nd} {t er : Int} (h0 : Pl W E M L p l w) (hl : l.length ≤ 65536) (hok : okP l) (hm : makeE l n = (l2, t, er)) :
    Calls Try.prog 39 #[.pointer (some ⟨p, 0, none⟩), .agg n.cells.toArray] w fun e w' => MkP W E M L p l2 t er e w' := by
  unfold makeE at hm
  by_cases hc : checkE l n = 0
  · rw [if_neg (by simpa using hc)] at hm
    cases hf : findN l n 0 with
    | some i =>
      rw [hf] at hm
      cases hm
      exact Make_hit h0 hl hok hc hf
    | none =>
      rw [hf] at hm
      by_cases h6 : 65536 ≤ l.length
      · simp only [if_pos h6] at hm
        cases hm
        exact Make_full h0 hl hok hc hf h6
      · simp only [if_neg h6] at hm
        cases hm
        exact Make_new h0 hl hok hc hf (by omega) (by simp [sizeC, deepC, hc]) rfl
  · rw [if_pos (by simpa using hc)] at hm
    cases hm
    exact Make_err h0 hl hok rfl rfl hc
end Go.Proofs.Ytebecelhcpljaaa
