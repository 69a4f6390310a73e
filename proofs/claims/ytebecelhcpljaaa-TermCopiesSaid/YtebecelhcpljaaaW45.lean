/- TermCopies: what the law computes. -/
import Derived.Test.YtebecelhcpljaaaW43
import Derived.Deep.Cut
import Derived.WalkKit
import Derived.Lib.Hide
import Derived.Deep.LoopGhost
import Derived.WalkSpells
import Derived.Test.YtebecelhcpljaaaW25
set_option linter.unusedVariables false
set_option linter.unusedSimpArgs false
namespace Go.Proofs.Ytebecelhcpljaaa
open Go.RowKit Go.Gx Go.Gx.Trm
set_option maxRecDepth 100000
set_option maxHeartbeats 4000000 in
/-- a node that stands in the pool: nothing turns -/
theorem Make_hitX {W w : World} {E : Nat → Prop} {M : List (Nat × List (Value × Value))} {L : List Ent} {p mb : Nat} {a : Option Nat} {c : Nat} {l : List En} {n : Nd} {i : Nat} (h : Hg W E ((mb, kvF l 0) :: M) (eP p mb a c l :: eE a c l :: L) w) (hl : l.length ≤ 65536) (hok : okP l) (her : checkE l n = 0) (hfi : findN l n 0 = some i) :
    Calls Try.prog 39 #[.pointer (some ⟨p, 0, none⟩), .agg n.cells.toArray] w fun e w' => e = .returned (.tuple #[.int .i64 ((i : Int) + 1), .int .i64 0]) ∧ Hg W E ((mb, kvF l 0) :: M) (eP p mb a c l :: eE a c l :: L) w' := by
  obtain ⟨x1, x2, x3, x4, x5, x6, x7⟩ := n
  obtain ⟨sz, hsz⟩ : ∃ z, sizeC l ⟨x1, x2, x3, x4, x5, x6, x7⟩ = z := ⟨_, rfl⟩
  obtain ⟨dp, hdp⟩ : ∃ z, deepC l ⟨x1, x2, x3, x4, x5, x6, x7⟩ = z := ⟨_, rfl⟩
  have HSZ := Lib.hid hsz
  have HDP := Lib.hid hdp
  have HER := Lib.hid her
  have HHL := Lib.hid hl
  clear hl
  have HOK := Lib.hid hok
  have HFI := Lib.hid hfi
  clear hsz hdp her hok hfi
  obtain ⟨w0, D, H, back, hm⟩ := h.open1 (i := 0) rfl
  have HM := Lib.hid hm
  clear hm h
  simp only [Nd.cells]
  go_enter Try.func39, Try.ntmps39
  go_wp2_with (first
    | (go_at_call 70; (refine (check_at (i := 1) (j := 2) (n := ⟨x1, x2, x3, x4, x5, x6, x7⟩) H rfl rfl HHL.out HOK.out HSZ.out HDP.out HER.out).mono ?_; rintro e w1 ⟨rfl, H1⟩; clear H; have H := H1; clear H1))
    | ((with_reducible refine gLk ?_); refine wl_lookN (n := ⟨x1, x2, x3, x4, x5, x6, x7⟩) rfl rfl rfl (HM.out _ _ H) HFI.out ?_)
    | ((with_reducible refine gBs ?_); refine bs1 (vs := [.int .i64 x1, .int .i64 x2, .int .i64 x3, .int .u64 x4, .string x5, .int .i64 x6, .int .i64 x7, .int .i64 sz, .int .i64 dp]) H rfl S79 rfl (by decide) (by decide) rfl ?_; clear H; intro b8 w1 H)
    | ((with_reducible refine gAp ?_); refine wl_append 3 0 rfl H rfl rfl rfl rfl S79 (by decide) (Or.inl rfl) (rowsE_length l) rfl (fun h => by cases h) (Nat.le_of_ble_eq_true rfl) rfl (by have h9 := H6.out; unfold maxLen; omega) (by have h9 := H6.out; omega) ?_; clear H; intro a' c' w1 H h9; clear h9; simp only [List.set_cons_zero, List.set_cons_succ, List.drop_zero, Nat.one_mul, List.take_succ_cons, List.take_zero] at H; replace H := H.drop)
    | ((with_reducible refine gMu ?_); refine wl_mapUpN (e := ⟨⟨x1, x2, x3, x4, x5, x6, x7⟩, sz, dp⟩) rfl rfl rfl rfl (back _ _ H) 0 rfl HFI.out ?_; clear H back; intro w1 h1; obtain ⟨w0, D, H, back⟩ := h1.open)
    | ((with_reducible refine gLd ?_); refine eLd H rfl rfl ?_; first | ((repeat ((with_reducible refine gEx ?_); first | ((repeat ((with_reducible refine gEx ?_); first | (refine kLd 0 rfl rfl (by exact TV _ rfl) rfl ?_) | (refine kLdA 0 rfl rfl (by exact TV _ rfl) (Nat.le_of_ble_eq_true rfl) (by simp only [Nd.cells, Nd.zero, eP, eE, LS2]; rfl) ?_) | (refine nxL ?_))); fail_if_success (with_reducible refine gEx ?_)) | (refine nxL ?_))); fail_if_success (with_reducible refine gEx ?_)))
    | ((with_reducible refine gSt ?_); (first | (refine eSt H rfl rfl ⟨.int _ _, rfl, ?_⟩) | (refine eSt H rfl rfl ⟨.bool _, rfl, ?_⟩) | (refine eSt H rfl rfl ⟨.slice _ _ _, rfl, ?_⟩) | (refine eSt H rfl rfl ⟨.pointer _, rfl, ?_⟩) | (refine eSt H rfl rfl ⟨.string _, rfl, ?_⟩) | (refine eSt H rfl rfl ⟨.agg (List.toArray _), rfl, ?_⟩)); (first | ((repeat ((with_reducible refine gES ?_); first | ((repeat ((with_reducible refine gES ?_); first | (refine kSt 0 rfl rfl (by exact TV _ rfl) rfl (Nat.le_of_ble_eq_true rfl) ?_) | (refine kStA 0 rfl rfl (by exact TV _ rfl) rfl rfl (Nat.le_of_ble_eq_true rfl) ?_) | (refine nxS ?_))); fail_if_success (with_reducible refine gES ?_)) | (refine nxS ?_))); fail_if_success (with_reducible refine gES ?_))); clear H; intro w1 H; simp only [List.set_cons_zero, List.set_cons_succ] at H; (try simp only [lay, LS1, Nat.reduceAdd] at H))
    | ((with_reducible refine gBx ?_); refine bxA H rfl rfl rfl ?_; clear H; intro b1 w1 H)
    | ((with_reducible refine gBs ?_); (first | (refine bs1 H rfl (by exact SU _ rfl) rfl (Nat.le_of_ble_eq_true rfl) (Nat.le_of_ble_eq_true rfl) rfl ?_) | (refine wl_buildSlice0 rfl (by exact SU _ rfl) H ?_)); clear H; intro b1 w1 H)
    | ((with_reducible refine gEq ?_); (first | (refine wl_cmp rfl rfl rfl rfl ?_) | (refine wl_scmp rfl rfl rfl rfl ?_)); intro rb hrb; cases rb <;> (first | (exfalso; simp at hrb; done) | ((try simp only [CS1, gt_iff_lt, ge_iff_le, ne_eq, Decidable.not_not] at hrb); (try subst hrb); (try (exfalso; omega)))))
    | ((with_reducible refine gAl ?_); (first | (refine al H Z33 rfl rfl ?_) | (refine al H Z110 rfl rfl ?_) | (refine al H Z122 rfl rfl ?_)); clear H; intro b1 w1 H)
    | ((with_reducible refine gRg ?_); refine wp_region_text rfl (by decide +kernel) ?_; replace H := H.drew)
    | ((with_reducible refine EndQ.intro ?_ ?_); (· kernel_rfl)))
  all_goals go_ret2
  all_goals exact ⟨rfl, back _ _ H.drop⟩
theorem Copy_other {W w : World} {E : Nat → Prop} {M : Maps} {L : List Ent} {p q : Nat} {lp lq : List En} {t : Int} (h0 : Pl W E M L p lp w) (hq : PlR L q lq) (hl : lq.length ≤ 65536) (hwq : wfP lq) (hwp : wfP lp) (hr : lp.length + lq.length ≤ 65536) (hi : inP lq t = true) :
    Calls Try.prog 37 #[.pointer (some ⟨p, 0, none⟩), .pointer (some ⟨q, 0, none⟩), .int .i64 t] w fun e w' => MkP W E M L p (cpF lq (subsP lq t) lp []).1 (getO (cpF lq (subsP lq t) lp []).2 t) 0 e w' := by
  obtain ⟨mb, a, c, hg⟩ := h0
  have hG := subs_good hwq t
  have hO := subs_ord hwq t
  refine (Copy_walk (L0 := [eP p mb a c lp, eE a c lp]) (Z := L) (M0 := (mb, kvF lp 0) :: M) (fun pre L' M' => ∃ mb a c, L' = [eP p mb a c (cpF lq pre lp []).1, eE a c (cpF lq pre lp []).1] ∧ M' = (mb, kvF (cpF lq pre lp []).1 0) :: M) (fun pre => (cpF lq pre lp []).2) hg ⟨mb, a, c, rfl, rfl⟩ hq hl hwq hi ⟨mb, a, c, lp, by omega, 0, rfl⟩ rfl ?_ ?_ ?_).mono ?_
  · intro pre post hf; exact (cp_all hwq hwp hG hO hr pre post hf).keys
  · intro pre s post hf; exact (cp_make hwq hwp hG hO hr hf).2
  · rintro pre s post L' M' R m W0 D0 u hf ⟨mb, a, c, rfl, rfl⟩ hu _
    have hI := cp_all hwq hwp hG hO hr pre (s :: post) hf
    have hm := (cp_make hwq hwp hG hO hr hf).1
    have hlen : (cpF lq pre lp []).1.length ≤ 65536 := by
      have h1 := hI.len
      have h2 := hG.len
      rw [hf, List.length_append] at h2
      omega
    have h1 : Pl W0 D0 (m :: M) R p (cpF lq pre lp []).1 u := ⟨mb, a, c, Hg.swap (A := [m]) (B := [_]) hu⟩
    refine (Make_spec h1 hlen hI.wf.ok hm).mono fun e w' hh => ?_
    obtain ⟨he, mb', a', c', hg'⟩ := hh
    exact ⟨_, _, he, ⟨mb', a', c', rfl, rfl⟩, Hg.swap (A := [_]) (B := [m]) hg'⟩
  · rintro e w' ⟨L', M', he, ⟨mb', a', c', rfl, rfl⟩, hg'⟩
    exact ⟨he, mb', a', c', hg'⟩
theorem Copy_self {W w : World} {E : Nat → Prop} {M : Maps} {L : List Ent} {q mb : Nat} {a : Option Nat} {c : Nat} {lq : List En} {t : Int} (h0 : Hg W E ((mb, kvF lq 0) :: M) (eP q mb a c lq :: eE a c lq :: L) w) (hl : lq.length ≤ 65536) (hwq : wfP lq) (hi : inP lq t = true) :
    Calls Try.prog 37 #[.pointer (some ⟨q, 0, none⟩), .pointer (some ⟨q, 0, none⟩), .int .i64 t] w fun e w' => e = .returned (.tuple #[.int .i64 t, .int .i64 0]) ∧ Hg W E ((mb, kvF lq 0) :: M) (eP q mb a c lq :: eE a c lq :: L) w' := by
  have hG := subs_good hwq t
  have hO := subs_ord hwq t
  refine (Copy_walk (L0 := []) (Z := eP q mb a c lq :: eE a c lq :: L) (M0 := (mb, kvF lq 0) :: M) (fun pre L' M' => L' = [] ∧ M' = (mb, kvF lq 0) :: M) (fun pre => idO pre) h0 ⟨rfl, rfl⟩ ⟨mb, a, c, 0, 1, rfl, rfl⟩ hl hwq hi ⟨mb, a, c, lq, hl, 0, rfl⟩ rfl ?_ ?_ ?_).mono ?_
  · intro pre post _; exact idO_fst pre
  · intro pre s post hf
    have e1 : getO (idO (pre ++ [s])) s = s := by rw [getO_id, if_pos (by simp)]
    show idO (pre ++ [s]) = idO pre ++ [(s, getO (idO (pre ++ [s])) s)]
    rw [e1]; simp [idO]
  · rintro pre s post L' M' R m W0 D0 u hf ⟨rfl, rfl⟩ hu ⟨A, rfl⟩
    obtain ⟨i, rfl, hc, hfi⟩ := self_node hwq hG hO hf
    have e1 : getO (idO (pre ++ [(i : Int) + 1])) ((i : Int) + 1) = (i : Int) + 1 := by rw [getO_id, if_pos (by simp)]
    have h1 : Hg W0 D0 ((mb, kvF lq 0) :: (m :: M)) (eP q mb a c lq :: eE a c lq :: (A ++ L)) u := Hg.swap (A := [m]) (B := [_]) (hu.mono fun _ _ h => Hp.swap (A := A) (B := [_, _]) h)
    refine (Make_hitX h1 hl hwq.ok hc hfi).mono fun e w' hh => ?_
    refine ⟨[], _, ?_, ⟨rfl, rfl⟩, Hg.swap (A := [_]) (B := [m]) (hh.2.mono fun _ _ h => Hp.swap (A := [_, _]) (B := A) h)⟩
    show e = .returned (.tuple #[.int .i64 (getO (idO (pre ++ [(i : Int) + 1])) ((i : Int) + 1)), .int .i64 0])
    rw [e1]; exact hh.1
  · rintro e w' ⟨L', M', he, ⟨rfl, rfl⟩, hg'⟩
    have he : e = .returned (.tuple #[.int .i64 (getO (idO (subsP lq t)) t), .int .i64 0]) := he
    rw [getO_id, if_pos (subs_mem hwq hi)] at he
    exact ⟨he, hg'⟩
/-- two pools of the program, two of the document -/
def ST (W : World) (E : Nat → Prop) (R : List Ent) (p q wp vp : Nat) (lp lw lq : List En) (u : World) : Prop :=
  ∃ (m1 m2 : Nat) (a1 a2 : Option Nat) (c1 c2 : Nat) (b s d : Option Nat) (cb cs cd : Nat) (b2 s2 d2 : Option Nat) (cb2 cs2 cd2 : Nat), Hg W E [(m1, kvF lp 0), (m2, kvF lq 0)] (eP p m1 a1 c1 lp :: eE a1 c1 lp :: eP q m2 a2 c2 lq :: eE a2 c2 lq :: eQ wp b s d cb cs cd lw :: eQn b cb lw :: eQs s cs lw :: eQd d cd lw :: eQ vp b2 s2 d2 cb2 cs2 cd2 lq :: eQn b2 cb2 lq :: eQs s2 cs2 lq :: eQd d2 cd2 lq :: R) u
def TT2 (x y : Int) : Ending := .returned (.tuple #[.int .i64 x, .int .i64 y])
theorem ST_cp {W w : World} {E : Nat → Prop} {R : List Ent} {p q wp vp : Nat} {lp lw lq : List En} {t : Int} (h0 : ST W E R p q wp vp lp lw lq w) (hl : lq.length ≤ 65536) (hwq : wfP lq) (hwp : wfP lp) (hr : lp.length + lq.length ≤ 65536) (hi : inP lq t = true) :
    Calls Try.prog 37 #[.pointer (some ⟨p, 0, none⟩), .pointer (some ⟨q, 0, none⟩), .int .i64 t] w fun e w' => e = TT2 (getO (cpF lq (subsP lq t) lp []).2 t) 0 ∧ ST W E R p q wp vp (cpF lq (subsP lq t) lp []).1 lw lq w' := by
  obtain ⟨m1, m2, a1, a2, c1, c2, b, s, d, cb, cs, cd, b2, s2, d2, cb2, cs2, cd2, hg⟩ := h0
  refine (Copy_other (M := [_]) ⟨m1, a1, c1, hg⟩ ⟨m2, a2, c2, 0, 1, rfl, rfl⟩ hl hwq hwp hr hi).mono fun e w' hh => ?_
  obtain ⟨he, m', a', c', hg'⟩ := hh
  exact ⟨he, ⟨m', m2, a', a2, c', c2, b, s, d, cb, cs, cd, b2, s2, d2, cb2, cs2, cd2, hg'⟩⟩
theorem ST_cpn {W w : World} {E : Nat → Prop} {R : List Ent} {p q wp vp : Nat} {lp lw lq : List En} {t : Int} (h0 : ST W E R p q wp vp lp lw lq w) (hi : inP lq t = false) :
    Calls Try.prog 37 #[.pointer (some ⟨p, 0, none⟩), .pointer (some ⟨q, 0, none⟩), .int .i64 t] w fun e w' => e = TT2 0 51 ∧ ST W E R p q wp vp lp lw lq w' := by
  obtain ⟨m1, m2, a1, a2, c1, c2, b, s, d, cb, cs, cd, b2, s2, d2, cb2, cs2, cd2, hg⟩ := h0
  refine (Copy_no (L0 := []) hg ⟨m2, a2, c2, 2, 3, rfl, rfl⟩ hi).mono fun e w' hh => ?_
  exact ⟨hh.1, ⟨m1, m2, a1, a2, c1, c2, b, s, d, cb, cs, cd, b2, s2, d2, cb2, cs2, cd2, hh.2⟩⟩
theorem ST_self {W w : World} {E : Nat → Prop} {R : List Ent} {p q wp vp : Nat} {lp lw lq : List En} {t : Int} (h0 : ST W E R p q wp vp lp lw lq w) (hl : lq.length ≤ 65536) (hwq : wfP lq) (hi : inP lq t = true) :
    Calls Try.prog 37 #[.pointer (some ⟨q, 0, none⟩), .pointer (some ⟨q, 0, none⟩), .int .i64 t] w fun e w' => e = TT2 t 0 ∧ ST W E R p q wp vp lp lw lq w' := by
  obtain ⟨m1, m2, a1, a2, c1, c2, b, s, d, cb, cs, cd, b2, s2, d2, cb2, cs2, cd2, hg⟩ := h0
  refine (Copy_self (Hg.swap (A := [_]) (B := [_]) (hg.mono fun _ _ h => Hp.swap (A := [_, _]) (B := [_, _]) (h))) hl hwq hi).mono fun e w' hh => ?_
  exact ⟨hh.1, ⟨m1, m2, a1, a2, c1, c2, b, s, d, cb, cs, cd, b2, s2, d2, cb2, cs2, cd2, Hg.swap (A := [_]) (B := [_]) (hh.2.mono fun _ _ h => Hp.swap (A := [_, _]) (B := [_, _]) (h))⟩⟩
theorem ST_selfn {W w : World} {E : Nat → Prop} {R : List Ent} {p q wp vp : Nat} {lp lw lq : List En} {t : Int} (h0 : ST W E R p q wp vp lp lw lq w) (hi : inP lq t = false) :
    Calls Try.prog 37 #[.pointer (some ⟨q, 0, none⟩), .pointer (some ⟨q, 0, none⟩), .int .i64 t] w fun e w' => e = TT2 0 51 ∧ ST W E R p q wp vp lp lw lq w' := by
  obtain ⟨m1, m2, a1, a2, c1, c2, b, s, d, cb, cs, cd, b2, s2, d2, cb2, cs2, cd2, hg⟩ := h0
  refine (Copy_no (L0 := []) hg ⟨m2, a2, c2, 2, 3, rfl, rfl⟩ hi).mono fun e w' hh => ?_
  exact ⟨hh.1, ⟨m1, m2, a1, a2, c1, c2, b, s, d, cb, cs, cd, b2, s2, d2, cb2, cs2, cd2, hh.2⟩⟩
theorem ST_rcp {W w : World} {E : Nat → Prop} {R : List Ent} {p q wp vp : Nat} {lp lw lq : List En} {t : Int} (h0 : ST W E R p q wp vp lp lw lq w) (hl : lq.length ≤ 65536) (hwq : wfP lq) (hwp : wfP lw) (hr : lw.length + lq.length ≤ 65536) (hi : inP lq t = true) :
    Calls Try.prog 38 #[.pointer (some ⟨wp, 0, none⟩), .pointer (some ⟨vp, 0, none⟩), .int .i64 t] w fun e w' => e = TT2 (getO (cpF lq (subsP lq t) lw []).2 t) 0 ∧ ST W E R p q wp vp lp (cpF lq (subsP lq t) lw []).1 lq w' := by
  obtain ⟨m1, m2, a1, a2, c1, c2, b, s, d, cb, cs, cd, b2, s2, d2, cb2, cs2, cd2, hg⟩ := h0
  obtain ⟨wz, Dz, h, back, bk2⟩ := hg.openX
  refine (rCopy_spec (Hp.swap (A := [_, _, _, _]) (B := [_, _, _, _]) (h)) ⟨b2, s2, d2, cb2, cs2, cd2, 4, 5, rfl, rfl⟩ hl hwq hwp hr hi).mono fun e w' hh => ?_
  obtain ⟨b', s', d', cb', cs', cd', he, h⟩ := hh
  exact ⟨he, ⟨m1, m2, a1, a2, c1, c2, b', s', d', cb', cs', cd', b2, s2, d2, cb2, cs2, cd2, back _ _ (Hp.swap (A := [_, _, _, _]) (B := [_, _, _, _]) (h))⟩⟩
theorem ST_rcpn {W w : World} {E : Nat → Prop} {R : List Ent} {p q wp vp : Nat} {lp lw lq : List En} {t : Int} (h0 : ST W E R p q wp vp lp lw lq w) (hi : inP lq t = false) :
    Calls Try.prog 38 #[.pointer (some ⟨wp, 0, none⟩), .pointer (some ⟨vp, 0, none⟩), .int .i64 t] w fun e w' => e = TT2 0 51 ∧ ST W E R p q wp vp lp lw lq w' := by
  obtain ⟨m1, m2, a1, a2, c1, c2, b, s, d, cb, cs, cd, b2, s2, d2, cb2, cs2, cd2, hg⟩ := h0
  obtain ⟨wz, Dz, h, back, bk2⟩ := hg.openX
  refine (rCopy_no (Hp.swap (A := [_, _, _, _]) (B := [_, _, _, _]) (h)) ⟨b2, s2, d2, cb2, cs2, cd2, 4, 5, rfl, rfl⟩ hi).mono fun e w' hh => ?_
  obtain ⟨he, h⟩ := hh
  exact ⟨he, ⟨m1, m2, a1, a2, c1, c2, b, s, d, cb, cs, cd, b2, s2, d2, cb2, cs2, cd2, back _ _ (Hp.swap (A := [_, _, _, _]) (B := [_, _, _, _]) (h))⟩⟩
theorem ST_al1 {W w : World} {E : Nat → Prop} {R : List Ent} {p q wp vp : Nat} {lp lw lq : List En} (h0 : ST W E R p q wp vp lp lp lq w) (hl : lp.length ≤ 65536) :
    Calls Try.prog 20 #[.pointer (some ⟨p, 0, none⟩), .pointer (some ⟨wp, 0, none⟩)] w fun e w' => e = .returned (.bool true) ∧ ST W E R p q wp vp lp lp lq w' := by
  obtain ⟨m1, m2, a1, a2, c1, c2, b, s, d, cb, cs, cd, b2, s2, d2, cb2, cs2, cd2, hg⟩ := h0
  obtain ⟨wz, Dz, h, back, bk2⟩ := hg.openX
  refine (alike_spec (Hp.swap (A := [_, _, _, _]) (B := [_, _]) (Hp.swap (A := [_, _, _, _]) (B := [_, _, _, _]) (h))) hl).mono fun e w' hh => ?_
  obtain ⟨he, h⟩ := hh
  exact ⟨he, ⟨m1, m2, a1, a2, c1, c2, b, s, d, cb, cs, cd, b2, s2, d2, cb2, cs2, cd2, back _ _ (Hp.swap (A := [_, _, _, _]) (B := [_, _, _, _]) (Hp.swap (A := [_, _]) (B := [_, _, _, _]) (h)))⟩⟩
theorem ST_al2 {W w : World} {E : Nat → Prop} {R : List Ent} {p q wp vp : Nat} {lp lw lq : List En} (h0 : ST W E R p q wp vp lp lw lq w) (hl : lq.length ≤ 65536) :
    Calls Try.prog 20 #[.pointer (some ⟨q, 0, none⟩), .pointer (some ⟨vp, 0, none⟩)] w fun e w' => e = .returned (.bool true) ∧ ST W E R p q wp vp lp lw lq w' := by
  obtain ⟨m1, m2, a1, a2, c1, c2, b, s, d, cb, cs, cd, b2, s2, d2, cb2, cs2, cd2, hg⟩ := h0
  obtain ⟨wz, Dz, h, back, bk2⟩ := hg.openX
  refine (alike_spec (Hp.swap (A := [_, _, _, _, _, _, _, _, _, _]) (B := [_, _]) (Hp.swap (A := [_, _, _, _]) (B := [_, _, _, _]) (Hp.swap (A := [_, _, _, _]) (B := [_, _, _, _, _, _, _, _]) (h)))) hl).mono fun e w' hh => ?_
  obtain ⟨he, h⟩ := hh
  exact ⟨he, ⟨m1, m2, a1, a2, c1, c2, b, s, d, cb, cs, cd, b2, s2, d2, cb2, cs2, cd2, back _ _ (Hp.swap (A := [_, _, _, _, _, _, _, _]) (B := [_, _, _, _]) (Hp.swap (A := [_, _, _, _]) (B := [_, _, _, _]) (Hp.swap (A := [_, _]) (B := [_, _, _, _, _, _, _, _, _, _]) (h))))⟩⟩
theorem ST_in {W w : World} {E : Nat → Prop} {R : List Ent} {p q wp vp : Nat} {lp lw lq : List En} {t : Int} {r : Bool} (h0 : ST W E R p q wp vp lp lw lq w) (hi : inP lq t = r) :
    Calls Try.prog 36 #[.pointer (some ⟨vp, 0, none⟩), .int .i64 t] w fun e w' => e = .returned (.bool r) ∧ ST W E R p q wp vp lp lw lq w' := by
  obtain ⟨m1, m2, a1, a2, c1, c2, b, s, d, cb, cs, cd, b2, s2, d2, cb2, cs2, cd2, hg⟩ := h0
  obtain ⟨wz, Dz, h, back, bk2⟩ := hg.openX
  refine (rIn_c (i := 8) h rfl hi).mono fun e w' hh => ?_
  exact ⟨hh.1, ⟨m1, m2, a1, a2, c1, c2, b, s, d, cb, cs, cd, b2, s2, d2, cb2, cs2, cd2, back _ _ hh.2⟩⟩
theorem ST_num {W w : World} {E : Nat → Prop} {R : List Ent} {p q wp vp : Nat} {lp lw lq : List En} (h0 : ST W E R p q wp vp lp lw lq w) (k : Int) :
    Calls Try.prog 18 #[.int .i64 k] w fun e w' => e = .returned (.int .i64 k) ∧ ST W E R p q wp vp lp lw lq w' := by
  obtain ⟨m1, m2, a1, a2, c1, c2, b, s, d, cb, cs, cd, b2, s2, d2, cb2, cs2, cd2, hg⟩ := h0
  obtain ⟨wz, Dz, h, back, bk2⟩ := hg.openX
  refine (num_spec h k).mono fun e w' hh => ?_
  exact ⟨hh.1, ⟨m1, m2, a1, a2, c1, c2, b, s, d, cb, cs, cd, b2, s2, d2, cb2, cs2, cd2, back _ _ hh.2⟩⟩
theorem ST_live {W w : World} {E : Nat → Prop} {R : List Ent} {p q wp vp : Nat} {lp lw lq : List En} (h0 : ST W E R p q wp vp lp lw lq w) :
    Calls Try.prog 11 #[] w fun e w' => e = .returned (.bool true) ∧ ∃ L, Hp W E L w' := by
  obtain ⟨m1, m2, a1, a2, c1, c2, b, s, d, cb, cs, cd, b2, s2, d2, cb2, cs2, cd2, hg⟩ := h0
  refine (live_hp hg.hp).mono fun e w' hh => ?_
  exact ⟨hh.1, _, hh.2⟩
/-- behind the first loop -/
theorem ST_mid {W w : World} {E : Nat → Prop} {R : List Ent} {p q vp wp m1 : Nat} {a1 : Option Nat} {c1 : Nat} {l : List En} {b s d b2 s2 d2 : Option Nat} {cb cs cd cb2 cs2 cd2 : Nat} (h0 : Pl W E [(m1, kvF [] 0)] (eQ vp b2 s2 d2 cb2 cs2 cd2 l :: eQn b2 cb2 l :: eQs s2 cs2 l :: eQd d2 cd2 l :: (eQ wp b s d cb cs cd [] :: eQn b cb [] :: eQs s cs [] :: eQd d cd [] :: eP p m1 a1 c1 [] :: eE a1 c1 [] :: R)) q l w) :
    ∃ m2 a2 c2, Pl W E [(m2, kvF l 0)] (eQ wp b s d cb cs cd [] :: eQn b cb [] :: eQs s cs [] :: eQd d cd [] :: (eP q m2 a2 c2 l :: eE a2 c2 l :: eQ vp b2 s2 d2 cb2 cs2 cd2 l :: eQn b2 cb2 l :: eQs s2 cs2 l :: eQd d2 cd2 l :: R)) p [] w := by
  obtain ⟨m2, a2, c2, hg⟩ := h0
  exact ⟨m2, a2, c2, m1, a1, c1, Hg.swap (A := [_]) (B := [_]) (hg.mono fun _ _ h => Hp.swap (A := [_, _, _, _]) (B := [_, _]) (Hp.swap (A := [_, _, _, _, _, _]) (B := [_, _, _, _, _, _]) (h)))⟩
/-- behind the second -/
theorem ST_end {W w : World} {E : Nat → Prop} {R : List Ent} {p q vp wp m2 : Nat} {a2 : Option Nat} {c2 : Nat} {l lq : List En} {b s d b2 s2 d2 : Option Nat} {cb cs cd cb2 cs2 cd2 : Nat} (h0 : Pl W E [(m2, kvF lq 0)] (eQ wp b s d cb cs cd l :: eQn b cb l :: eQs s cs l :: eQd d cd l :: (eP q m2 a2 c2 lq :: eE a2 c2 lq :: eQ vp b2 s2 d2 cb2 cs2 cd2 lq :: eQn b2 cb2 lq :: eQs s2 cs2 lq :: eQd d2 cd2 lq :: R)) p l w) :
    ST W E R p q wp vp l l lq w := by
  obtain ⟨m1, a1, c1, hg⟩ := h0
  exact ⟨m1, m2, a1, a2, c1, c2, b, s, d, cb, cs, cd, b2, s2, d2, cb2, cs2, cd2, hg.mono fun _ _ h => Hp.swap (A := [_, _]) (B := [_, _]) (Hp.swap (A := [_, _, _, _, _, _]) (B := [_, _]) (h))⟩
end Go.Proofs.Ytebecelhcpljaaa
set_option linter.unusedVariables false
set_option linter.unusedSimpArgs false
namespace Go.Proofs.Ytebecelhcpljaaa
open Go.RowKit Go.Gx Go.Gx.Trm
set_option maxRecDepth 100000
def ofsL (ts : List Tr) : List En := ts.foldl (fun l t => (ofE l t.pt).1) []
theorem ofsL_snoc (ts : List Tr) (t : Tr) : ofsL (ts ++ [t]) = (ofE (ofsL ts) t.pt).1 := by simp [ofsL]
theorem take_snocT {ts : List Tr} {k : Nat} {n : Tr} (h : ts[k]? = some n) : ts.take (k + 1) = ts.take k ++ [n] := by
  obtain ⟨hlt, rfl⟩ := List.getElem?_eq_some_iff.1 h
  rw [List.take_succ_eq_append_getElem hlt]
theorem sizeL_app : ∀ (a b : List Pt), sizeL (a ++ b) = sizeL a + sizeL b
  | [], b => by simp [sizeL]
  | x :: xs, b => by simp only [List.cons_append, sizeL, sizeL_app xs b]; omega
theorem sizeL_take (ts : List Tr) (k : Nat) : sizeL (ptL (ts.take k)) + sizeL (ptL (ts.drop k)) = sizeL (ptL ts) := by
  rw [← sizeL_app, ptL_map, ptL_map, ptL_map, ← List.map_append, List.take_append_drop]
theorem ofs_ok (ts : List Tr) : ∀ k, k ≤ ts.length → wfP (ofsL (ts.take k)) ∧ (ofsL (ts.take k)).length ≤ sizeL (ptL (ts.take k))
  | 0, _ => by simp [ofsL, ptL, sizeL, wfP_nil]
  | k + 1, h => by
    have hkl : k < ts.length := by omega
    obtain ⟨x, hx⟩ : ∃ x, ts[k]? = some x := ⟨_, List.getElem?_eq_getElem hkl⟩
    obtain ⟨h1, h2⟩ := ofs_ok ts k (by omega)
    rw [take_snocT hx, ofsL_snoc, ptL_snoc]
    obtain ⟨m, e1, e2⟩ := ofE_len (ofsL (ts.take k)) x.pt
    refine ⟨ofE_wf h1, ?_⟩
    rw [e1, List.length_append, sizeL_app]
    simp only [sizeL]; omega

theorem zero_tree {l : List En} : treeP l 0 = Pt.zero := treeP_no (inP_lo (by omega))
theorem zero_same {l : List En} {t : Tr} (h : t.pt = treeP l 0) : t.pt.beq (Tr.mk 0 0 0 0 ⟨#[]⟩ none 0 []).pt = true := by
  have h1 : (Tr.mk 0 0 0 0 ⟨#[]⟩ none 0 []).pt = Pt.zero := by simp [Tr.pt, ptL, Pt.zero]
  exact Pt.beq_iff.2 (by rw [h, zero_tree, h1])
theorem large_c {w0 w : World} {D : Nat → Prop} {R : List Ent} {x : Option Addr} {c0 N : Nat} {ts : List Tr} {q : Int} {r : Bool} (H : Hp w0 D R w) (hN : ts.length = N) (ht : TrR w0 D R (.mk 0 0 0 0 ⟨#[]⟩ x c0 ts)) (hq : partsT (Tr.pt (.mk 0 0 0 0 ⟨#[]⟩ x c0 ts)) 6000 = q) (hr : decide (6000 < q) = r) :
    Calls Try.prog 23 #[.agg (List.toArray [.int .i64 0, .int .i64 0, .int .i64 0, .int .u64 0, .string ⟨#[]⟩, .slice x N c0])] w fun e w' => e = .returned (.bool r) ∧ Hp w0 D R w' := by
  subst hN
  have h := large_spec (w := w) (R := R) (t := .mk 0 0 0 0 ⟨#[]⟩ x c0 ts) H ht hq hr
  simp only [Tr.cells] at h
  exact h
set_option maxHeartbeats 64000000 in
theorem Copies_spec {w0 w : World} {D : Nat → Prop} {R : List Ent} {x y : Option Addr} {c0 c1' : Nat} (H : Hp w0 D R w) (ts us : List Tr) (hX : RdA w0 D x (rowsT ts)) (hT : ∀ t ∈ ts, TrA w0 D t) (hc : ts.length ≤ c0) (hm : c0 ≤ 9223372036854775807) (hY : RdA w0 D y (rowsT us)) (hU : ∀ t ∈ us, TrA w0 D t) (hc' : us.length ≤ c1') (hm' : c1' ≤ 9223372036854775807) (tm : Int) :
    Calls Try.prog 9 #[.slice x ts.length c0, .slice y us.length c1', .int .i64 tm] w fun e w' => e = .returned (.bool true) ∧ ∃ L, Hp w0 D L w' := by
  have HX1 := Lib.hid hX
  have HTA1 := Lib.hid hT
  have htr1 : TrR w0 D R (.mk 0 0 0 0 ⟨#[]⟩ x c0 ts) := .mk (hX.rd R) hc (by omega) (fun t ht => (hT t ht).rd R)
  obtain ⟨qn1, hqn1⟩ : ∃ qn, partsT (Tr.pt (.mk 0 0 0 0 ⟨#[]⟩ x c0 ts)) 6000 = qn := ⟨_, rfl⟩
  obtain ⟨rb1, hrb1⟩ : ∃ rb, decide (6000 < qn1) = rb := ⟨_, rfl⟩
  have HTR1 := Lib.hid htr1
  have HLQ1 := Lib.hid hqn1
  have HLR1 := Lib.hid hrb1
  obtain ⟨N1, hN1⟩ : ∃ N, ts.length = N := ⟨_, rfl⟩
  have HN1 := Lib.hid hN1
  have hsz1 : rb1 = false → sizeL (ptL ts) ≤ 6000 := fun h => by
    have h1 : ¬ 6000 < qn1 := by rw [h] at hrb1; simpa using hrb1
    have h2 := partsT_eq (Tr.pt (.mk 0 0 0 0 ⟨#[]⟩ x c0 ts)) 6000 (by omega) (by rw [hqn1]; omega)
    simp only [Tr.pt, Pt.size] at h2
    rw [show partsT (Pt.mk 0 0 0 0 ⟨#[]⟩ (ptL ts)) 6000 = qn1 from hqn1] at h2
    omega
  rw [hN1] at hc ⊢
  clear hN1 hX hT htr1 hqn1 hrb1
  have HX2 := Lib.hid hY
  have HTA2 := Lib.hid hU
  have htr2 : TrR w0 D R (.mk 0 0 0 0 ⟨#[]⟩ y c1' us) := .mk (hY.rd R) hc' (by omega) (fun t ht => (hU t ht).rd R)
  obtain ⟨qn2, hqn2⟩ : ∃ qn, partsT (Tr.pt (.mk 0 0 0 0 ⟨#[]⟩ y c1' us)) 6000 = qn := ⟨_, rfl⟩
  obtain ⟨rb2, hrb2⟩ : ∃ rb, decide (6000 < qn2) = rb := ⟨_, rfl⟩
  have HTR2 := Lib.hid htr2
  have HLQ2 := Lib.hid hqn2
  have HLR2 := Lib.hid hrb2
  obtain ⟨N2, hN2⟩ : ∃ N, us.length = N := ⟨_, rfl⟩
  have HN2 := Lib.hid hN2
  have hsz2 : rb2 = false → sizeL (ptL us) ≤ 6000 := fun h => by
    have h1 : ¬ 6000 < qn2 := by rw [h] at hrb2; simpa using hrb2
    have h2 := partsT_eq (Tr.pt (.mk 0 0 0 0 ⟨#[]⟩ y c1' us)) 6000 (by omega) (by rw [hqn2]; omega)
    simp only [Tr.pt, Pt.size] at h2
    rw [show partsT (Pt.mk 0 0 0 0 ⟨#[]⟩ (ptL us)) 6000 = qn2 from hqn2] at h2
    omega
  rw [hN2] at hc' ⊢
  clear hN2 hY hU htr2 hqn2 hrb2
  by_cases h1 : 100 < N1
  · go_enter Try.func9, Try.ntmps9
    go_wp2_with (first
    | (go_at_call 11; ((refine (live_hp H).mono ?_); rintro e w1 ⟨rfl, H1⟩; clear H; have H := H1; clear H1))
    | ((with_reducible refine gLd ?_); refine eLd H rfl rfl ?_; first | ((repeat ((with_reducible refine gEx ?_); first | (refine kLd 0 rfl rfl (by exact TT _ rfl) rfl ?_) | (refine kLdA 0 rfl rfl (by exact TT _ rfl) (Nat.le_of_ble_eq_true rfl) (by simp only [Nd.cells, Nd.zero, LS2]; rfl) ?_) | (refine nxL ?_))); fail_if_success (with_reducible refine gEx ?_)))
    | ((with_reducible refine gBx ?_); refine bxA H rfl rfl rfl ?_; clear H; intro b1 w1 H)
    | ((with_reducible refine gEq ?_); (first | (refine wl_cmp rfl rfl rfl rfl ?_) | (refine wl_scmp rfl rfl rfl rfl ?_)); intro rb hrb; cases rb <;> (first | (exfalso; simp at hrb; done) | ((try simp only [CS1, gt_iff_lt, ge_iff_le, ne_eq, Decidable.not_not] at hrb); (try subst hrb); (try (exfalso; omega)))))
    | ((with_reducible refine gRg ?_); refine wp_region_text rfl (by decide +kernel) ?_; replace H := H.drew)
    | ((with_reducible refine EndQ.intro ?_ ?_); (· kernel_rfl)))
    go_ret
    exact ⟨rfl, _, H⟩
  by_cases h2 : 100 < N2
  · go_enter Try.func9, Try.ntmps9
    go_wp2_with (first
    | (go_at_call 11; ((refine (live_hp H).mono ?_); rintro e w1 ⟨rfl, H1⟩; clear H; have H := H1; clear H1))
    | ((with_reducible refine gLd ?_); refine eLd H rfl rfl ?_; first | ((repeat ((with_reducible refine gEx ?_); first | (refine kLd 0 rfl rfl (by exact TT _ rfl) rfl ?_) | (refine kLdA 0 rfl rfl (by exact TT _ rfl) (Nat.le_of_ble_eq_true rfl) (by simp only [Nd.cells, Nd.zero, LS2]; rfl) ?_) | (refine nxL ?_))); fail_if_success (with_reducible refine gEx ?_)))
    | ((with_reducible refine gBx ?_); refine bxA H rfl rfl rfl ?_; clear H; intro b1 w1 H)
    | ((with_reducible refine gEq ?_); (first | (refine wl_cmp rfl rfl rfl rfl ?_) | (refine wl_scmp rfl rfl rfl rfl ?_)); intro rb hrb; cases rb <;> (first | (exfalso; simp at hrb; done) | ((try simp only [CS1, gt_iff_lt, ge_iff_le, ne_eq, Decidable.not_not] at hrb); (try subst hrb); (try (exfalso; omega)))))
    | ((with_reducible refine gRg ?_); refine wp_region_text rfl (by decide +kernel) ?_; replace H := H.drew)
    | ((with_reducible refine EndQ.intro ?_ ?_); (· kernel_rfl)))
    go_ret
    exact ⟨rfl, _, H⟩
  cases rb1 with
  | true =>
    go_enter Try.func9, Try.ntmps9
    go_wp2_with (first
    | (go_at_call 23; ((with_reducible refine (large_c (ts := ts) H HN1.out HTR1.out HLQ1.out HLR1.out).mono ?_); rintro e w1 ⟨rfl, H1⟩; clear H; have H := H1; clear H1))
    | (go_at_call 11; ((refine (live_hp H).mono ?_); rintro e w1 ⟨rfl, H1⟩; clear H; have H := H1; clear H1))
    | ((with_reducible refine gLd ?_); refine eLd H rfl rfl ?_; first | ((repeat ((with_reducible refine gEx ?_); first | (refine kLd 0 rfl rfl (by exact TT _ rfl) rfl ?_) | (refine kLdA 0 rfl rfl (by exact TT _ rfl) (Nat.le_of_ble_eq_true rfl) (by simp only [Nd.cells, Nd.zero, LS2]; rfl) ?_) | (refine nxL ?_))); fail_if_success (with_reducible refine gEx ?_)))
    | ((with_reducible refine gBx ?_); refine bxA H rfl rfl rfl ?_; clear H; intro b1 w1 H)
    | ((with_reducible refine gEq ?_); (first | (refine wl_cmp rfl rfl rfl rfl ?_) | (refine wl_scmp rfl rfl rfl rfl ?_)); intro rb hrb; cases rb <;> (first | (exfalso; simp at hrb; done) | ((try simp only [CS1, gt_iff_lt, ge_iff_le, ne_eq, Decidable.not_not] at hrb); (try subst hrb); (try (exfalso; omega)))))
    | ((with_reducible refine gRg ?_); refine wp_region_text rfl (by decide +kernel) ?_; replace H := H.drew)
    | ((with_reducible refine EndQ.intro ?_ ?_); (· kernel_rfl)))
    go_ret
    exact ⟨rfl, _, H⟩
  | false =>
  cases rb2 with
  | true =>
    go_enter Try.func9, Try.ntmps9
    go_wp2_with (first
    | (go_at_call 23; first | ((with_reducible refine (large_c (ts := ts) H HN1.out HTR1.out HLQ1.out HLR1.out).mono ?_); rintro e w1 ⟨rfl, H1⟩; clear H; have H := H1; clear H1) | ((with_reducible refine (large_c (ts := us) H HN2.out HTR2.out HLQ2.out HLR2.out).mono ?_); rintro e w1 ⟨rfl, H1⟩; clear H; have H := H1; clear H1))
    | (go_at_call 11; ((refine (live_hp H).mono ?_); rintro e w1 ⟨rfl, H1⟩; clear H; have H := H1; clear H1))
    | ((with_reducible refine gLd ?_); refine eLd H rfl rfl ?_; first | ((repeat ((with_reducible refine gEx ?_); first | (refine kLd 0 rfl rfl (by exact TT _ rfl) rfl ?_) | (refine kLdA 0 rfl rfl (by exact TT _ rfl) (Nat.le_of_ble_eq_true rfl) (by simp only [Nd.cells, Nd.zero, LS2]; rfl) ?_) | (refine nxL ?_))); fail_if_success (with_reducible refine gEx ?_)))
    | ((with_reducible refine gBx ?_); refine bxA H rfl rfl rfl ?_; clear H; intro b1 w1 H)
    | ((with_reducible refine gEq ?_); (first | (refine wl_cmp rfl rfl rfl rfl ?_) | (refine wl_scmp rfl rfl rfl rfl ?_)); intro rb hrb; cases rb <;> (first | (exfalso; simp at hrb; done) | ((try simp only [CS1, gt_iff_lt, ge_iff_le, ne_eq, Decidable.not_not] at hrb); (try subst hrb); (try (exfalso; omega)))))
    | ((with_reducible refine gRg ?_); refine wp_region_text rfl (by decide +kernel) ?_; replace H := H.drew)
    | ((with_reducible refine EndQ.intro ?_ ?_); (· kernel_rfl)))
    go_ret
    exact ⟨rfl, _, H⟩
  | false =>
  have HSZ1 := Lib.hid (hsz1 rfl)
  have HSZ2 := Lib.hid (hsz2 rfl)
  clear hsz1 hsz2
  go_enter Try.func9, Try.ntmps9
  go_wp2_with (first
    | (go_at_call 23; first | ((with_reducible refine (large_c (ts := ts) H HN1.out HTR1.out HLQ1.out HLR1.out).mono ?_); rintro e w1 ⟨rfl, H1⟩; clear H; have H := H1; clear H1) | ((with_reducible refine (large_c (ts := us) H HN2.out HTR2.out HLQ2.out HLR2.out).mono ?_); rintro e w1 ⟨rfl, H1⟩; clear H; have H := H1; clear H1))
    | (go_at_call 12; (refine (New_spec hg).mono ?_; rintro e w1 ⟨q, rfl, hP⟩; clear hg))
    | (go_at_call 12; (refine (New_spec (Hg.of H)).mono ?_; rintro e w1 ⟨p, rfl, hP⟩; clear H; obtain ⟨m1, a1, c1, hg⟩ := hP))
    | (go_at_call 13; (refine (rNew_pl hP1).mono ?_; rintro e w1 ⟨vp, rfl, h1⟩; clear hP1; have hP2 := h1; clear h1))
    | (go_at_call 13; (refine (rNew_pl hP).mono ?_; rintro e w1 ⟨wp, rfl, h1⟩; clear hP; have hP1 := h1; clear h1))
    | ((with_reducible refine gLd ?_); refine eLd H rfl rfl ?_; first | ((repeat ((with_reducible refine gEx ?_); first | (refine kLd 0 rfl rfl (by exact TT _ rfl) rfl ?_) | (refine kLdA 0 rfl rfl (by exact TT _ rfl) (Nat.le_of_ble_eq_true rfl) (by simp only [Nd.cells, Nd.zero, LS2]; rfl) ?_) | (refine nxL ?_))); fail_if_success (with_reducible refine gEx ?_)))
    | ((with_reducible refine gBx ?_); refine bxA H rfl rfl rfl ?_; clear H; intro b1 w1 H)
    | ((with_reducible refine gEq ?_); (first | (refine wl_cmp rfl rfl rfl rfl ?_) | (refine wl_scmp rfl rfl rfl rfl ?_)); intro rb hrb; cases rb <;> (first | (exfalso; simp at hrb; done) | ((try simp only [CS1, gt_iff_lt, ge_iff_le, ne_eq, Decidable.not_not] at hrb); (try subst hrb); (try (exfalso; omega)))))
    | ((with_reducible refine gRg ?_); refine wp_region_text rfl (by decide +kernel) ?_; replace H := H.drew)
    | ((with_reducible refine EndQ.intro ?_ ?_); (· kernel_rfl)))
  
  obtain ⟨R1, hR1⟩ : ∃ Z : List Ent, eQ wp none none none 0 0 0 [] :: eQn none 0 [] :: eQs none 0 [] :: eQd none 0 [] :: (eP p m1 a1 c1 [] :: eE a1 c1 [] :: R) = Z := ⟨_, rfl⟩
  rw [hR1] at hP2
  have HR1 := Lib.hid hR1
  have hP := hP2
  clear hP2 hR1
  go_loopg [11] N1 (fun g v11 wr => ∃ (k : Nat) (l : List En) (b s d : Option Nat) (cb cs cd : Nat), v11 = .int .i64 (k : Int) ∧ k + g = N1 ∧ Hid (ofsL (ts.take k) = l) ∧ Pl w0 D [(m1, kvF [] 0)] (eQ vp b s d cb cs cd l :: eQn b cb l :: eQs s cs l :: eQd d cd l :: R1) q l wr)
  case atStart => exact ⟨0, [], none, none, none, 0, 0, 0, rfl, by omega, Lib.hid rfl, hP⟩
  case round =>
    clear hP
    obtain ⟨k, l, b, s, d, cb, cs, cd, rfl, hkg, HML, hP⟩ := hrel
    have HKG := Lib.hid hkg
    have hof := ofs_ok ts k (by rw [HN1.out]; omega)
    rw [HML.out] at hof
    have hst := sizeL_take ts k
    have HWF := Lib.hid hof.1
    have HOK := Lib.hid hof.1.ok
    have HL : Hid (l.length ≤ 65536) := Lib.hid (by have := HSZ1.out; omega)
    by_cases hk : k < N1
    · obtain ⟨mb, a, c, hg⟩ := hP
      obtain ⟨wx, Dx, H, back, bk2⟩ := hg.openX
      clear hg
      have hkl : k < ts.length := by rw [HN1.out]; exact hk
      obtain ⟨y9, hx⟩ : ∃ y, ts[k]? = some y := ⟨_, List.getElem?_eq_getElem hkl⟩
      have hys : l.length + y9.pt.size ≤ 6000 := by
        rw [ptL_step hx] at hst
        simp only [sizeL] at hst
        have := HSZ1.out; omega
      obtain ⟨l2, tm9, er, hof2⟩ : ∃ l2 tm er, ofE l y9.pt = (l2, tm, er) := ⟨_, _, _, rfl⟩
      have hng : (looksT y9.pt 0 0).1 = 0 → (growT y9.pt l).2.2 = 0 := grow_ok' hof.1 (by omega)
      have hwf2 := ofE_wf (t := y9.pt) hof.1
      rw [hof2] at hwf2
      obtain ⟨mm, e1, e2⟩ := ofE_len l y9.pt
      rw [hof2] at e1
      dsimp only at e1 hwf2
      have HML2 : Hid (ofsL (ts.take (k + 1)) = l2) := Lib.hid (by rw [take_snocT hx, ofsL_snoc, HML.out, hof2])
      have HE := Lib.hid (rowsT_at hx)
      have HSY : Hid (y9.pt.size ≤ 6000) := Lib.hid (by omega)
      obtain ⟨xb, xo, rfl, hO⟩ := (HX1.out.rd R1).some_of (by rw [rowsT_length]; omega)
      have HYR := Lib.hid ((HTA1.out y9 (List.mem_of_getElem? hx)).rd R1)
      have HTY := Lib.hid (TrR.down bk2 (HYR.out.push [eP q mb a c l, eE a c l, eQ vp b s d cb cs cd l, eQn b cb l, eQs s cs l, eQd d cd l]))
      have HOF := Lib.hid hof2
      have HNG := Lib.hid hng
      clear hkg hst hof hx hng hof2 hys hkl e1 e2 hwf2 HWF HML
      go_wp2_with (first
      | ((with_reducible refine gLd ?_); first | (have hq := N1; clear hq; refine wl_loadR (agg := true) (n := 6) (hO (_ :: _ :: _ :: _ :: _ :: _ :: N1) _ (bk2 _ _ H)) rfl rfl (by first | rfl | omega) T50 HE.out ?_) | (refine wl_loadR (agg := true) (n := 6) (hO [_, _, _, _, _, _] _ (bk2 _ _ H)) rfl rfl (by first | rfl | omega) T50 HE.out ?_))
      | (go_at_call 24; (refine (Lent_spec y9 _ H HTY.out HSY.out).mono ?_; rintro e w1 ⟨⟨zk, zf, zd, zn, zt, za, zc, zs⟩, N1, rfl, hpt, htw, H1⟩; have HPT := Lib.hid hpt; have HTW := Lib.hid htw; clear hpt htw H; have H := Hp.swap (A := N1) (B := [_, _, _, _, _, _]) H1; clear H1; simp only [List.cons_append, List.nil_append] at H; (try simp only [Tr.cells])))
      | (go_at_call 25; (refine (Of_spec (M := [(m1, kvF [] 0)]) (L := eQ vp b s d cb cs cd l :: eQn b cb l :: eQs s cs l :: eQd d cd l :: (N1 ++ R1)) (t := (.mk zk zf zd zn zt za zc zs)) ⟨mb, a, c, back _ _ H⟩ (((HTW.out.right R1).push [eQ vp b s d cb cs cd l, eQn b cb l, eQs s cs l, eQd d cd l]) w0 D) HL.out HOK.out ((congrArg (ofE l) HPT.out).trans HOF.out) (by rw [HPT.out]; exact HNG.out)).mono ?_; rintro e w1 ⟨rfl, h1⟩; clear H back bk2; obtain ⟨mb, a, c, hg⟩ := h1; obtain ⟨wz, Dz, H, back, bk2⟩ := hg.openX; clear hg))
      | (go_at_call 26; (refine (rOf_spec (t := y9) (Hp.swap (A := [_, _]) (B := [_, _, _, _]) H) (TrR.down bk2 (HYR.out.push (_ :: _ :: N1))) HL.out HOK.out HOF.out HNG.out).mono ?_; rintro e w1 ⟨b, s, d, cb, cs, cd, rfl, H1⟩; clear H; have H := Hp.swap (A := [_, _, _, _]) (B := [_, _]) H1; clear H1; simp only [List.cons_append, List.nil_append] at H))
      | ((with_reducible refine gLd ?_); refine eLd H rfl rfl ?_; first | ((repeat ((with_reducible refine gEx ?_); first | (refine kLd 0 rfl rfl (by exact TT _ rfl) rfl ?_) | (refine kLdA 0 rfl rfl (by exact TT _ rfl) (Nat.le_of_ble_eq_true rfl) (by simp only [Nd.cells, Nd.zero, LS2]; rfl) ?_) | (refine nxL ?_))); fail_if_success (with_reducible refine gEx ?_)))
      | ((with_reducible refine gBx ?_); refine bxA H rfl rfl rfl ?_; clear H; intro b1 w1 H)
      | ((with_reducible refine gEq ?_); (first | (refine wl_cmp rfl rfl rfl rfl ?_) | (refine wl_scmp rfl rfl rfl rfl ?_)); intro rb hrb; cases rb <;> (first | (exfalso; simp at hrb; done) | ((try simp only [CS1, gt_iff_lt, ge_iff_le, ne_eq, Decidable.not_not] at hrb); (try subst hrb); (try (exfalso; omega)))))
      | ((with_reducible refine gRg ?_); refine wp_region_text rfl (by decide +kernel) ?_; replace H := H.drew)
      | ((with_reducible refine EndQ.intro ?_ ?_); (· kernel_rfl)))
      
      go_roundg (gk - 1)
      case measure => have := HKG.out; omega
      case rel => exact ⟨k + 1, l2, b, s, d, cb, cs, cd, by go_num, by have := HKG.out; omega, HML2, mb, a, c, back _ _ (Hp.keptN (M := [_, _, _, _, _, _]) (N := N1) H)⟩
    · obtain rfl : N1 = k := by omega
      rw [← HR1.out] at hP
      obtain ⟨m2, a2, c2, hP9⟩ := ST_mid hP
      clear hP
      obtain ⟨lq, hlq9⟩ : ∃ z, z = l := ⟨_, rfl⟩
      subst hlq9
      have HWQ := HWF
      have HLQ6 : Hid (lq.length ≤ 6000) := Lib.hid (by have := HSZ1.out; omega)
      obtain ⟨R2, hR2⟩ : ∃ Z : List Ent, eP q m2 a2 c2 lq :: eE a2 c2 lq :: (eQ vp b s d cb cs cd lq :: eQn b cb lq :: eQs s cs lq :: eQd d cd lq :: R) = Z := ⟨_, rfl⟩
      rw [hR2] at hP9
      have HR2 := Lib.hid hR2
      have hP := hP9
      clear hkg hst hof HML HOK HL HKG hP9 hR2 HWF
      go_wp2_with (first
          | ((with_reducible refine gLd ?_); refine eLd H rfl rfl ?_; first | ((repeat ((with_reducible refine gEx ?_); first | (refine kLd 0 rfl rfl (by exact TT _ rfl) rfl ?_) | (refine kLdA 0 rfl rfl (by exact TT _ rfl) (Nat.le_of_ble_eq_true rfl) (by simp only [Nd.cells, Nd.zero, LS2]; rfl) ?_) | (refine nxL ?_))); fail_if_success (with_reducible refine gEx ?_)))
          | ((with_reducible refine gBx ?_); refine bxA H rfl rfl rfl ?_; clear H; intro b1 w1 H)
          | ((with_reducible refine gEq ?_); (first | (refine wl_cmp rfl rfl rfl rfl ?_) | (refine wl_scmp rfl rfl rfl rfl ?_)); intro rb hrb; cases rb <;> (first | (exfalso; simp at hrb; done) | ((try simp only [CS1, gt_iff_lt, ge_iff_le, ne_eq, Decidable.not_not] at hrb); (try subst hrb); (try (exfalso; omega)))))
          | ((with_reducible refine gRg ?_); refine wp_region_text rfl (by decide +kernel) ?_; replace H := H.drew)
          | ((with_reducible refine EndQ.intro ?_ ?_); (· kernel_rfl)))
      
      go_loopg [12] N2 (fun g v12 wr => ∃ (k : Nat) (l : List En) (b s d : Option Nat) (cb cs cd : Nat), v12 = .int .i64 (k : Int) ∧ k + g = N2 ∧ Hid (ofsL (us.take k) = l) ∧ Pl w0 D [(m2, kvF lq 0)] (eQ wp b s d cb cs cd l :: eQn b cb l :: eQs s cs l :: eQd d cd l :: R2) p l wr)
      case atStart => exact ⟨0, [], none, none, none, 0, 0, 0, rfl, by omega, Lib.hid rfl, hP⟩
      case round =>
        clear hP
        obtain ⟨k, l, b, s, d, cb, cs, cd, rfl, hkg, HML, hP⟩ := hrel
        have HKG := Lib.hid hkg
        have hof := ofs_ok us k (by rw [HN2.out]; omega)
        rw [HML.out] at hof
        have hst := sizeL_take us k
        have HWF := Lib.hid hof.1
        have HOK := Lib.hid hof.1.ok
        have HL : Hid (l.length ≤ 65536) := Lib.hid (by have := HSZ2.out; omega)
        by_cases hk : k < N2
        · obtain ⟨mb, a, c, hg⟩ := hP
          obtain ⟨wx, Dx, H, back, bk2⟩ := hg.openX
          clear hg
          have hkl : k < us.length := by rw [HN2.out]; exact hk
          obtain ⟨y9, hx⟩ : ∃ y, us[k]? = some y := ⟨_, List.getElem?_eq_getElem hkl⟩
          have hys : l.length + y9.pt.size ≤ 6000 := by
            rw [ptL_step hx] at hst
            simp only [sizeL] at hst
            have := HSZ2.out; omega
          obtain ⟨l2, tm9, er, hof2⟩ : ∃ l2 tm er, ofE l y9.pt = (l2, tm, er) := ⟨_, _, _, rfl⟩
          have hng : (looksT y9.pt 0 0).1 = 0 → (growT y9.pt l).2.2 = 0 := grow_ok' hof.1 (by omega)
          have hwf2 := ofE_wf (t := y9.pt) hof.1
          rw [hof2] at hwf2
          obtain ⟨mm, e1, e2⟩ := ofE_len l y9.pt
          rw [hof2] at e1
          dsimp only at e1 hwf2
          have HML2 : Hid (ofsL (us.take (k + 1)) = l2) := Lib.hid (by rw [take_snocT hx, ofsL_snoc, HML.out, hof2])
          have HE := Lib.hid (rowsT_at hx)
          have HSY : Hid (y9.pt.size ≤ 6000) := Lib.hid (by omega)
          obtain ⟨xb, xo, rfl, hO⟩ := (HX2.out.rd R2).some_of (by rw [rowsT_length]; omega)
          have HYR := Lib.hid ((HTA2.out y9 (List.mem_of_getElem? hx)).rd R2)
          have HTY := Lib.hid (TrR.down bk2 (HYR.out.push [eP p mb a c l, eE a c l, eQ wp b s d cb cs cd l, eQn b cb l, eQs s cs l, eQd d cd l]))
          have HOF := Lib.hid hof2
          have HNG := Lib.hid hng
          clear hkg hst hof hx hng hof2 hys hkl e1 e2 hwf2 HWF HML
          go_wp2_with (first
          | ((with_reducible refine gLd ?_); first | (have hq := N1; clear hq; refine wl_loadR (agg := true) (n := 6) (hO (_ :: _ :: _ :: _ :: _ :: _ :: N1) _ (bk2 _ _ H)) rfl rfl (by first | rfl | omega) T50 HE.out ?_) | (refine wl_loadR (agg := true) (n := 6) (hO [_, _, _, _, _, _] _ (bk2 _ _ H)) rfl rfl (by first | rfl | omega) T50 HE.out ?_))
          | (go_at_call 24; (refine (Lent_spec y9 _ H HTY.out HSY.out).mono ?_; rintro e w1 ⟨⟨zk, zf, zd, zn, zt, za, zc, zs⟩, N1, rfl, hpt, htw, H1⟩; have HPT := Lib.hid hpt; have HTW := Lib.hid htw; clear hpt htw H; have H := Hp.swap (A := N1) (B := [_, _, _, _, _, _]) H1; clear H1; simp only [List.cons_append, List.nil_append] at H; (try simp only [Tr.cells])))
          | (go_at_call 25; (refine (Of_spec (M := [(m2, kvF lq 0)]) (L := eQ wp b s d cb cs cd l :: eQn b cb l :: eQs s cs l :: eQd d cd l :: (N1 ++ R2)) (t := (.mk zk zf zd zn zt za zc zs)) ⟨mb, a, c, back _ _ H⟩ (((HTW.out.right R2).push [eQ wp b s d cb cs cd l, eQn b cb l, eQs s cs l, eQd d cd l]) w0 D) HL.out HOK.out ((congrArg (ofE l) HPT.out).trans HOF.out) (by rw [HPT.out]; exact HNG.out)).mono ?_; rintro e w1 ⟨rfl, h1⟩; clear H back bk2; obtain ⟨mb, a, c, hg⟩ := h1; obtain ⟨wz, Dz, H, back, bk2⟩ := hg.openX; clear hg))
          | (go_at_call 26; (refine (rOf_spec (t := y9) (Hp.swap (A := [_, _]) (B := [_, _, _, _]) H) (TrR.down bk2 (HYR.out.push (_ :: _ :: N1))) HL.out HOK.out HOF.out HNG.out).mono ?_; rintro e w1 ⟨b, s, d, cb, cs, cd, rfl, H1⟩; clear H; have H := Hp.swap (A := [_, _, _, _]) (B := [_, _]) H1; clear H1; simp only [List.cons_append, List.nil_append] at H))
          | ((with_reducible refine gLd ?_); refine eLd H rfl rfl ?_; first | ((repeat ((with_reducible refine gEx ?_); first | (refine kLd 0 rfl rfl (by exact TT _ rfl) rfl ?_) | (refine kLdA 0 rfl rfl (by exact TT _ rfl) (Nat.le_of_ble_eq_true rfl) (by simp only [Nd.cells, Nd.zero, LS2]; rfl) ?_) | (refine nxL ?_))); fail_if_success (with_reducible refine gEx ?_)))
          | ((with_reducible refine gBx ?_); refine bxA H rfl rfl rfl ?_; clear H; intro b1 w1 H)
          | ((with_reducible refine gEq ?_); (first | (refine wl_cmp rfl rfl rfl rfl ?_) | (refine wl_scmp rfl rfl rfl rfl ?_)); intro rb hrb; cases rb <;> (first | (exfalso; simp at hrb; done) | ((try simp only [CS1, gt_iff_lt, ge_iff_le, ne_eq, Decidable.not_not] at hrb); (try subst hrb); (try (exfalso; omega)))))
          | ((with_reducible refine gRg ?_); refine wp_region_text rfl (by decide +kernel) ?_; replace H := H.drew)
          | ((with_reducible refine EndQ.intro ?_ ?_); (· kernel_rfl)))
          
          go_roundg (gk - 1)
          case measure => have := HKG.out; omega
          case rel => exact ⟨k + 1, l2, b, s, d, cb, cs, cd, by go_num, by have := HKG.out; omega, HML2, mb, a, c, back _ _ (Hp.keptN (M := [_, _, _, _, _, _]) (N := N1) H)⟩
        · obtain rfl : N2 = k := by omega
          replace hP := hP
          rw [← HR2.out] at hP
          have hS := ST_end hP
          clear hP
          obtain ⟨lp, hlp9⟩ : ∃ z, z = l := ⟨_, rfl⟩
          subst hlp9
          have hwp := HWF.out
          have hwq := HWQ.out
          have hlp : lp.length ≤ 6000 := by have := HSZ2.out; omega
          have hlq := HLQ6.out
          have hsum : lp.length + lq.length ≤ 12000 := by omega
          replace hlq : lq.length ≤ 65536 := by omega
          clear hkg hst hof HML HOK HL HKG
          cases hin : inP lq tm with
          | true =>
            obtain ⟨lp2, own, hcp⟩ : ∃ lp2 own, cpF lq (subsP lq tm) lp [] = (lp2, own) := ⟨_, _, rfl⟩
            obtain ⟨tv, htv⟩ : ∃ z, getO own tm = z := ⟨_, rfl⟩
            have hci := cp_all hwq hwp (subs_good hwq tm) (subs_ord hwq tm) (by omega) (subsP lq tm) [] (by simp)
            rw [hcp] at hci
            have hl2 : lp2.length ≤ 65536 := by have h1 := hci.len; have h2 := (subs_good hwq tm).len; dsimp only at h1; omega
            have K1 : ∀ u, ST w0 D R p q wp vp lp lp lq u → Calls Try.prog 37 #[.pointer (some ⟨p, 0, none⟩), .pointer (some ⟨q, 0, none⟩), .int .i64 tm] u fun e w' => e = TT2 tv 0 ∧ ST w0 D R p q wp vp lp2 lp lq w' := fun u hu => by have h9 := ST_cp hu hlq hwq hwp (by omega) hin; rw [hcp] at h9; dsimp only at h9; rw [htv] at h9; exact h9
            have K2 : ∀ u, ST w0 D R p q wp vp lp2 lp lq u → Calls Try.prog 38 #[.pointer (some ⟨wp, 0, none⟩), .pointer (some ⟨vp, 0, none⟩), .int .i64 tm] u fun e w' => e = TT2 tv 0 ∧ ST w0 D R p q wp vp lp2 lp2 lq w' := fun u hu => by have h9 := ST_rcp hu hlq hwq hwp (by omega) hin; rw [hcp] at h9; dsimp only at h9; rw [htv] at h9; exact h9
            have K3 : ∀ u, ST w0 D R p q wp vp lp2 lp2 lq u → Calls Try.prog 37 #[.pointer (some ⟨q, 0, none⟩), .pointer (some ⟨q, 0, none⟩), .int .i64 tm] u fun e w' => e = TT2 tm 0 ∧ ST w0 D R p q wp vp lp2 lp2 lq w' := fun u hu => ST_self hu hlq hwq hin
            have K4 : ∀ u, ST w0 D R p q wp vp lp2 lp2 lq u → Calls Try.prog 18 #[.int .i64 0] u fun e w' => e = .returned (.int .i64 0) ∧ ST w0 D R p q wp vp lp2 lp2 lq w' := fun u hu => ST_num hu 0
            have K5 : ∀ u, ST w0 D R p q wp vp lp2 lp2 lq u → Calls Try.prog 20 #[.pointer (some ⟨p, 0, none⟩), .pointer (some ⟨wp, 0, none⟩)] u fun e w' => e = .returned (.bool true) ∧ ST w0 D R p q wp vp lp2 lp2 lq w' := fun u hu => ST_al1 (lw := []) hu hl2
            have K6 : ∀ u, ST w0 D R p q wp vp lp2 lp2 lq u → Calls Try.prog 20 #[.pointer (some ⟨q, 0, none⟩), .pointer (some ⟨vp, 0, none⟩)] u fun e w' => e = .returned (.bool true) ∧ ST w0 D R p q wp vp lp2 lp2 lq w' := fun u hu => ST_al2 hu hlq
            have K7 : ∀ u, ST w0 D R p q wp vp lp2 lp2 lq u → Calls Try.prog 36 #[.pointer (some ⟨vp, 0, none⟩), .int .i64 tm] u fun e w' => e = .returned (.bool true) ∧ ST w0 D R p q wp vp lp2 lp2 lq w' := fun u hu => ST_in hu hin
            clear hci hcp htv
            clear hwq hwp hlq hl2 hin hsum hlp
            go_wp2_with (first
                | (go_at_call 37; first | ((with_reducible refine (K1 _ hS).mono ?_); rintro e w1 ⟨he, hS1⟩; (try unfold TT2 at he); subst he; clear hS; have hS := hS1; clear hS1) | ((with_reducible refine (K3 _ hS).mono ?_); rintro e w1 ⟨he, hS1⟩; (try unfold TT2 at he); subst he; clear hS; have hS := hS1; clear hS1))
                | (go_at_call 38; first | ((with_reducible refine (K2 _ hS).mono ?_); rintro e w1 ⟨he, hS1⟩; (try unfold TT2 at he); subst he; clear hS; have hS := hS1; clear hS1))
                | (go_at_call 18; first | ((with_reducible refine (K4 _ hS).mono ?_); rintro e w1 ⟨he, hS1⟩; (try unfold TT2 at he); subst he; clear hS; have hS := hS1; clear hS1))
                | (go_at_call 20; first | ((with_reducible refine (K5 _ hS).mono ?_); rintro e w1 ⟨he, hS1⟩; (try unfold TT2 at he); subst he; clear hS; have hS := hS1; clear hS1) | ((with_reducible refine (K6 _ hS).mono ?_); rintro e w1 ⟨he, hS1⟩; (try unfold TT2 at he); subst he; clear hS; have hS := hS1; clear hS1))
                | (go_at_call 36; first | ((with_reducible refine (K7 _ hS).mono ?_); rintro e w1 ⟨he, hS1⟩; (try unfold TT2 at he); subst he; clear hS; have hS := hS1; clear hS1))
                | ((with_reducible refine gEq ?_); refine wl_neb rfl rfl rfl ?_)
                | ((with_reducible refine gEq ?_); refine wl_cmp rfl rfl rfl rfl ?_; intro rb hrb; (first | (have hq9 : rb = false := by (rw [← hrb]; first | (simp; done) | (simp; omega))) | (have hq9 : rb = true := by (rw [← hrb]; first | (simp; done) | (simp; omega)))); subst hq9; clear hrb)
                | (go_at_call 11; ((refine (ST_live hS).mono ?_); rintro e w1 ⟨rfl, hS1⟩; clear hS))
                | ((with_reducible refine EndQ.intro ?_ ?_); (· kernel_rfl)))
            go_ret
            exact ⟨rfl, hS1⟩
          | false =>
            have hl2 : lp.length ≤ 65536 := by omega
            have K1 : ∀ u, ST w0 D R p q wp vp lp lp lq u → Calls Try.prog 37 #[.pointer (some ⟨p, 0, none⟩), .pointer (some ⟨q, 0, none⟩), .int .i64 tm] u fun e w' => e = TT2 0 51 ∧ ST w0 D R p q wp vp lp lp lq w' := fun u hu => ST_cpn hu hin
            have K2 : ∀ u, ST w0 D R p q wp vp lp lp lq u → Calls Try.prog 38 #[.pointer (some ⟨wp, 0, none⟩), .pointer (some ⟨vp, 0, none⟩), .int .i64 tm] u fun e w' => e = TT2 0 51 ∧ ST w0 D R p q wp vp lp lp lq w' := fun u hu => ST_rcpn hu hin
            have K3 : ∀ u, ST w0 D R p q wp vp lp lp lq u → Calls Try.prog 37 #[.pointer (some ⟨q, 0, none⟩), .pointer (some ⟨q, 0, none⟩), .int .i64 tm] u fun e w' => e = TT2 0 51 ∧ ST w0 D R p q wp vp lp lp lq w' := fun u hu => ST_selfn hu hin
            have K4 : ∀ u, ST w0 D R p q wp vp lp lp lq u → Calls Try.prog 18 #[.int .i64 51] u fun e w' => e = .returned (.int .i64 51) ∧ ST w0 D R p q wp vp lp lp lq w' := fun u hu => ST_num hu 51
            have K5 : ∀ u, ST w0 D R p q wp vp lp lp lq u → Calls Try.prog 20 #[.pointer (some ⟨p, 0, none⟩), .pointer (some ⟨wp, 0, none⟩)] u fun e w' => e = .returned (.bool true) ∧ ST w0 D R p q wp vp lp lp lq w' := fun u hu => ST_al1 (lw := []) hu hl2
            have K6 : ∀ u, ST w0 D R p q wp vp lp lp lq u → Calls Try.prog 20 #[.pointer (some ⟨q, 0, none⟩), .pointer (some ⟨vp, 0, none⟩)] u fun e w' => e = .returned (.bool true) ∧ ST w0 D R p q wp vp lp lp lq w' := fun u hu => ST_al2 hu hlq
            have K7 : ∀ u, ST w0 D R p q wp vp lp lp lq u → Calls Try.prog 36 #[.pointer (some ⟨vp, 0, none⟩), .int .i64 tm] u fun e w' => e = .returned (.bool false) ∧ ST w0 D R p q wp vp lp lp lq w' := fun u hu => ST_in hu hin
            
            clear hwq hwp hlq hl2 hin hsum hlp
            go_wp2_with (first
                | (go_at_call 37; first | ((with_reducible refine (K1 _ hS).mono ?_); rintro e w1 ⟨he, hS1⟩; (try unfold TT2 at he); subst he; clear hS; have hS := hS1; clear hS1) | ((with_reducible refine (K3 _ hS).mono ?_); rintro e w1 ⟨he, hS1⟩; (try unfold TT2 at he); subst he; clear hS; have hS := hS1; clear hS1))
                | (go_at_call 38; first | ((with_reducible refine (K2 _ hS).mono ?_); rintro e w1 ⟨he, hS1⟩; (try unfold TT2 at he); subst he; clear hS; have hS := hS1; clear hS1))
                | (go_at_call 18; first | ((with_reducible refine (K4 _ hS).mono ?_); rintro e w1 ⟨he, hS1⟩; (try unfold TT2 at he); subst he; clear hS; have hS := hS1; clear hS1))
                | (go_at_call 20; first | ((with_reducible refine (K5 _ hS).mono ?_); rintro e w1 ⟨he, hS1⟩; (try unfold TT2 at he); subst he; clear hS; have hS := hS1; clear hS1) | ((with_reducible refine (K6 _ hS).mono ?_); rintro e w1 ⟨he, hS1⟩; (try unfold TT2 at he); subst he; clear hS; have hS := hS1; clear hS1))
                | (go_at_call 36; first | ((with_reducible refine (K7 _ hS).mono ?_); rintro e w1 ⟨he, hS1⟩; (try unfold TT2 at he); subst he; clear hS; have hS := hS1; clear hS1))
                | ((with_reducible refine gEq ?_); refine wl_neb rfl rfl rfl ?_)
                | ((with_reducible refine gEq ?_); refine wl_cmp rfl rfl rfl rfl ?_; intro rb hrb; (first | (have hq9 : rb = false := by (rw [← hrb]; first | (simp; done) | (simp; omega))) | (have hq9 : rb = true := by (rw [← hrb]; first | (simp; done) | (simp; omega)))); subst hq9; clear hrb)
                | (go_at_call 11; ((refine (ST_live hS).mono ?_); rintro e w1 ⟨rfl, hS1⟩; clear hS))
                | ((with_reducible refine EndQ.intro ?_ ?_); (· kernel_rfl)))
            go_ret
            exact ⟨rfl, hS1⟩
end Go.Proofs.Ytebecelhcpljaaa
