/- TermMakes: what the law computes. -/
import Derived.Test.YtebecelhcpljaaaW16
import Derived.Test.YtebecelhcpljaaaW17
import Derived.Test.YtebecelhcpljaaaW12
import Derived.Test.YtebecelhcpljaaaGxRd
import Derived.Deep.Cut
import Derived.WalkKit
import Derived.Lib.Hide
import Derived.Deep.LoopGhost
import Derived.WalkSpells
set_option linter.unusedVariables false
set_option linter.unusedSimpArgs false
namespace Go.Proofs.Ytebecelhcpljaaa
open Go.RowKit Go.Gx Go.Gx.Trm
set_option maxRecDepth 100000
theorem rMake_spec {w0 w : World} {D : Nat → Prop} {R : List Ent} {p : Nat} {b s d : Option Nat} {cb cs cd : Nat} {l l2 : List En} {n : Nd} {t er : Int} (H : Hp w0 D (eQ p b s d cb cs cd l :: eQn b cb l :: eQs s cs l :: eQd d cd l :: R) w) (hl : l.length ≤ 65536) (hok : okP l) (hm : makeE l n = (l2, t, er)) :
    Calls Try.prog 17 #[.pointer (some ⟨p, 0, none⟩), .agg n.cells.toArray] w fun e w' => RMkP w0 D R p l2 t er e w' := by
  have hA := sizeP_le hok n.a
  have hB := sizeP_le hok n.b
  have hC := deepP_le hok n.a
  have hD := deepP_le hok n.b
  unfold makeE at hm
  by_cases hs : shapeE n = 0
  · have hk := kidsN_le n.kind
    cases hmi : missE l n with
    | true =>
      have hc : checkE l n = 51 := by unfold checkE; rw [if_neg (by simpa using hs), hmi, if_pos rfl]
      rw [if_pos (by rw [hc]; decide), hc] at hm
      cases hm
      unfold missE at hmi
      cases hia : inP l n.a with
      | false =>
        by_cases h1 : 1 ≤ kidsN n.kind
        · exact rMk_missA H hs rfl h1 hia
        · have h0 : kidsN n.kind = 0 := by omega
          rw [h0] at hmi; simp at hmi
      | true =>
        rw [hia] at hmi
        simp at hmi
        exact rMk_missB H hs hmi.1 hia hmi.2
    | false =>
      have hg : kidsN n.kind = 0 ∨ (kidsN n.kind = 1 ∧ inP l n.a = true) ∨ (kidsN n.kind = 2 ∧ inP l n.a = true ∧ inP l n.b = true) := by
        unfold missE at hmi
        have h3 : kidsN n.kind = 0 ∨ kidsN n.kind = 1 ∨ kidsN n.kind = 2 := by omega
        rcases h3 with h | h | h
        · exact .inl h
        · rw [h] at hmi; simp at hmi; exact .inr (.inl ⟨h, hmi⟩)
        · rw [h] at hmi; simp at hmi; exact .inr (.inr ⟨h, hmi.1, hmi.2⟩)
      have hm0 : 0 ≤ max (deepP l n.a) (deepP l n.b) := by omega
      have hm1 : max (deepP l n.a) (deepP l n.b) ≤ 64 := by omega
      by_cases hbA : 4096 < 1 + sizeP l n.a + sizeP l n.b
      · have hc : checkE l n = 52 := by unfold checkE bigS; rw [if_neg (by simpa using hs), hmi, if_neg (by decide), if_pos (.inl hbA)]
        rw [if_pos (by rw [hc]; decide), hc] at hm
        cases hm
        exact rMk_bigA H hs hg hl rfl rfl rfl rfl rfl hA.1 hA.2 hB.1 hB.2 hm0 hm1 hbA
      by_cases hbB : 64 < 1 + max (deepP l n.a) (deepP l n.b)
      · have hc : checkE l n = 52 := by unfold checkE bigD; rw [if_neg (by simpa using hs), hmi, if_neg (by decide), if_pos (.inr hbB)]
        rw [if_pos (by rw [hc]; decide), hc] at hm
        cases hm
        exact rMk_bigB H hs hg hl rfl rfl rfl rfl rfl hA.1 hA.2 hB.1 hB.2 hm0 hm1 (by omega) hbB
      have hc : checkE l n = 0 := by unfold checkE bigS bigD; rw [if_neg (by simpa using hs), hmi, if_neg (by decide), if_neg (by omega)]
      rw [if_neg (by simpa using hc)] at hm
      cases hf : findN l n 0 with
      | some i =>
        rw [hf] at hm
        cases hm
        exact rMk_hit H hs hg hl rfl rfl rfl rfl rfl hA.1 hA.2 hB.1 hB.2 hm0 hm1 (by omega) (by omega) hf
      | none =>
        rw [hf] at hm
        by_cases h6 : 65536 ≤ l.length
        · simp only [if_pos h6] at hm
          cases hm
          exact rMk_full H hs hg hl rfl rfl rfl rfl rfl hA.1 hA.2 hB.1 hB.2 hm0 hm1 (by omega) (by omega) hf h6
        · simp only [if_neg h6] at hm
          cases hm
          exact rMk_new H hs hg hl rfl rfl rfl rfl rfl hA.1 hA.2 hB.1 hB.2 hm0 hm1 (by omega) (by omega) hf (by omega) rfl rfl
  · have hc : checkE l n = shapeE n := by unfold checkE; rw [if_pos hs]
    rw [if_pos (by rw [hc]; exact hs), hc] at hm
    cases hm
    exact rMk_shape H rfl hs
theorem rHas_pl {W w : World} {E : Nat → Prop} {M : List (Nat × List (Value × Value))} {L : List Ent} {p : Nat} {l : List En} {q : Nat} {b s d : Option Nat} {cb cs cd : Nat} {r : Option Nat} {n : Nd} {l2 : List En} (h : Pl W E M (eQ q b s d cb cs cd l2 :: eQn b cb l2 :: eQs s cs l2 :: eQd d cd l2 :: L) p l w) (hl : l2.length ≤ 65536) (hr : findN l2 n 0 = r) :
    Calls Try.prog 15 #[.pointer (some ⟨q, 0, none⟩), .agg n.cells.toArray] w fun e w' => e = .returned (hasV r) ∧ Pl W E M (eQ q b s d cb cs cd l2 :: eQn b cb l2 :: eQs s cs l2 :: eQd d cd l2 :: L) p l w' := by
  obtain ⟨mb, a, c, h⟩ := h
  obtain ⟨w0, D, H, back⟩ := h.open
  exact (rHas_at (i := 2) (j := 3) H rfl rfl hl hr).mono fun e w' hh => ⟨hh.1, mb, a, c, back _ _ hh.2⟩
def RMkL (W : World) (E : Nat → Prop) (M : List (Nat × List (Value × Value))) (L : List Ent) (p q : Nat) (l l2 : List En) (t er : Int) (e : Ending) (w' : World) : Prop :=
  ∃ (b s d : Option Nat) (cb cs cd : Nat), e = .returned (.tuple #[.int .i64 t, .int .i64 er]) ∧ Pl W E M (eQ q b s d cb cs cd l2 :: eQn b cb l2 :: eQs s cs l2 :: eQd d cd l2 :: L) p l w'
theorem rMake_pl {W w : World} {E : Nat → Prop} {M : List (Nat × List (Value × Value))} {L : List Ent} {p : Nat} {l : List En} {q : Nat} {b s d : Option Nat} {cb cs cd : Nat} {n : Nd} {l1 l2 : List En} {t er : Int} (h : Pl W E M (eQ q b s d cb cs cd l1 :: eQn b cb l1 :: eQs s cs l1 :: eQd d cd l1 :: L) p l w) (hl : l1.length ≤ 65536) (hok : okP l1) (hm : makeE l1 n = (l2, t, er)) :
    Calls Try.prog 17 #[.pointer (some ⟨q, 0, none⟩), .agg n.cells.toArray] w fun e w' => RMkL W E M L p q l l2 t er e w' := by
  obtain ⟨mb, a, c, h⟩ := h
  obtain ⟨w0, D, H, back⟩ := h.open
  refine (rMake_spec (H.swap (A := [_, _]) (B := [_, _, _, _])) hl hok hm).mono fun e w' hh => ?_
  obtain ⟨b, s, d, cb, cs, cd, he, h2⟩ := hh
  exact ⟨b, s, d, cb, cs, cd, he, mb, a, c, back _ _ (h2.swap (A := [_, _, _, _]) (B := [_, _]))⟩
theorem alike_pl {W w : World} {E : Nat → Prop} {M : List (Nat × List (Value × Value))} {L : List Ent} {p : Nat} {l : List En} {q : Nat} {b s d : Option Nat} {cb cs cd : Nat} (h : Pl W E M (eQ q b s d cb cs cd l :: eQn b cb l :: eQs s cs l :: eQd d cd l :: L) p l w) (hl : l.length ≤ 65536) :
    Calls Try.prog 20 #[.pointer (some ⟨p, 0, none⟩), .pointer (some ⟨q, 0, none⟩)] w fun e w' => e = .returned (.bool true) ∧ Pl W E M (eQ q b s d cb cs cd l :: eQn b cb l :: eQs s cs l :: eQd d cd l :: L) p l w' := by
  obtain ⟨mb, a, c, h⟩ := h
  obtain ⟨w0, D, H, back⟩ := h.open
  exact (alike_spec H hl).mono fun e w' hh => ⟨hh.1, mb, a, c, back _ _ hh.2⟩
def RNewL (W : World) (E : Nat → Prop) (M : List (Nat × List (Value × Value))) (L : List Ent) (p : Nat) (l : List En) (e : Ending) (w' : World) : Prop :=
  ∃ q, e = .returned (.pointer (some ⟨q, 0, none⟩)) ∧ Pl W E M (eQ q none none none 0 0 0 [] :: eQn none 0 [] :: eQs none 0 [] :: eQd none 0 [] :: L) p l w'
theorem rNew_pl {W w : World} {E : Nat → Prop} {M : List (Nat × List (Value × Value))} {L : List Ent} {p : Nat} {l : List En} (h : Pl W E M L p l w) : Calls Try.prog 13 #[] w fun e w' => RNewL W E M L p l e w' := by
  obtain ⟨mb, a, c, h⟩ := h
  obtain ⟨w0, D, H, back⟩ := h.open
  refine (rNew_spec H).mono fun e w' hh => ?_
  obtain ⟨q, he, h2⟩ := hh
  exact ⟨q, he, mb, a, c, back _ _ (h2.swap (A := [_, _, _, _]) (B := [_, _]))⟩
def makesL (ns : List Nd) : List En := ns.foldl (fun l n => (makeE l n).1) []
theorem makesL_snoc (ns : List Nd) (n : Nd) : makesL (ns ++ [n]) = (makeE (makesL ns) n).1 := by simp [makesL]
theorem makeE_len (l : List En) (n : Nd) : (makeE l n).1.length ≤ l.length + 1 := by
  unfold makeE
  split
  · simp
  split
  · simp
  split <;> simp
theorem makes_ok : ∀ (k : Nat) (ns : List Nd), ns.length = k → (makesL ns).length ≤ k ∧ okP (makesL ns)
  | 0, ns, h => by
    have : ns = [] := by simpa using h
    subst this
    exact ⟨Nat.le_refl _, okP_nil⟩
  | k + 1, ns, h => by
    have hne : ns ≠ [] := fun h0 => by subst h0; simp at h
    obtain ⟨ms, n, rfl⟩ : ∃ ms n, ns = ms ++ [n] := ⟨ns.dropLast, ns.getLast hne, (List.dropLast_concat_getLast hne).symm⟩
    simp at h
    obtain ⟨h1, h2⟩ := makes_ok k ms h
    rw [makesL_snoc]
    exact ⟨by have := makeE_len (makesL ms) n; omega, okP_make h2⟩
theorem take_snocN {ns : List Nd} {k : Nat} {n : Nd} (h : ns[k]? = some n) : ns.take (k + 1) = ns.take k ++ [n] := by
  obtain ⟨hlt, rfl⟩ := List.getElem?_eq_some_iff.1 h
  rw [List.take_succ_eq_append_getElem hlt]
theorem sizeP_neg (l : List En) : sizeP l (-1) = 0 := by simp [sizeP, entP_no (inP_lo (l := l) (t := -1) (by omega))]
theorem deepP_big {l : List En} (h : l.length ≤ 65536) : deepP l 1099511627776 = 0 := by simp [deepP, entP_no (inP_hi (l := l) (t := 1099511627776) (by omega))]
set_option maxHeartbeats 16000000 in
theorem Makes_spec {w0 w : World} {D : Nat → Prop} {R : List Ent} {x : Option Addr} {c0 : Nat} (H : Hp w0 D R w) (ns : List Nd) (bb : Bool) (hX : RdA w0 D x (rowsN ns)) :
    Calls Try.prog 3 #[.slice x ns.length c0, .bool bb] w fun e w' => e = .returned (.bool true) ∧ ∃ L, Hp w0 D L w' := by
  have HX := Lib.hid hX
  clear hX
  by_cases h100 : 100 < ns.length
  · go_enter Try.func3, Try.ntmps3
    go_wp2_with (first
    | (go_at_call 11; ((refine (live_hp H).mono ?_); rintro e w1 ⟨rfl, H1⟩; clear H; have H := H1; clear H1))
    | ((with_reducible refine gLd ?_); refine eLd H rfl rfl ?_; first | (refine kLd 0 rfl rfl (by first | exact T3 | exact T4 | exact T9 | exact T28 | exact T31 | exact T34 | exact T78 | exact T79 | exact T61 | exact T33 | exact T110 | exact T122 | exact T81 | exact T43 | exact T22 | exact T41) rfl ?_) | (refine kLdA 0 rfl rfl (by first | exact T3 | exact T4 | exact T9 | exact T28 | exact T31 | exact T34 | exact T78 | exact T79 | exact T61 | exact T33 | exact T110 | exact T122 | exact T81 | exact T43 | exact T22 | exact T41) (Nat.le_of_ble_eq_true rfl) (by simp only [Nd.cells, Nd.zero, eP, eE, List.drop_succ_cons, List.drop_zero, List.take_succ_cons, List.take_zero, List.set_cons_zero, List.set_cons_succ]; rfl) ?_))
    | ((with_reducible refine gSt ?_); (first | (refine eSt H rfl rfl ⟨.int _ _, rfl, ?_⟩) | (refine eSt H rfl rfl ⟨.bool _, rfl, ?_⟩) | (refine eSt H rfl rfl ⟨.slice _ _ _, rfl, ?_⟩) | (refine eSt H rfl rfl ⟨.pointer _, rfl, ?_⟩) | (refine eSt H rfl rfl ⟨.string _, rfl, ?_⟩) | (refine eSt H rfl rfl ⟨.agg (List.toArray _), rfl, ?_⟩)); (first | (refine kSt 0 rfl rfl (by first | exact T3 | exact T4 | exact T9 | exact T28 | exact T31 | exact T34 | exact T78 | exact T79 | exact T61 | exact T33 | exact T110 | exact T122 | exact T81 | exact T43 | exact T22 | exact T41) rfl (Nat.le_of_ble_eq_true rfl) ?_) | (refine kStA 0 rfl rfl (by first | exact T3 | exact T4 | exact T9 | exact T28 | exact T31 | exact T34 | exact T78 | exact T79 | exact T61 | exact T33 | exact T110 | exact T122 | exact T81 | exact T43 | exact T22 | exact T41) rfl rfl (Nat.le_of_ble_eq_true rfl) ?_)); clear H; intro w1 H; simp only [List.set_cons_zero, List.set_cons_succ] at H; (try simp only [lay, List.take_zero, List.nil_append, List.length_cons, List.length_nil, Nat.zero_add, Nat.reduceAdd, List.drop_succ_cons, List.drop_zero, List.drop_nil, List.append_nil, List.take_succ_cons, List.cons_append] at H))
    | ((with_reducible refine gBx ?_); refine bxA H rfl rfl rfl ?_; clear H; intro b1 w1 H)
    | ((with_reducible refine gBs ?_); (first | (refine bs1 H rfl (by first | exact S61 | exact S22 | exact S41) rfl (Nat.le_of_ble_eq_true rfl) (Nat.le_of_ble_eq_true rfl) rfl ?_) | (refine wl_buildSlice0 rfl (by first | exact S61 | exact S22 | exact S41) H ?_)); clear H; intro b1 w1 H)
    | ((with_reducible refine gEq ?_); (first | (refine wl_cmp rfl rfl rfl rfl ?_) | (refine wl_scmp rfl rfl rfl rfl ?_)); intro rb hrb; cases rb <;> (first | (exfalso; simp at hrb; done) | ((try simp only [decide_eq_true_eq, decide_eq_false_iff_not, beq_iff_eq, beq_eq_false_iff_ne, ne_eq, bne_iff_ne, bne_eq_false_iff_eq, Bool.not_eq_true', Bool.not_eq_false', gt_iff_lt, ge_iff_le, Int.not_lt, Int.not_le, Decidable.not_not] at hrb); (try subst hrb); (try (exfalso; omega)))))
    | ((with_reducible refine gAl ?_); (first | (refine al H Z33 rfl rfl ?_) | (refine al H Z110 rfl rfl ?_) | (refine al H Z122 rfl rfl ?_)); clear H; intro b1 w1 H)
    | ((with_reducible refine gRg ?_); refine wp_region_text rfl (by decide +kernel) ?_; replace H := H.drew)
    | ((with_reducible refine EndQ.intro ?_ ?_); (· kernel_rfl)))
    go_ret
    exact ⟨rfl, _, H⟩
  obtain ⟨N, hN⟩ : ∃ N, ns.length = N := ⟨_, rfl⟩
  have HN := Lib.hid hN
  rw [hN] at h100 ⊢
  clear hN
  go_enter Try.func3, Try.ntmps3
  go_wp2_with (first
    | (go_at_call 12; (refine (New_spec (Hg.of H)).mono ?_; rintro e w1 ⟨p, rfl, hP⟩))
    | (go_at_call 13; (refine (rNew_pl hP).mono ?_; rintro e w1 ⟨q, rfl, h1⟩; clear hP; have hP := h1; clear h1))
    | ((with_reducible refine gLd ?_); refine eLd H rfl rfl ?_; first | (refine kLd 0 rfl rfl (by first | exact T3 | exact T4 | exact T9 | exact T28 | exact T31 | exact T34 | exact T78 | exact T79 | exact T61 | exact T33 | exact T110 | exact T122 | exact T81 | exact T43 | exact T22 | exact T41) rfl ?_) | (refine kLdA 0 rfl rfl (by first | exact T3 | exact T4 | exact T9 | exact T28 | exact T31 | exact T34 | exact T78 | exact T79 | exact T61 | exact T33 | exact T110 | exact T122 | exact T81 | exact T43 | exact T22 | exact T41) (Nat.le_of_ble_eq_true rfl) (by simp only [Nd.cells, Nd.zero, eP, eE, List.drop_succ_cons, List.drop_zero, List.take_succ_cons, List.take_zero, List.set_cons_zero, List.set_cons_succ]; rfl) ?_))
    | ((with_reducible refine gSt ?_); (first | (refine eSt H rfl rfl ⟨.int _ _, rfl, ?_⟩) | (refine eSt H rfl rfl ⟨.bool _, rfl, ?_⟩) | (refine eSt H rfl rfl ⟨.slice _ _ _, rfl, ?_⟩) | (refine eSt H rfl rfl ⟨.pointer _, rfl, ?_⟩) | (refine eSt H rfl rfl ⟨.string _, rfl, ?_⟩) | (refine eSt H rfl rfl ⟨.agg (List.toArray _), rfl, ?_⟩)); (first | (refine kSt 0 rfl rfl (by first | exact T3 | exact T4 | exact T9 | exact T28 | exact T31 | exact T34 | exact T78 | exact T79 | exact T61 | exact T33 | exact T110 | exact T122 | exact T81 | exact T43 | exact T22 | exact T41) rfl (Nat.le_of_ble_eq_true rfl) ?_) | (refine kStA 0 rfl rfl (by first | exact T3 | exact T4 | exact T9 | exact T28 | exact T31 | exact T34 | exact T78 | exact T79 | exact T61 | exact T33 | exact T110 | exact T122 | exact T81 | exact T43 | exact T22 | exact T41) rfl rfl (Nat.le_of_ble_eq_true rfl) ?_)); clear H; intro w1 H; simp only [List.set_cons_zero, List.set_cons_succ] at H; (try simp only [lay, List.take_zero, List.nil_append, List.length_cons, List.length_nil, Nat.zero_add, Nat.reduceAdd, List.drop_succ_cons, List.drop_zero, List.drop_nil, List.append_nil, List.take_succ_cons, List.cons_append] at H))
    | ((with_reducible refine gBx ?_); refine bxA H rfl rfl rfl ?_; clear H; intro b1 w1 H)
    | ((with_reducible refine gBs ?_); (first | (refine bs1 H rfl (by first | exact S61 | exact S22 | exact S41) rfl (Nat.le_of_ble_eq_true rfl) (Nat.le_of_ble_eq_true rfl) rfl ?_) | (refine wl_buildSlice0 rfl (by first | exact S61 | exact S22 | exact S41) H ?_)); clear H; intro b1 w1 H)
    | ((with_reducible refine gEq ?_); (first | (refine wl_cmp rfl rfl rfl rfl ?_) | (refine wl_scmp rfl rfl rfl rfl ?_)); intro rb hrb; cases rb <;> (first | (exfalso; simp at hrb; done) | ((try simp only [decide_eq_true_eq, decide_eq_false_iff_not, beq_iff_eq, beq_eq_false_iff_ne, ne_eq, bne_iff_ne, bne_eq_false_iff_eq, Bool.not_eq_true', Bool.not_eq_false', gt_iff_lt, ge_iff_le, Int.not_lt, Int.not_le, Decidable.not_not] at hrb); (try subst hrb); (try (exfalso; omega)))))
    | ((with_reducible refine gAl ?_); (first | (refine al H Z33 rfl rfl ?_) | (refine al H Z110 rfl rfl ?_) | (refine al H Z122 rfl rfl ?_)); clear H; intro b1 w1 H)
    | ((with_reducible refine gRg ?_); refine wp_region_text rfl (by decide +kernel) ?_; replace H := H.drew)
    | ((with_reducible refine EndQ.intro ?_ ?_); (· kernel_rfl)))
  clear H
  go_loopg [7] N (fun g v7 wr => ∃ (k : Nat) (l : List En) (b s d : Option Nat) (cb cs cd : Nat), v7 = .int .i64 (k : Int) ∧ k + g = N ∧ Hid (makesL (ns.take k) = l) ∧ Pl w0 D [] (eQ q b s d cb cs cd l :: eQn b cb l :: eQs s cs l :: eQd d cd l :: R) p l wr)
  case atStart => exact ⟨0, [], none, none, none, 0, 0, 0, rfl, by omega, Lib.hid rfl, hP⟩
  case round =>
    clear hP
    obtain ⟨k, l, b, s, d, cb, cs, cd, rfl, hkg, HML, hP⟩ := hrel
    have hmk := makes_ok (ns.take k).length (ns.take k) rfl
    rw [HML.out] at hmk
    have htl : (ns.take k).length ≤ 100 := by rw [List.length_take]; have := HN.out; omega
    have HL : Hid (l.length ≤ 65536) := Lib.hid (by omega)
    have HOK := Lib.hid hmk.2
    have HKG := Lib.hid hkg
    clear hmk htl
    by_cases hk : k < N
    · have hkl : k < ns.length := by rw [HN.out]; exact hk
      obtain ⟨n, hn⟩ : ∃ n, ns[k]? = some n := ⟨_, List.getElem?_eq_getElem hkl⟩
      obtain ⟨l2, t, er, hm⟩ : ∃ l2 t er, makeE l n = (l2, t, er) := ⟨_, _, _, rfl⟩
      obtain ⟨r, hr⟩ : ∃ r, findN l n 0 = r := ⟨_, rfl⟩
      have HML2 : Hid (makesL (ns.take (k + 1)) = l2) := Lib.hid (by rw [take_snocN hn, makesL_snoc, HML.out, hm])
      have HMK := Lib.hid hm
      have HFI := Lib.hid hr
      have HE : Hid (pick true 7 (rowsN ns) (k * 7) = some (.agg n.cells.toArray)) := Lib.hid (by
        have h1 := rowsN_at hn
        have h2 : k * 7 + 7 ≤ (rowsN ns).length := by rw [rowsN_length]; omega
        simp [pick, h2, h1])
      obtain ⟨xb, xo, rfl, hO⟩ : ∃ xb xo, x = some ⟨xb, xo, none⟩ ∧ Old w0 D xb xo (rowsN ns) := by
        rcases HX.out with h | h
        · have := congrArg List.length h
          rw [rowsN_length] at this
          simp at this
          omega
        · exact h
      clear hkg hn hm hr hkl HML
      cases r with
      | none =>
        go_upto_region 14 with ((first
            | ((with_reducible refine gLd ?_); refine wl_loadR (agg := true) (n := 7) (k := k * 7) (hP.gone.hp.old hO) rfl rfl (by first | rfl | omega) T33 HE.out ?_)
            | (go_at_call 14; ((refine (Has_at (n := n) hP HFI.out).mono ?_); rintro e w1 ⟨rfl, h1⟩; clear hP; have hP := h1; clear h1; (try simp only [hasV, numOf, Option.map_some, Option.map_none, Option.getD_some, Option.getD_none, Option.isSome_some, Option.isSome_none])))
            | (go_at_call 15; ((refine (rHas_pl (n := n) hP HL.out HFI.out).mono ?_); rintro e w1 ⟨rfl, h1⟩; clear hP; have hP := h1; clear h1; (try simp only [hasV, numOf, Option.map_some, Option.map_none, Option.getD_some, Option.getD_none, Option.isSome_some, Option.isSome_none])))
            | (go_at_call 16; ((refine (by_spec (n := n) bb hP HL.out HOK.out HMK.out).mono ?_); rintro e w1 ⟨rfl, h1⟩; clear hP; have hP := h1; clear h1))
            | (go_at_call 17; ((refine (rMake_pl (n := n) hP HL.out HOK.out HMK.out).mono ?_); rintro e w1 ⟨b2, s2, d2, cb2, cs2, cd2, rfl, h1⟩; clear hP; have hP := h1; clear h1))
            | ((with_reducible refine gLd ?_); refine eLd H rfl rfl ?_; first | (refine kLd 0 rfl rfl (by first | exact T3 | exact T4 | exact T9 | exact T28 | exact T31 | exact T34 | exact T78 | exact T79 | exact T61 | exact T33 | exact T110 | exact T122 | exact T81 | exact T43 | exact T22 | exact T41) rfl ?_) | (refine kLdA 0 rfl rfl (by first | exact T3 | exact T4 | exact T9 | exact T28 | exact T31 | exact T34 | exact T78 | exact T79 | exact T61 | exact T33 | exact T110 | exact T122 | exact T81 | exact T43 | exact T22 | exact T41) (Nat.le_of_ble_eq_true rfl) (by simp only [Nd.cells, Nd.zero, eP, eE, List.drop_succ_cons, List.drop_zero, List.take_succ_cons, List.take_zero, List.set_cons_zero, List.set_cons_succ]; rfl) ?_))
            | ((with_reducible refine gSt ?_); (first | (refine eSt H rfl rfl ⟨.int _ _, rfl, ?_⟩) | (refine eSt H rfl rfl ⟨.bool _, rfl, ?_⟩) | (refine eSt H rfl rfl ⟨.slice _ _ _, rfl, ?_⟩) | (refine eSt H rfl rfl ⟨.pointer _, rfl, ?_⟩) | (refine eSt H rfl rfl ⟨.string _, rfl, ?_⟩) | (refine eSt H rfl rfl ⟨.agg (List.toArray _), rfl, ?_⟩)); (first | (refine kSt 0 rfl rfl (by first | exact T3 | exact T4 | exact T9 | exact T28 | exact T31 | exact T34 | exact T78 | exact T79 | exact T61 | exact T33 | exact T110 | exact T122 | exact T81 | exact T43 | exact T22 | exact T41) rfl (Nat.le_of_ble_eq_true rfl) ?_) | (refine kStA 0 rfl rfl (by first | exact T3 | exact T4 | exact T9 | exact T28 | exact T31 | exact T34 | exact T78 | exact T79 | exact T61 | exact T33 | exact T110 | exact T122 | exact T81 | exact T43 | exact T22 | exact T41) rfl rfl (Nat.le_of_ble_eq_true rfl) ?_)); clear H; intro w1 H; simp only [List.set_cons_zero, List.set_cons_succ] at H; (try simp only [lay, List.take_zero, List.nil_append, List.length_cons, List.length_nil, Nat.zero_add, Nat.reduceAdd, List.drop_succ_cons, List.drop_zero, List.drop_nil, List.append_nil, List.take_succ_cons, List.cons_append] at H))
            | ((with_reducible refine gBx ?_); refine bxA H rfl rfl rfl ?_; clear H; intro b1 w1 H)
            | ((with_reducible refine gBs ?_); (first | (refine bs1 H rfl (by first | exact S61 | exact S22 | exact S41) rfl (Nat.le_of_ble_eq_true rfl) (Nat.le_of_ble_eq_true rfl) rfl ?_) | (refine wl_buildSlice0 rfl (by first | exact S61 | exact S22 | exact S41) H ?_)); clear H; intro b1 w1 H)
            | ((with_reducible refine gEq ?_); (first | (refine wl_cmp rfl rfl rfl rfl ?_) | (refine wl_scmp rfl rfl rfl rfl ?_)); intro rb hrb; cases rb <;> (first | (exfalso; simp at hrb; done) | ((try simp only [decide_eq_true_eq, decide_eq_false_iff_not, beq_iff_eq, beq_eq_false_iff_ne, ne_eq, bne_iff_ne, bne_eq_false_iff_eq, Bool.not_eq_true', Bool.not_eq_false', gt_iff_lt, ge_iff_le, Int.not_lt, Int.not_le, Decidable.not_not] at hrb); (try subst hrb); (try (exfalso; omega)))))
            | ((with_reducible refine gAl ?_); (first | (refine al H Z33 rfl rfl ?_) | (refine al H Z110 rfl rfl ?_) | (refine al H Z122 rfl rfl ?_)); clear H; intro b1 w1 H)
            | ((with_reducible refine gRg ?_); refine wp_region_text rfl (by decide +kernel) ?_; replace H := H.drew)
            | ((with_reducible refine EndQ.intro ?_ ?_); (· kernel_rfl))))
        have HPX := hP
        clear hP
        obtain ⟨mb, a, c, hg⟩ := HPX
        obtain ⟨wz, Dz, H, back⟩ := hg.open
        have K1 := onL H (fun u hu => num_spec hu er)
        have K2 := onL H (fun u hu => Len_at (i := 0) hu rfl)
        go_wp2_with (first
            | ((with_reducible refine gLd ?_); refine eLd H rfl rfl ?_; first | (refine kLd 0 rfl rfl (by first | exact T3 | exact T4 | exact T9 | exact T28 | exact T31 | exact T34 | exact T78 | exact T79 | exact T61 | exact T33 | exact T110 | exact T122 | exact T81 | exact T43 | exact T22 | exact T41) rfl ?_) | (refine kLdA 0 rfl rfl (by first | exact T3 | exact T4 | exact T9 | exact T28 | exact T31 | exact T34 | exact T78 | exact T79 | exact T61 | exact T33 | exact T110 | exact T122 | exact T81 | exact T43 | exact T22 | exact T41) (Nat.le_of_ble_eq_true rfl) (by simp only [Nd.cells, Nd.zero, eP, eE, List.drop_succ_cons, List.drop_zero, List.take_succ_cons, List.take_zero, List.set_cons_zero, List.set_cons_succ]; rfl) ?_))
            | ((with_reducible refine gSt ?_); (first | (refine eSt H rfl rfl ⟨.int _ _, rfl, ?_⟩) | (refine eSt H rfl rfl ⟨.bool _, rfl, ?_⟩) | (refine eSt H rfl rfl ⟨.slice _ _ _, rfl, ?_⟩) | (refine eSt H rfl rfl ⟨.pointer _, rfl, ?_⟩) | (refine eSt H rfl rfl ⟨.string _, rfl, ?_⟩) | (refine eSt H rfl rfl ⟨.agg (List.toArray _), rfl, ?_⟩)); (first | (refine kSt 0 rfl rfl (by first | exact T3 | exact T4 | exact T9 | exact T28 | exact T31 | exact T34 | exact T78 | exact T79 | exact T61 | exact T33 | exact T110 | exact T122 | exact T81 | exact T43 | exact T22 | exact T41) rfl (Nat.le_of_ble_eq_true rfl) ?_) | (refine kStA 0 rfl rfl (by first | exact T3 | exact T4 | exact T9 | exact T28 | exact T31 | exact T34 | exact T78 | exact T79 | exact T61 | exact T33 | exact T110 | exact T122 | exact T81 | exact T43 | exact T22 | exact T41) rfl rfl (Nat.le_of_ble_eq_true rfl) ?_)); clear H; intro w1 H; simp only [List.set_cons_zero, List.set_cons_succ] at H; (try simp only [lay, List.take_zero, List.nil_append, List.length_cons, List.length_nil, Nat.zero_add, Nat.reduceAdd, List.drop_succ_cons, List.drop_zero, List.drop_nil, List.append_nil, List.take_succ_cons, List.cons_append] at H))
            | ((with_reducible refine gBx ?_); refine bxA H rfl rfl rfl ?_; clear H; intro b1 w1 H)
            | ((with_reducible refine gBs ?_); (first | (refine bs1 H rfl (by first | exact S61 | exact S22 | exact S41) rfl (Nat.le_of_ble_eq_true rfl) (Nat.le_of_ble_eq_true rfl) rfl ?_) | (refine wl_buildSlice0 rfl (by first | exact S61 | exact S22 | exact S41) H ?_)); clear H; intro b1 w1 H)
            | ((with_reducible refine gEq ?_); (first | (refine wl_cmp rfl rfl rfl rfl ?_) | (refine wl_scmp rfl rfl rfl rfl ?_)); intro rb hrb; cases rb <;> (first | (exfalso; simp at hrb; done) | ((try simp only [decide_eq_true_eq, decide_eq_false_iff_not, beq_iff_eq, beq_eq_false_iff_ne, ne_eq, bne_iff_ne, bne_eq_false_iff_eq, Bool.not_eq_true', Bool.not_eq_false', gt_iff_lt, ge_iff_le, Int.not_lt, Int.not_le, Decidable.not_not] at hrb); (try subst hrb); (try (exfalso; omega)))))
            | ((with_reducible refine gAl ?_); (first | (refine al H Z33 rfl rfl ?_) | (refine al H Z110 rfl rfl ?_) | (refine al H Z122 rfl rfl ?_)); clear H; intro b1 w1 H)
            | ((with_reducible refine gRg ?_); refine wp_region_text rfl (by decide +kernel) ?_; replace H := H.drew)
            | ((with_reducible refine EndQ.intro ?_ ?_); (· kernel_rfl))
            | ((with_reducible refine gRg ?_); refine wp_region_UH H rfl (by decide +kernel) ?_; replace H := H.drew; repeat' (first | (refine twL_ldskip rfl ?_; (try simp only [Act.put, List.setIfInBounds_toArray, List.set_cons_succ, List.set_cons_zero])) | (refine twL_ld (fun u h => h) rfl rfl ?_; (first | (refine kLdB 0 rfl rfl (by first | exact T22 | exact T28 | exact T3) rfl ?_; intro rb hrb; cases rb <;> (first | (exfalso; simp at hrb; done) | ((try simp only [decide_eq_true_eq, decide_eq_false_iff_not, beq_iff_eq, beq_eq_false_iff_ne, ne_eq, bne_iff_ne, bne_eq_false_iff_eq, Bool.not_eq_true', Bool.not_eq_false', gt_iff_lt, ge_iff_le, Int.not_lt, Int.not_le, Decidable.not_not] at hrb); (try subst hrb); (try (exfalso; omega))))) | (refine kLdB 1 rfl rfl (by first | exact T22 | exact T28 | exact T3) rfl ?_; intro rb hrb; cases rb <;> (first | (exfalso; simp at hrb; done) | ((try simp only [decide_eq_true_eq, decide_eq_false_iff_not, beq_iff_eq, beq_eq_false_iff_ne, ne_eq, bne_iff_ne, bne_eq_false_iff_eq, Bool.not_eq_true', Bool.not_eq_false', gt_iff_lt, ge_iff_le, Int.not_lt, Int.not_le, Decidable.not_not] at hrb); (try subst hrb); (try (exfalso; omega))))) | (refine kLdB 2 rfl rfl (by first | exact T22 | exact T28 | exact T3) rfl ?_; intro rb hrb; cases rb <;> (first | (exfalso; simp at hrb; done) | ((try simp only [decide_eq_true_eq, decide_eq_false_iff_not, beq_iff_eq, beq_eq_false_iff_ne, ne_eq, bne_iff_ne, bne_eq_false_iff_eq, Bool.not_eq_true', Bool.not_eq_false', gt_iff_lt, ge_iff_le, Int.not_lt, Int.not_le, Decidable.not_not] at hrb); (try subst hrb); (try (exfalso; omega))))) | (refine kLd 0 rfl rfl (by first | exact T22 | exact T28 | exact T3) rfl ?_) | (refine kLd 1 rfl rfl (by first | exact T22 | exact T28 | exact T3) rfl ?_) | (refine kLd 2 rfl rfl (by first | exact T22 | exact T28 | exact T3) rfl ?_) | (refine kLdA 0 rfl rfl (by first | exact T22 | exact T28 | exact T3) (Nat.le_of_ble_eq_true rfl) (by simp only [Nd.cells, Nd.zero, eP, eE, List.drop_succ_cons, List.drop_zero, List.take_succ_cons, List.take_zero, List.set_cons_zero, List.set_cons_succ]; rfl) ?_) | (refine kLdA 1 rfl rfl (by first | exact T22 | exact T28 | exact T3) (Nat.le_of_ble_eq_true rfl) (by simp only [Nd.cells, Nd.zero, eP, eE, List.drop_succ_cons, List.drop_zero, List.take_succ_cons, List.take_zero, List.set_cons_zero, List.set_cons_succ]; rfl) ?_) | (refine kLdA 2 rfl rfl (by first | exact T22 | exact T28 | exact T3) (Nat.le_of_ble_eq_true rfl) (by simp only [Nd.cells, Nd.zero, eP, eE, List.drop_succ_cons, List.drop_zero, List.take_succ_cons, List.take_zero, List.set_cons_zero, List.set_cons_succ]; rfl) ?_)); (try simp only [Act.put, List.setIfInBounds_toArray, List.set_cons_succ, List.set_cons_zero])) | (refine twL_skip rfl rfl (H) ?_; (try simp only [Act.put, List.setIfInBounds_toArray, List.set_cons_succ, List.set_cons_zero])) | (refine twL_op rfl rfl ?_; intro K hK; first | ((with_reducible refine oBinG ?_); refine wp_run (run_neb rfl rfl) ?_; (first | refine hK _ _ (H) ?_); clear hK K; (try simp only [Act.put, List.setIfInBounds_toArray, List.set_cons_succ, List.set_cons_zero])) | ((with_reducible refine oStG ?_); (first | (refine oSt H rfl ⟨.int _ _, rfl, ?_⟩) | (refine oSt H rfl ⟨.bool _, rfl, ?_⟩) | (refine oSt H rfl ⟨.slice _ _ _, rfl, ?_⟩) | (refine oSt H rfl ⟨.pointer _, rfl, ?_⟩) | (refine oSt H rfl ⟨.string _, rfl, ?_⟩) | (refine oSt H rfl ⟨.agg (List.toArray _), rfl, ?_⟩)); (first | (refine kSt 0 rfl rfl (by first | exact T22 | exact T28 | exact T3) rfl (Nat.le_of_ble_eq_true rfl) ?_) | (refine kSt 1 rfl rfl (by first | exact T22 | exact T28 | exact T3) rfl (Nat.le_of_ble_eq_true rfl) ?_) | (refine kSt 2 rfl rfl (by first | exact T22 | exact T28 | exact T3) rfl (Nat.le_of_ble_eq_true rfl) ?_) | (refine kSt 3 rfl rfl (by first | exact T22 | exact T28 | exact T3) rfl (Nat.le_of_ble_eq_true rfl) ?_) | (refine kSt 4 rfl rfl (by first | exact T22 | exact T28 | exact T3) rfl (Nat.le_of_ble_eq_true rfl) ?_) | (refine kStA 0 rfl rfl (by first | exact T22 | exact T28 | exact T3) rfl rfl (Nat.le_of_ble_eq_true rfl) ?_) | (refine kStA 1 rfl rfl (by first | exact T22 | exact T28 | exact T3) rfl rfl (Nat.le_of_ble_eq_true rfl) ?_) | (refine kStA 2 rfl rfl (by first | exact T22 | exact T28 | exact T3) rfl rfl (Nat.le_of_ble_eq_true rfl) ?_) | (refine kStA 3 rfl rfl (by first | exact T22 | exact T28 | exact T3) rfl rfl (Nat.le_of_ble_eq_true rfl) ?_) | (refine kStA 4 rfl rfl (by first | exact T22 | exact T28 | exact T3) rfl rfl (Nat.le_of_ble_eq_true rfl) ?_)); clear H; intro w1 H; simp only [List.set_cons_zero, List.set_cons_succ] at H; (first | refine hK _ _ (H) ?_); clear hK K; (try simp only [Act.put, List.setIfInBounds_toArray, List.set_cons_succ, List.set_cons_zero])) | ((with_reducible refine oBinG ?_); (first | (refine oCmp rfl rfl rfl ?_) | (refine oScmp rfl rfl rfl ?_)); intro rb hrb; cases rb <;> (first | (exfalso; simp at hrb; done) | ((try simp only [decide_eq_true_eq, decide_eq_false_iff_not, beq_iff_eq, beq_eq_false_iff_ne, ne_eq, bne_iff_ne, bne_eq_false_iff_eq, Bool.not_eq_true', Bool.not_eq_false', gt_iff_lt, ge_iff_le, Int.not_lt, Int.not_le, Decidable.not_not] at hrb); (try subst hrb); (try (exfalso; omega)))) <;> ((first | refine hK _ _ (H) ?_); clear hK K; (try simp only [Act.put, List.setIfInBounds_toArray, List.set_cons_succ, List.set_cons_zero]))) | ((with_reducible refine oCallG ?_); go_simp; go_at_call 18; (with_reducible refine (K1 _ H).mono ?_); rintro e w1 ⟨rfl, H1⟩; clear H; have H := H1; clear H1; (try simp only []); (first | refine hK _ _ (H) ?_); clear hK K; (try simp only [Act.put, List.setIfInBounds_toArray, List.set_cons_succ, List.set_cons_zero])) | ((with_reducible refine oCallG ?_); go_simp; go_at_call 19; (with_reducible refine (K2 _ H).mono ?_); rintro e w1 ⟨rfl, H1⟩; clear H; have H := H1; clear H1; (try simp only []); (first | refine hK _ _ (H) ?_); clear hK K; (try simp only [Act.put, List.setIfInBounds_toArray, List.set_cons_succ, List.set_cons_zero])) | (go_simp; (first | refine hK _ _ (H) ?_); clear hK K)) | (refine twL_nil ?_; refine EndQ.intro (by kernel_rfl) ?_))))
        have hP : Pl w0 D [] (eQ q b2 s2 d2 cb2 cs2 cd2 l2 :: eQn b2 cb2 l2 :: eQs s2 cs2 l2 :: eQd d2 cd2 l2 :: R) p l2 _ := ⟨mb, a, c, back _ _ H⟩
        go_roundg (gk - 1)
        case measure => (have h9 := HKG.out; omega)
        case rel => exact ⟨k + 1, l2, b2, s2, d2, cb2, cs2, cd2, by go_num, by (have h9 := HKG.out; omega), HML2, hP⟩
      | some i =>
        go_upto_region 14 with ((first
            | ((with_reducible refine gLd ?_); refine wl_loadR (agg := true) (n := 7) (k := k * 7) (hP.gone.hp.old hO) rfl rfl (by first | rfl | omega) T33 HE.out ?_)
            | (go_at_call 14; ((refine (Has_at (n := n) hP HFI.out).mono ?_); rintro e w1 ⟨rfl, h1⟩; clear hP; have hP := h1; clear h1; (try simp only [hasV, numOf, Option.map_some, Option.map_none, Option.getD_some, Option.getD_none, Option.isSome_some, Option.isSome_none])))
            | (go_at_call 15; ((refine (rHas_pl (n := n) hP HL.out HFI.out).mono ?_); rintro e w1 ⟨rfl, h1⟩; clear hP; have hP := h1; clear h1; (try simp only [hasV, numOf, Option.map_some, Option.map_none, Option.getD_some, Option.getD_none, Option.isSome_some, Option.isSome_none])))
            | (go_at_call 16; ((refine (by_spec (n := n) bb hP HL.out HOK.out HMK.out).mono ?_); rintro e w1 ⟨rfl, h1⟩; clear hP; have hP := h1; clear h1))
            | (go_at_call 17; ((refine (rMake_pl (n := n) hP HL.out HOK.out HMK.out).mono ?_); rintro e w1 ⟨b2, s2, d2, cb2, cs2, cd2, rfl, h1⟩; clear hP; have hP := h1; clear h1))
            | ((with_reducible refine gLd ?_); refine eLd H rfl rfl ?_; first | (refine kLd 0 rfl rfl (by first | exact T3 | exact T4 | exact T9 | exact T28 | exact T31 | exact T34 | exact T78 | exact T79 | exact T61 | exact T33 | exact T110 | exact T122 | exact T81 | exact T43 | exact T22 | exact T41) rfl ?_) | (refine kLdA 0 rfl rfl (by first | exact T3 | exact T4 | exact T9 | exact T28 | exact T31 | exact T34 | exact T78 | exact T79 | exact T61 | exact T33 | exact T110 | exact T122 | exact T81 | exact T43 | exact T22 | exact T41) (Nat.le_of_ble_eq_true rfl) (by simp only [Nd.cells, Nd.zero, eP, eE, List.drop_succ_cons, List.drop_zero, List.take_succ_cons, List.take_zero, List.set_cons_zero, List.set_cons_succ]; rfl) ?_))
            | ((with_reducible refine gSt ?_); (first | (refine eSt H rfl rfl ⟨.int _ _, rfl, ?_⟩) | (refine eSt H rfl rfl ⟨.bool _, rfl, ?_⟩) | (refine eSt H rfl rfl ⟨.slice _ _ _, rfl, ?_⟩) | (refine eSt H rfl rfl ⟨.pointer _, rfl, ?_⟩) | (refine eSt H rfl rfl ⟨.string _, rfl, ?_⟩) | (refine eSt H rfl rfl ⟨.agg (List.toArray _), rfl, ?_⟩)); (first | (refine kSt 0 rfl rfl (by first | exact T3 | exact T4 | exact T9 | exact T28 | exact T31 | exact T34 | exact T78 | exact T79 | exact T61 | exact T33 | exact T110 | exact T122 | exact T81 | exact T43 | exact T22 | exact T41) rfl (Nat.le_of_ble_eq_true rfl) ?_) | (refine kStA 0 rfl rfl (by first | exact T3 | exact T4 | exact T9 | exact T28 | exact T31 | exact T34 | exact T78 | exact T79 | exact T61 | exact T33 | exact T110 | exact T122 | exact T81 | exact T43 | exact T22 | exact T41) rfl rfl (Nat.le_of_ble_eq_true rfl) ?_)); clear H; intro w1 H; simp only [List.set_cons_zero, List.set_cons_succ] at H; (try simp only [lay, List.take_zero, List.nil_append, List.length_cons, List.length_nil, Nat.zero_add, Nat.reduceAdd, List.drop_succ_cons, List.drop_zero, List.drop_nil, List.append_nil, List.take_succ_cons, List.cons_append] at H))
            | ((with_reducible refine gBx ?_); refine bxA H rfl rfl rfl ?_; clear H; intro b1 w1 H)
            | ((with_reducible refine gBs ?_); (first | (refine bs1 H rfl (by first | exact S61 | exact S22 | exact S41) rfl (Nat.le_of_ble_eq_true rfl) (Nat.le_of_ble_eq_true rfl) rfl ?_) | (refine wl_buildSlice0 rfl (by first | exact S61 | exact S22 | exact S41) H ?_)); clear H; intro b1 w1 H)
            | ((with_reducible refine gEq ?_); (first | (refine wl_cmp rfl rfl rfl rfl ?_) | (refine wl_scmp rfl rfl rfl rfl ?_)); intro rb hrb; cases rb <;> (first | (exfalso; simp at hrb; done) | ((try simp only [decide_eq_true_eq, decide_eq_false_iff_not, beq_iff_eq, beq_eq_false_iff_ne, ne_eq, bne_iff_ne, bne_eq_false_iff_eq, Bool.not_eq_true', Bool.not_eq_false', gt_iff_lt, ge_iff_le, Int.not_lt, Int.not_le, Decidable.not_not] at hrb); (try subst hrb); (try (exfalso; omega)))))
            | ((with_reducible refine gAl ?_); (first | (refine al H Z33 rfl rfl ?_) | (refine al H Z110 rfl rfl ?_) | (refine al H Z122 rfl rfl ?_)); clear H; intro b1 w1 H)
            | ((with_reducible refine gRg ?_); refine wp_region_text rfl (by decide +kernel) ?_; replace H := H.drew)
            | ((with_reducible refine EndQ.intro ?_ ?_); (· kernel_rfl))))
        have HPX := hP
        clear hP
        obtain ⟨mb, a, c, hg⟩ := HPX
        obtain ⟨wz, Dz, H, back⟩ := hg.open
        have K1 := onL H (fun u hu => num_spec hu er)
        have K2 := onL H (fun u hu => Len_at (i := 0) hu rfl)
        go_wp2_with (first
            | ((with_reducible refine gLd ?_); refine eLd H rfl rfl ?_; first | (refine kLd 0 rfl rfl (by first | exact T3 | exact T4 | exact T9 | exact T28 | exact T31 | exact T34 | exact T78 | exact T79 | exact T61 | exact T33 | exact T110 | exact T122 | exact T81 | exact T43 | exact T22 | exact T41) rfl ?_) | (refine kLdA 0 rfl rfl (by first | exact T3 | exact T4 | exact T9 | exact T28 | exact T31 | exact T34 | exact T78 | exact T79 | exact T61 | exact T33 | exact T110 | exact T122 | exact T81 | exact T43 | exact T22 | exact T41) (Nat.le_of_ble_eq_true rfl) (by simp only [Nd.cells, Nd.zero, eP, eE, List.drop_succ_cons, List.drop_zero, List.take_succ_cons, List.take_zero, List.set_cons_zero, List.set_cons_succ]; rfl) ?_))
            | ((with_reducible refine gSt ?_); (first | (refine eSt H rfl rfl ⟨.int _ _, rfl, ?_⟩) | (refine eSt H rfl rfl ⟨.bool _, rfl, ?_⟩) | (refine eSt H rfl rfl ⟨.slice _ _ _, rfl, ?_⟩) | (refine eSt H rfl rfl ⟨.pointer _, rfl, ?_⟩) | (refine eSt H rfl rfl ⟨.string _, rfl, ?_⟩) | (refine eSt H rfl rfl ⟨.agg (List.toArray _), rfl, ?_⟩)); (first | (refine kSt 0 rfl rfl (by first | exact T3 | exact T4 | exact T9 | exact T28 | exact T31 | exact T34 | exact T78 | exact T79 | exact T61 | exact T33 | exact T110 | exact T122 | exact T81 | exact T43 | exact T22 | exact T41) rfl (Nat.le_of_ble_eq_true rfl) ?_) | (refine kStA 0 rfl rfl (by first | exact T3 | exact T4 | exact T9 | exact T28 | exact T31 | exact T34 | exact T78 | exact T79 | exact T61 | exact T33 | exact T110 | exact T122 | exact T81 | exact T43 | exact T22 | exact T41) rfl rfl (Nat.le_of_ble_eq_true rfl) ?_)); clear H; intro w1 H; simp only [List.set_cons_zero, List.set_cons_succ] at H; (try simp only [lay, List.take_zero, List.nil_append, List.length_cons, List.length_nil, Nat.zero_add, Nat.reduceAdd, List.drop_succ_cons, List.drop_zero, List.drop_nil, List.append_nil, List.take_succ_cons, List.cons_append] at H))
            | ((with_reducible refine gBx ?_); refine bxA H rfl rfl rfl ?_; clear H; intro b1 w1 H)
            | ((with_reducible refine gBs ?_); (first | (refine bs1 H rfl (by first | exact S61 | exact S22 | exact S41) rfl (Nat.le_of_ble_eq_true rfl) (Nat.le_of_ble_eq_true rfl) rfl ?_) | (refine wl_buildSlice0 rfl (by first | exact S61 | exact S22 | exact S41) H ?_)); clear H; intro b1 w1 H)
            | ((with_reducible refine gEq ?_); (first | (refine wl_cmp rfl rfl rfl rfl ?_) | (refine wl_scmp rfl rfl rfl rfl ?_)); intro rb hrb; cases rb <;> (first | (exfalso; simp at hrb; done) | ((try simp only [decide_eq_true_eq, decide_eq_false_iff_not, beq_iff_eq, beq_eq_false_iff_ne, ne_eq, bne_iff_ne, bne_eq_false_iff_eq, Bool.not_eq_true', Bool.not_eq_false', gt_iff_lt, ge_iff_le, Int.not_lt, Int.not_le, Decidable.not_not] at hrb); (try subst hrb); (try (exfalso; omega)))))
            | ((with_reducible refine gAl ?_); (first | (refine al H Z33 rfl rfl ?_) | (refine al H Z110 rfl rfl ?_) | (refine al H Z122 rfl rfl ?_)); clear H; intro b1 w1 H)
            | ((with_reducible refine gRg ?_); refine wp_region_text rfl (by decide +kernel) ?_; replace H := H.drew)
            | ((with_reducible refine EndQ.intro ?_ ?_); (· kernel_rfl))
            | ((with_reducible refine gRg ?_); refine wp_region_UH H rfl (by decide +kernel) ?_; replace H := H.drew; repeat' (first | (refine twL_ldskip rfl ?_; (try simp only [Act.put, List.setIfInBounds_toArray, List.set_cons_succ, List.set_cons_zero])) | (refine twL_ld (fun u h => h) rfl rfl ?_; (first | (refine kLdB 0 rfl rfl (by first | exact T22 | exact T28 | exact T3) rfl ?_; intro rb hrb; cases rb <;> (first | (exfalso; simp at hrb; done) | ((try simp only [decide_eq_true_eq, decide_eq_false_iff_not, beq_iff_eq, beq_eq_false_iff_ne, ne_eq, bne_iff_ne, bne_eq_false_iff_eq, Bool.not_eq_true', Bool.not_eq_false', gt_iff_lt, ge_iff_le, Int.not_lt, Int.not_le, Decidable.not_not] at hrb); (try subst hrb); (try (exfalso; omega))))) | (refine kLdB 1 rfl rfl (by first | exact T22 | exact T28 | exact T3) rfl ?_; intro rb hrb; cases rb <;> (first | (exfalso; simp at hrb; done) | ((try simp only [decide_eq_true_eq, decide_eq_false_iff_not, beq_iff_eq, beq_eq_false_iff_ne, ne_eq, bne_iff_ne, bne_eq_false_iff_eq, Bool.not_eq_true', Bool.not_eq_false', gt_iff_lt, ge_iff_le, Int.not_lt, Int.not_le, Decidable.not_not] at hrb); (try subst hrb); (try (exfalso; omega))))) | (refine kLdB 2 rfl rfl (by first | exact T22 | exact T28 | exact T3) rfl ?_; intro rb hrb; cases rb <;> (first | (exfalso; simp at hrb; done) | ((try simp only [decide_eq_true_eq, decide_eq_false_iff_not, beq_iff_eq, beq_eq_false_iff_ne, ne_eq, bne_iff_ne, bne_eq_false_iff_eq, Bool.not_eq_true', Bool.not_eq_false', gt_iff_lt, ge_iff_le, Int.not_lt, Int.not_le, Decidable.not_not] at hrb); (try subst hrb); (try (exfalso; omega))))) | (refine kLd 0 rfl rfl (by first | exact T22 | exact T28 | exact T3) rfl ?_) | (refine kLd 1 rfl rfl (by first | exact T22 | exact T28 | exact T3) rfl ?_) | (refine kLd 2 rfl rfl (by first | exact T22 | exact T28 | exact T3) rfl ?_) | (refine kLdA 0 rfl rfl (by first | exact T22 | exact T28 | exact T3) (Nat.le_of_ble_eq_true rfl) (by simp only [Nd.cells, Nd.zero, eP, eE, List.drop_succ_cons, List.drop_zero, List.take_succ_cons, List.take_zero, List.set_cons_zero, List.set_cons_succ]; rfl) ?_) | (refine kLdA 1 rfl rfl (by first | exact T22 | exact T28 | exact T3) (Nat.le_of_ble_eq_true rfl) (by simp only [Nd.cells, Nd.zero, eP, eE, List.drop_succ_cons, List.drop_zero, List.take_succ_cons, List.take_zero, List.set_cons_zero, List.set_cons_succ]; rfl) ?_) | (refine kLdA 2 rfl rfl (by first | exact T22 | exact T28 | exact T3) (Nat.le_of_ble_eq_true rfl) (by simp only [Nd.cells, Nd.zero, eP, eE, List.drop_succ_cons, List.drop_zero, List.take_succ_cons, List.take_zero, List.set_cons_zero, List.set_cons_succ]; rfl) ?_)); (try simp only [Act.put, List.setIfInBounds_toArray, List.set_cons_succ, List.set_cons_zero])) | (refine twL_skip rfl rfl (H) ?_; (try simp only [Act.put, List.setIfInBounds_toArray, List.set_cons_succ, List.set_cons_zero])) | (refine twL_op rfl rfl ?_; intro K hK; first | ((with_reducible refine oBinG ?_); refine wp_run (run_neb rfl rfl) ?_; (first | refine hK _ _ (H) ?_); clear hK K; (try simp only [Act.put, List.setIfInBounds_toArray, List.set_cons_succ, List.set_cons_zero])) | ((with_reducible refine oStG ?_); (first | (refine oSt H rfl ⟨.int _ _, rfl, ?_⟩) | (refine oSt H rfl ⟨.bool _, rfl, ?_⟩) | (refine oSt H rfl ⟨.slice _ _ _, rfl, ?_⟩) | (refine oSt H rfl ⟨.pointer _, rfl, ?_⟩) | (refine oSt H rfl ⟨.string _, rfl, ?_⟩) | (refine oSt H rfl ⟨.agg (List.toArray _), rfl, ?_⟩)); (first | (refine kSt 0 rfl rfl (by first | exact T22 | exact T28 | exact T3) rfl (Nat.le_of_ble_eq_true rfl) ?_) | (refine kSt 1 rfl rfl (by first | exact T22 | exact T28 | exact T3) rfl (Nat.le_of_ble_eq_true rfl) ?_) | (refine kSt 2 rfl rfl (by first | exact T22 | exact T28 | exact T3) rfl (Nat.le_of_ble_eq_true rfl) ?_) | (refine kSt 3 rfl rfl (by first | exact T22 | exact T28 | exact T3) rfl (Nat.le_of_ble_eq_true rfl) ?_) | (refine kSt 4 rfl rfl (by first | exact T22 | exact T28 | exact T3) rfl (Nat.le_of_ble_eq_true rfl) ?_) | (refine kStA 0 rfl rfl (by first | exact T22 | exact T28 | exact T3) rfl rfl (Nat.le_of_ble_eq_true rfl) ?_) | (refine kStA 1 rfl rfl (by first | exact T22 | exact T28 | exact T3) rfl rfl (Nat.le_of_ble_eq_true rfl) ?_) | (refine kStA 2 rfl rfl (by first | exact T22 | exact T28 | exact T3) rfl rfl (Nat.le_of_ble_eq_true rfl) ?_) | (refine kStA 3 rfl rfl (by first | exact T22 | exact T28 | exact T3) rfl rfl (Nat.le_of_ble_eq_true rfl) ?_) | (refine kStA 4 rfl rfl (by first | exact T22 | exact T28 | exact T3) rfl rfl (Nat.le_of_ble_eq_true rfl) ?_)); clear H; intro w1 H; simp only [List.set_cons_zero, List.set_cons_succ] at H; (first | refine hK _ _ (H) ?_); clear hK K; (try simp only [Act.put, List.setIfInBounds_toArray, List.set_cons_succ, List.set_cons_zero])) | ((with_reducible refine oBinG ?_); (first | (refine oCmp rfl rfl rfl ?_) | (refine oScmp rfl rfl rfl ?_)); intro rb hrb; cases rb <;> (first | (exfalso; simp at hrb; done) | ((try simp only [decide_eq_true_eq, decide_eq_false_iff_not, beq_iff_eq, beq_eq_false_iff_ne, ne_eq, bne_iff_ne, bne_eq_false_iff_eq, Bool.not_eq_true', Bool.not_eq_false', gt_iff_lt, ge_iff_le, Int.not_lt, Int.not_le, Decidable.not_not] at hrb); (try subst hrb); (try (exfalso; omega)))) <;> ((first | refine hK _ _ (H) ?_); clear hK K; (try simp only [Act.put, List.setIfInBounds_toArray, List.set_cons_succ, List.set_cons_zero]))) | ((with_reducible refine oCallG ?_); go_simp; go_at_call 18; (with_reducible refine (K1 _ H).mono ?_); rintro e w1 ⟨rfl, H1⟩; clear H; have H := H1; clear H1; (try simp only []); (first | refine hK _ _ (H) ?_); clear hK K; (try simp only [Act.put, List.setIfInBounds_toArray, List.set_cons_succ, List.set_cons_zero])) | ((with_reducible refine oCallG ?_); go_simp; go_at_call 19; (with_reducible refine (K2 _ H).mono ?_); rintro e w1 ⟨rfl, H1⟩; clear H; have H := H1; clear H1; (try simp only []); (first | refine hK _ _ (H) ?_); clear hK K; (try simp only [Act.put, List.setIfInBounds_toArray, List.set_cons_succ, List.set_cons_zero])) | (go_simp; (first | refine hK _ _ (H) ?_); clear hK K)) | (refine twL_nil ?_; refine EndQ.intro (by kernel_rfl) ?_))))
        have hP : Pl w0 D [] (eQ q b2 s2 d2 cb2 cs2 cd2 l2 :: eQn b2 cb2 l2 :: eQs s2 cs2 l2 :: eQd d2 cd2 l2 :: R) p l2 _ := ⟨mb, a, c, back _ _ H⟩
        go_roundg (gk - 1)
        case measure => (have h9 := HKG.out; omega)
        case rel => exact ⟨k + 1, l2, b2, s2, d2, cb2, cs2, cd2, by go_num, by (have h9 := HKG.out; omega), HML2, hP⟩
    · obtain rfl : k = N := by omega
      clear hkg
      go_wp2_with (first
    | (go_at_call 20; ((refine (alike_pl hP HL.out).mono ?_); rintro e w1 ⟨rfl, h1⟩; clear hP; have hP := h1; clear h1))
    | (go_at_call 21; (refine (Size_pl hP HL.out _).mono ?_; rintro e w1 ⟨rfl, h1⟩; clear hP; have hP := h1; clear h1; rw [sizeP_neg]))
    | (go_at_call 22; (refine (Depth_pl hP HL.out _).mono ?_; rintro e w1 ⟨rfl, h1⟩; clear hP; have hP := h1; clear h1; rw [deepP_big HL.out]))
    | (go_at_call 11; ((refine (live_hp (hP.gone.hp)).mono ?_); rintro e w1 ⟨rfl, H1⟩))
    | ((with_reducible refine gLd ?_); refine eLd H rfl rfl ?_; first | (refine kLd 0 rfl rfl (by first | exact T3 | exact T4 | exact T9 | exact T28 | exact T31 | exact T34 | exact T78 | exact T79 | exact T61 | exact T33 | exact T110 | exact T122 | exact T81 | exact T43 | exact T22 | exact T41) rfl ?_) | (refine kLdA 0 rfl rfl (by first | exact T3 | exact T4 | exact T9 | exact T28 | exact T31 | exact T34 | exact T78 | exact T79 | exact T61 | exact T33 | exact T110 | exact T122 | exact T81 | exact T43 | exact T22 | exact T41) (Nat.le_of_ble_eq_true rfl) (by simp only [Nd.cells, Nd.zero, eP, eE, List.drop_succ_cons, List.drop_zero, List.take_succ_cons, List.take_zero, List.set_cons_zero, List.set_cons_succ]; rfl) ?_))
    | ((with_reducible refine gSt ?_); (first | (refine eSt H rfl rfl ⟨.int _ _, rfl, ?_⟩) | (refine eSt H rfl rfl ⟨.bool _, rfl, ?_⟩) | (refine eSt H rfl rfl ⟨.slice _ _ _, rfl, ?_⟩) | (refine eSt H rfl rfl ⟨.pointer _, rfl, ?_⟩) | (refine eSt H rfl rfl ⟨.string _, rfl, ?_⟩) | (refine eSt H rfl rfl ⟨.agg (List.toArray _), rfl, ?_⟩)); (first | (refine kSt 0 rfl rfl (by first | exact T3 | exact T4 | exact T9 | exact T28 | exact T31 | exact T34 | exact T78 | exact T79 | exact T61 | exact T33 | exact T110 | exact T122 | exact T81 | exact T43 | exact T22 | exact T41) rfl (Nat.le_of_ble_eq_true rfl) ?_) | (refine kStA 0 rfl rfl (by first | exact T3 | exact T4 | exact T9 | exact T28 | exact T31 | exact T34 | exact T78 | exact T79 | exact T61 | exact T33 | exact T110 | exact T122 | exact T81 | exact T43 | exact T22 | exact T41) rfl rfl (Nat.le_of_ble_eq_true rfl) ?_)); clear H; intro w1 H; simp only [List.set_cons_zero, List.set_cons_succ] at H; (try simp only [lay, List.take_zero, List.nil_append, List.length_cons, List.length_nil, Nat.zero_add, Nat.reduceAdd, List.drop_succ_cons, List.drop_zero, List.drop_nil, List.append_nil, List.take_succ_cons, List.cons_append] at H))
    | ((with_reducible refine gBx ?_); refine bxA H rfl rfl rfl ?_; clear H; intro b1 w1 H)
    | ((with_reducible refine gBs ?_); (first | (refine bs1 H rfl (by first | exact S61 | exact S22 | exact S41) rfl (Nat.le_of_ble_eq_true rfl) (Nat.le_of_ble_eq_true rfl) rfl ?_) | (refine wl_buildSlice0 rfl (by first | exact S61 | exact S22 | exact S41) H ?_)); clear H; intro b1 w1 H)
    | ((with_reducible refine gEq ?_); (first | (refine wl_cmp rfl rfl rfl rfl ?_) | (refine wl_scmp rfl rfl rfl rfl ?_)); intro rb hrb; cases rb <;> (first | (exfalso; simp at hrb; done) | ((try simp only [decide_eq_true_eq, decide_eq_false_iff_not, beq_iff_eq, beq_eq_false_iff_ne, ne_eq, bne_iff_ne, bne_eq_false_iff_eq, Bool.not_eq_true', Bool.not_eq_false', gt_iff_lt, ge_iff_le, Int.not_lt, Int.not_le, Decidable.not_not] at hrb); (try subst hrb); (try (exfalso; omega)))))
    | ((with_reducible refine gAl ?_); (first | (refine al H Z33 rfl rfl ?_) | (refine al H Z110 rfl rfl ?_) | (refine al H Z122 rfl rfl ?_)); clear H; intro b1 w1 H)
    | ((with_reducible refine gRg ?_); refine wp_region_text rfl (by decide +kernel) ?_; replace H := H.drew)
    | ((with_reducible refine EndQ.intro ?_ ?_); (· kernel_rfl)))
      go_ret
      exact ⟨rfl, _, H1⟩
end Go.Proofs.Ytebecelhcpljaaa
