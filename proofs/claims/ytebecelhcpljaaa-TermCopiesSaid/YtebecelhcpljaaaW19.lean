/- TermMakes: what the law computes. -/
import Derived.Test.YtebecelhcpljaaaW16
import Derived.Test.YtebecelhcpljaaaW17
import Derived.Test.YtebecelhcpljaaaW11
import Derived.Test.YtebecelhcpljaaaGxRd
import Derived.Deep.Cut
import Derived.WalkKit
import Derived.Lib.Hide
import Derived.Deep.LoopGhost
import Derived.WalkSpells
set_option linter.unusedVariables false
set_option linter.unusedSimpArgs false
namespace Go.Proofs.Ytebecelhcpljaaa
open Go.RowKit Go.Gx Go.Gx.Trm
set_option maxRecDepth 100000
theorem rMake_spec {w0 w : World} {D : Nat → Prop} {R : List Ent} {p : Nat} {b s d : Option Nat} {cb cs cd : Nat} {l l2 : List En} {n : Nd} {t er : Int} (H : Hp w0 D (eQ p b s d cb cs cd l :: eQn b cb l :: eQs s cs l :: eQd d cd l :: R) w) (hl : l.length ≤ 65536) (hok : okP l) (hm : makeE l n = (l2, t, er)) :
    Calls Try.prog 17 #[.pointer (some ⟨p, 0, none⟩), .agg n.cells.toArray] w fun e w' => RMkP w0 D R p l2 t er e w' := by
  have hA := sizeP_le hok n.a
  have hB := sizeP_le hok n.b
  have hC := deepP_le hok n.a
  have hD := deepP_le hok n.b
  unfold makeE at hm
  by_cases hs : shapeE n = 0
  · have hk := kidsN_le n.kind
    cases hmi : missE l n with
    | true =>
      have hc : checkE l n = 51 := by unfold checkE; rw [if_neg (by simpa using hs), hmi, if_pos rfl]
      rw [if_pos (by rw [hc]; decide), hc] at hm
      cases hm
      unfold missE at hmi
      cases hia : inP l n.a with
      | false =>
        by_cases h1 : 1 ≤ kidsN n.kind
        · exact rMk_missA H hs rfl h1 hia
        · have h0 : kidsN n.kind = 0 := by omega
          rw [h0] at hmi; simp at hmi
      | true =>
        rw [hia] at hmi
        simp at hmi
        exact rMk_missB H hs hmi.1 hia hmi.2
    | false =>
      have hg : kidsN n.kind = 0 ∨ (kidsN n.kind = 1 ∧ inP l n.a = true) ∨ (kidsN n.kind = 2 ∧ inP l n.a = true ∧ inP l n.b = true) := by
        unfold missE at hmi
        have h3 : kidsN n.kind = 0 ∨ kidsN n.kind = 1 ∨ kidsN n.kind = 2 := by omega
        rcases h3 with h | h | h
        · exact .inl h
        · rw [h] at hmi; simp at hmi; exact .inr (.inl ⟨h, hmi⟩)
        · rw [h] at hmi; simp at hmi; exact .inr (.inr ⟨h, hmi.1, hmi.2⟩)
      have hm0 : 0 ≤ max (deepP l n.a) (deepP l n.b) := by omega
      have hm1 : max (deepP l n.a) (deepP l n.b) ≤ 64 := by omega
      by_cases hbA : 4096 < 1 + sizeP l n.a + sizeP l n.b
      · have hc : checkE l n = 52 := by unfold checkE bigS; rw [if_neg (by simpa using hs), hmi, if_neg (by decide), if_pos (.inl hbA)]
        rw [if_pos (by rw [hc]; decide), hc] at hm
        cases hm
        exact rMk_bigA H hs hg hl rfl rfl rfl rfl rfl hA.1 hA.2 hB.1 hB.2 hm0 hm1 hbA
      by_cases hbB : 64 < 1 + max (deepP l n.a) (deepP l n.b)
      · have hc : checkE l n = 52 := by unfold checkE bigD; rw [if_neg (by simpa using hs), hmi, if_neg (by decide), if_pos (.inr hbB)]
        rw [if_pos (by rw [hc]; decide), hc] at hm
        cases hm
        exact rMk_bigB H hs hg hl rfl rfl rfl rfl rfl hA.1 hA.2 hB.1 hB.2 hm0 hm1 (by omega) hbB
      have hc : checkE l n = 0 := by unfold checkE bigS bigD; rw [if_neg (by simpa using hs), hmi, if_neg (by decide), if_neg (by omega)]
      rw [if_neg (by simpa using hc)] at hm
      cases hf : findN l n 0 with
      | some i =>
        rw [hf] at hm
        cases hm
        exact rMk_hit H hs hg hl rfl rfl rfl rfl rfl hA.1 hA.2 hB.1 hB.2 hm0 hm1 (by omega) (by omega) hf
      | none =>
        rw [hf] at hm
        by_cases h6 : 65536 ≤ l.length
        · simp only [if_pos h6] at hm
          cases hm
          exact rMk_full H hs hg hl rfl rfl rfl rfl rfl hA.1 hA.2 hB.1 hB.2 hm0 hm1 (by omega) (by omega) hf h6
        · simp only [if_neg h6] at hm
          cases hm
          exact rMk_new H hs hg hl rfl rfl rfl rfl rfl hA.1 hA.2 hB.1 hB.2 hm0 hm1 (by omega) (by omega) hf (by omega) rfl rfl
  · have hc : checkE l n = shapeE n := by unfold checkE; rw [if_pos hs]
    rw [if_pos (by rw [hc]; exact hs), hc] at hm
    cases hm
    exact rMk_shape H rfl hs
theorem rHas_pl {W w : World} {E : Nat → Prop} {M : List (Nat × List (Value × Value))} {L : List Ent} {p : Nat} {l : List En} {q : Nat} {b s d : Option Nat} {cb cs cd : Nat} {r : Option Nat} {n : Nd} {l2 : List En} (h : Pl W E M (eQ q b s d cb cs cd l2 :: eQn b cb l2 :: eQs s cs l2 :: eQd d cd l2 :: L) p l w) (hl : l2.length ≤ 65536) (hr : findN l2 n 0 = r) :
    Calls Try.prog 15 #[.pointer (some ⟨q, 0, none⟩), .agg n.cells.toArray] w fun e w' => e = .returned (hasV r) ∧ Pl W E M (eQ q b s d cb cs cd l2 :: eQn b cb l2 :: eQs s cs l2 :: eQd d cd l2 :: L) p l w' := by
  obtain ⟨mb, a, c, h⟩ := h
  obtain ⟨w0, D, H, back⟩ := h.open
  exact (rHas_at (i := 2) (j := 3) H rfl rfl hl hr).mono fun e w' hh => ⟨hh.1, mb, a, c, back _ _ hh.2⟩
def RMkL (W : World) (E : Nat → Prop) (M : List (Nat × List (Value × Value))) (L : List Ent) (p q : Nat) (l l2 : List En) (t er : Int) (e : Ending) (w' : World) : Prop :=
  ∃ (b s d : Option Nat) (cb cs cd : Nat), e = .returned (.tuple #[.int .i64 t, .int .i64 er]) ∧ Pl W E M (eQ q b s d cb cs cd l2 :: eQn b cb l2 :: eQs s cs l2 :: eQd d cd l2 :: L) p l w'
theorem rMake_pl {W w : World} {E : Nat → Prop} {M : List (Nat × List (Value × Value))} {L : List Ent} {p : Nat} {l : List En} {q : Nat} {b s d : Option Nat} {cb cs cd : Nat} {n : Nd} {l1 l2 : List En} {t er : Int} (h : Pl W E M (eQ q b s d cb cs cd l1 :: eQn b cb l1 :: eQs s cs l1 :: eQd d cd l1 :: L) p l w) (hl : l1.length ≤ 65536) (hok : okP l1) (hm : makeE l1 n = (l2, t, er)) :
    Calls Try.prog 17 #[.pointer (some ⟨q, 0, none⟩), .agg n.cells.toArray] w fun e w' => RMkL W E M L p q l l2 t er e w' := by
  obtain ⟨mb, a, c, h⟩ := h
  obtain ⟨w0, D, H, back⟩ := h.open
  refine (rMake_spec (H.swap (A := [_, _]) (B := [_, _, _, _])) hl hok hm).mono fun e w' hh => ?_
  obtain ⟨b, s, d, cb, cs, cd, he, h2⟩ := hh
  exact ⟨b, s, d, cb, cs, cd, he, mb, a, c, back _ _ (h2.swap (A := [_, _, _, _]) (B := [_, _]))⟩
theorem alike_pl {W w : World} {E : Nat → Prop} {M : List (Nat × List (Value × Value))} {L : List Ent} {p : Nat} {l : List En} {q : Nat} {b s d : Option Nat} {cb cs cd : Nat} (h : Pl W E M (eQ q b s d cb cs cd l :: eQn b cb l :: eQs s cs l :: eQd d cd l :: L) p l w) (hl : l.length ≤ 65536) :
    Calls Try.prog 20 #[.pointer (some ⟨p, 0, none⟩), .pointer (some ⟨q, 0, none⟩)] w fun e w' => e = .returned (.bool true) ∧ Pl W E M (eQ q b s d cb cs cd l :: eQn b cb l :: eQs s cs l :: eQd d cd l :: L) p l w' := by
  obtain ⟨mb, a, c, h⟩ := h
  obtain ⟨w0, D, H, back⟩ := h.open
  exact (alike_spec H hl).mono fun e w' hh => ⟨hh.1, mb, a, c, back _ _ hh.2⟩
def RNewL (W : World) (E : Nat → Prop) (M : List (Nat × List (Value × Value))) (L : List Ent) (p : Nat) (l : List En) (e : Ending) (w' : World) : Prop :=
  ∃ q, e = .returned (.pointer (some ⟨q, 0, none⟩)) ∧ Pl W E M (eQ q none none none 0 0 0 [] :: eQn none 0 [] :: eQs none 0 [] :: eQd none 0 [] :: L) p l w'
theorem rNew_pl {W w : World} {E : Nat → Prop} {M : List (Nat × List (Value × Value))} {L : List Ent} {p : Nat} {l : List En} (h : Pl W E M L p l w) : Calls Try.prog 13 #[] w fun e w' => RNewL W E M L p l e w' := by
  obtain ⟨mb, a, c, h⟩ := h
  obtain ⟨w0, D, H, back⟩ := h.open
  refine (rNew_spec H).mono fun e w' hh => ?_
  obtain ⟨q, he, h2⟩ := hh
  exact ⟨q, he, mb, a, c, back _ _ (h2.swap (A := [_, _, _, _]) (B := [_, _]))⟩
theorem live_hp {w0 w : World} {D : Nat → Prop} {R : List Ent} (H : Hp w0 D R w) : Calls Try.prog 11 #[] w fun e w' => e = .returned (.bool true) ∧ Hp w0 D R w' :=
  (live_spec (Hg.of H)).mono fun e w' h => ⟨h.1, h.2.hp⟩
end Go.Proofs.Ytebecelhcpljaaa
