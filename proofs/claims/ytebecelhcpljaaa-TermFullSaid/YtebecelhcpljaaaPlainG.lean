/- Layer 5: a whole tree, grown in an empty pool and in one that is nearly full. No program in sight. -/
import Derived.Test.YtebecelhcpljaaaPlainF
set_option linter.unusedVariables false
set_option linter.unusedSimpArgs false
namespace Go.Gx.Trm
open Go.Gx
mutual
def Pt.pos : Pt → Prop | .mk _ _ _ n _ ks => 0 ≤ n ∧ posL ks
def posL : List Pt → Prop | [] => True | x :: xs => x.pos ∧ posL xs
end
def SimG (m left : Nat) (t : Pt) (lq mp : List En) : Prop :=
  ∃ (mq : List En) (kq : Int), growT t lq = (lq ++ mq, kq, 0) ∧ inP (lq ++ mq) kq = true ∧ sizeP (lq ++ mq) kq = t.size ∧ deepP (lq ++ mq) kq = t.depth ∧ treeP (lq ++ mq) kq = t ∧ wfP (lq ++ mq) ∧ mq.length ≤ t.size ∧
    MadeBoth m left lq mp mq (growT t (numsB m ++ mp)) t.size t.depth t
theorem both_mono {m left : Nat} {lq mq mq2 : List En} {r : List En × Int × Int} (h : r.2.2 = 6 ∧ left < freshN m (lq ++ mq)) : r.2.2 = 6 ∧ left < freshN m (lq ++ (mq ++ mq2)) := by
  have := freshN_le m (lq ++ mq) mq2
  rw [List.append_assoc] at this
  exact ⟨h.1, by omega⟩
set_option maxHeartbeats 4000000 in
theorem sim_grow {m left : Nat} (hml : m + left = 65536) : ∀ (t : Pt) (lq mp : List En), wfP lq → wfP (numsB m ++ mp) → Sim m lq mp → t.good → t.pos → t.size ≤ 4096 → t.depth ≤ 64 → lq.length + t.size ≤ 65536 → SimG m left t lq mp := by
  intro t
  induction t using Pt.ind with
  | h t ih =>
  obtain ⟨k, f, d, nu, tx, ks⟩ := t
  intro lq mp hwq hwp hS hg hp hs hd hr
  simp only [Pt.good] at hg
  obtain ⟨hh, hg⟩ := hg
  simp only [Pt.pos] at hp
  obtain ⟨h0, hp⟩ := hp
  obtain ⟨ho, hk, hf⟩ := head_ok hh
  have hk : kidsN k = (ks.length : Int) := hk
  simp only [Pt.size] at hs hr
  simp only [Pt.depth] at hd
  match ks, hh, hk, hg, hp, hs, hr, hd, ih with
  | [], hh, hk, hg, hp, hs, hr, hd, ih =>
    have hk0 : kidsN k = 0 := by simpa using hk
    have hsh : shapeE ⟨k, f, d, nu, tx, 0, 0⟩ = 0 := shape_of (a := 0) (b := 0) hh (fun _ => rfl) (fun _ => rfl)
    have hz : ∀ l, sizeP l 0 = 0 ∧ deepP l 0 = 0 := fun l => by simp [sizeP, deepP, entP_no (show inP l 0 = false by unfold inP; simp)]
    have hS1 : ∀ l, bigS l ⟨k, f, d, nu, tx, 0, 0⟩ = 1 := fun l => by simp [bigS, (hz l).1]
    have hD1 : ∀ l, bigD l ⟨k, f, d, nu, tx, 0, 0⟩ = 1 := fun l => by simp [bigD, (hz l).2]
    have hM : ∀ l, missE l ⟨k, f, d, nu, tx, 0, 0⟩ = false := fun l => by unfold missE; simp [hk0]
    have hT : ∀ l, nodeT l ⟨k, f, d, nu, tx, 0, 0⟩ = .mk k f d nu tx [] := fun l => by simp [nodeT, hk0]
    simp only [sizeL] at hr
    obtain ⟨mq, kq, e1, e2⟩ := sim_make hml hwq hwp hS hsh hsh (hM _) (hM _) (by rw [hS1]; omega) (by rw [hD1]; omega) (by rw [hS1]; omega) (by rw [hD1]; omega) (by rw [hT, hT]) (by omega) h0
    obtain ⟨m9, k9, g1, g2, g3, g4, g5⟩ := make_node hwq hsh (hM _) (by rw [hS1]; omega) (by rw [hD1]; omega) (.inl (by omega))
    rw [e1] at g1
    simp only [Prod.mk.injEq, List.append_cancel_left_eq] at g1
    obtain ⟨rfl, rfl, _⟩ := g1
    have hw2 : wfP (lq ++ mq) := by have := wfP_make (n := ⟨k, f, d, nu, tx, 0, 0⟩) hwq; rw [e1] at this; exact this
    have hl9 : mq.length ≤ 1 := by obtain ⟨m', q1, q2⟩ := make_app lq ⟨k, f, d, nu, tx, 0, 0⟩; rw [e1] at q1; have := List.append_cancel_left q1; subst this; exact q2
    refine ⟨mq, kq, by simpa only [growT, growK] using e1, g2, ?_, ?_, ?_, hw2, by simp only [Pt.size, sizeL]; omega, ?_⟩
    · rw [g3, hS1]; simp [Pt.size, sizeL]
    · rw [g4, hD1]; simp [Pt.depth, depthL]
    · rw [g5]; simp [hk0]
    · rw [hS1, hD1, hT] at e2
      simp only [growT, growK]
      exact e2
  | [x], hh, hk, hg, hp, hs, hr, hd, ih =>
    have hk1 : kidsN k = 1 := by simpa using hk
    simp only [goodL] at hg
    simp only [posL] at hp
    simp only [sizeL, depthL] at hs hr hd
    obtain ⟨m1, a, g1, g2, g3, g4, g5, hw1, hl1, hb1⟩ := ih x (by simp [Pt.kids]) lq mp hwq hwp hS hg.1 hp.1 (by omega) (by omega) (by omega)
    have hz : ∀ l, sizeP l 0 = 0 ∧ deepP l 0 = 0 := fun l => by simp [sizeP, deepP, entP_no (show inP l 0 = false by unfold inP; simp)]
    have hsh : ∀ a, shapeE ⟨k, f, d, nu, tx, a, 0⟩ = 0 := fun a => shape_of (a := a) (b := 0) hh (fun h => by simp at h) (fun _ => rfl)
    have hM : ∀ {l a}, inP l a = true → missE l ⟨k, f, d, nu, tx, a, 0⟩ = false := fun h => by unfold missE; simp [hk1, h]
    have hSz : ∀ {l a}, sizeP l a = x.size → bigS l ⟨k, f, d, nu, tx, a, 0⟩ = x.size + 1 := fun {l a} h => by simp only [bigS, (hz l).1, h]; omega
    have hDp : ∀ {l a}, deepP l a = x.depth → bigD l ⟨k, f, d, nu, tx, a, 0⟩ = x.depth + 1 := fun {l a} h => by simp only [bigD, (hz l).2, h]; omega
    have hT : ∀ {l a}, treeP l a = x → nodeT l ⟨k, f, d, nu, tx, a, 0⟩ = .mk k f d nu tx [x] := fun h => by simp [nodeT, hk1, h]
    have hrq : (lq ++ m1).length < 65536 := by simp only [List.length_append]; omega
    obtain ⟨m9, k9, j1, j2, j3, j4, j5⟩ := make_node hw1 (hsh a) (hM g2) (by rw [hSz g3]; omega) (by rw [hDp g4]; omega) (.inl hrq)
    have hgq : growT (.mk k f d nu tx [x]) lq = (lq ++ (m1 ++ m9), k9, 0) := by
      simp only [growT, growK, g1, setK, if_true]; rw [j1, List.append_assoc]
    have hw9 : wfP (lq ++ (m1 ++ m9)) := by have := grow_wf (.mk k f d nu tx [x]) lq hwq; rw [hgq] at this; exact this
    have hl9 : (m1 ++ m9).length ≤ (Pt.mk k f d nu tx [x]).size := by obtain ⟨m', q1, q2⟩ := grow_app (.mk k f d nu tx [x]) lq; rw [hgq] at q1; have := List.append_cancel_left q1; subst this; exact q2
    refine ⟨m1 ++ m9, k9, hgq, by rw [← List.append_assoc]; exact j2, ?_, ?_, ?_, hw9, hl9, ?_⟩
    · rw [← List.append_assoc, j3, hSz g3]; simp [Pt.size, sizeL]
    · rw [← List.append_assoc, j4, hDp g4]; simp only [Pt.depth, depthL]; omega
    · rw [← List.append_assoc, j5]; simp [hk1, g5]
    rcases hb1 with ⟨p1, b1, q1, q2, q3, q4, q5, hS1⟩ | hb1
    · have hwp1 : wfP (numsB m ++ (mp ++ p1)) := by have := grow_wf x (numsB m ++ mp) hwp; rw [q1, List.append_assoc] at this; exact this
      rw [List.append_assoc] at q2 q3 q4 q5
      obtain ⟨mq, kq, e1, e2⟩ := sim_make hml hw1 hwp1 hS1 (hsh a) (hsh b1) (hM g2) (hM q2) (by rw [hSz g3]; omega) (by rw [hDp g4]; omega) (by rw [hSz q3]; omega) (by rw [hDp q4]; omega) (by rw [hT g5, hT q5]) hrq h0
      rw [j1] at e1
      simp only [Prod.mk.injEq, List.append_cancel_left_eq] at e1
      obtain ⟨rfl, rfl, _⟩ := e1
      have hgp : growT (.mk k f d nu tx [x]) (numsB m ++ mp) = makeE (numsB m ++ (mp ++ p1)) ⟨k, f, d, nu, tx, b1, 0⟩ := by
        simp only [growT, growK, q1, setK, if_true, List.append_assoc]
      rw [hgp]
      rw [hSz q3, hDp q4, hT q5] at e2
      have eS : ((Pt.mk k f d nu tx [x]).size : Int) = x.size + 1 := by simp [Pt.size, sizeL]
      have eD : ((Pt.mk k f d nu tx [x]).depth : Int) = x.depth + 1 := by simp only [Pt.depth, depthL]; omega
      rw [eS, eD]
      rcases e2 with ⟨m2, kp, r1, r2, r3, r4, r5, r6⟩ | e2
      · exact .inl ⟨p1 ++ m2, kp, by rw [r1]; simp [List.append_assoc], by simpa [List.append_assoc] using r2, by simpa [List.append_assoc] using r3, by simpa [List.append_assoc] using r4, by simpa [List.append_assoc] using r5, by simpa [List.append_assoc] using r6⟩
      · exact .inr ⟨e2.1, by rw [← List.append_assoc]; exact e2.2⟩
    · refine .inr ?_
      have h6 := both_mono (mq2 := m9) hb1
      refine ⟨?_, h6.2⟩
      simp only [growT, growK]
      rw [if_neg (by rw [h6.1]; decide)]
      exact h6.1
  | [x, y], hh, hk, hg, hp, hs, hr, hd, ih =>
    have hk2 : kidsN k = 2 := by simpa using hk
    simp only [goodL] at hg
    simp only [posL] at hp
    simp only [sizeL, depthL] at hs hr hd
    obtain ⟨m1, a, g1, g2, g3, g4, g5, hw1, hl1, hb1⟩ := ih x (by simp [Pt.kids]) lq mp hwq hwp hS hg.1 hp.1 (by omega) (by omega) (by omega)
    have hsh : ∀ a b, shapeE ⟨k, f, d, nu, tx, a, b⟩ = 0 := fun a b => shape_of (a := a) (b := b) hh (fun h => by simp at h) (fun h => by simp at h)
    have hM : ∀ {l a b}, inP l a = true → inP l b = true → missE l ⟨k, f, d, nu, tx, a, b⟩ = false := fun h h' => by unfold missE; simp [hk2, h, h']
    have hSz : ∀ {l a b}, sizeP l a = x.size → sizeP l b = y.size → bigS l ⟨k, f, d, nu, tx, a, b⟩ = x.size + y.size + 1 := fun {l a b} h h' => by simp only [bigS, h, h']; omega
    have hDp : ∀ {l a b}, deepP l a = x.depth → deepP l b = y.depth → bigD l ⟨k, f, d, nu, tx, a, b⟩ = max x.depth y.depth + 1 := fun {l a b} h h' => by simp only [bigD, h, h']; omega
    have hT : ∀ {l a b}, treeP l a = x → treeP l b = y → nodeT l ⟨k, f, d, nu, tx, a, b⟩ = .mk k f d nu tx [x, y] := fun h h' => by simp [nodeT, hk2, h, h']
    have hgo := grow_ok y (lq ++ m1) hw1 hg.2.1 (by omega) (by omega) (by simp only [List.length_append]; omega)
    obtain ⟨m2, b, f1, f2, f3, f4, f5⟩ := hgo
    have hw2 : wfP (lq ++ m1 ++ m2) := by have := grow_wf y (lq ++ m1) hw1; rw [f1] at this; exact this
    have hl2 : m2.length ≤ y.size := by obtain ⟨m', e1, e2⟩ := grow_app y (lq ++ m1); rw [f1] at e1; have := List.append_cancel_left e1; subst this; exact e2
    have hab := inP_bd g2
    have ga : inP (lq ++ m1 ++ m2) a = true := inP_mono g2
    have gs : sizeP (lq ++ m1 ++ m2) a = x.size := by rw [sizeP_mono hab.2, g3]
    have gd : deepP (lq ++ m1 ++ m2) a = x.depth := by rw [deepP_mono hab.2, g4]
    have gt : treeP (lq ++ m1 ++ m2) a = x := by rw [treeP_mono hw1 hab.2, g5]
    have hrq : (lq ++ m1 ++ m2).length < 65536 := by simp only [List.length_append]; omega
    obtain ⟨m9, k9, j1, j2, j3, j4, j5⟩ := make_node hw2 (hsh a b) (hM ga f2) (by rw [hSz gs f3]; omega) (by rw [hDp gd f4]; omega) (.inl hrq)
    have hgq : growT (.mk k f d nu tx [x, y]) lq = (lq ++ (m1 ++ (m2 ++ m9)), k9, 0) := by
      simp only [growT, growK, g1, f1, setK, if_true]
      rw [if_neg (by omega), j1]; simp [List.append_assoc]
    have hw9 : wfP (lq ++ (m1 ++ (m2 ++ m9))) := by have := grow_wf (.mk k f d nu tx [x, y]) lq hwq; rw [hgq] at this; exact this
    have hl9 : (m1 ++ (m2 ++ m9)).length ≤ (Pt.mk k f d nu tx [x, y]).size := by obtain ⟨m', q1, q2⟩ := grow_app (.mk k f d nu tx [x, y]) lq; rw [hgq] at q1; have := List.append_cancel_left q1; subst this; exact q2
    refine ⟨m1 ++ (m2 ++ m9), k9, hgq, by rw [← List.append_assoc, ← List.append_assoc]; exact j2, ?_, ?_, ?_, hw9, hl9, ?_⟩
    · rw [← List.append_assoc, ← List.append_assoc, j3, hSz gs f3]; simp only [Pt.size, sizeL]; omega
    · rw [← List.append_assoc, ← List.append_assoc, j4, hDp gd f4]; simp only [Pt.depth, depthL]; omega
    · rw [← List.append_assoc, ← List.append_assoc, j5]; simp only [hk2, if_true]; rw [gt, f5]
    rcases hb1 with ⟨p1, b1, q1, q2, q3, q4, q5, hS1⟩ | hb1
    · have hwp1 : wfP (numsB m ++ (mp ++ p1)) := by have := grow_wf x (numsB m ++ mp) hwp; rw [q1, List.append_assoc] at this; exact this
      rw [List.append_assoc] at q2 q3 q4 q5
      obtain ⟨m2', b', f1', f2', f3', f4', f5', hw2', hl2', hb2⟩ := ih y (by simp [Pt.kids]) (lq ++ m1) (mp ++ p1) hw1 hwp1 hS1 hg.2.1 hp.2.1 (by omega) (by omega) (by simp only [List.length_append]; omega)
      rw [f1] at f1'
      simp only [Prod.mk.injEq, List.append_cancel_left_eq] at f1'
      obtain ⟨rfl, rfl, _⟩ := f1'
      rcases hb2 with ⟨p2, b2, r1, r2, r3, r4, r5, hS2⟩ | hb2
      · have hwp2 : wfP (numsB m ++ (mp ++ p1 ++ p2)) := by have := grow_wf y (numsB m ++ (mp ++ p1)) hwp1; rw [r1, List.append_assoc] at this; exact this
        rw [List.append_assoc] at r2 r3 r4 r5
        have hqb := inP_bd q2
        have w1 : inP (numsB m ++ (mp ++ p1 ++ p2)) b1 = true := by rw [← List.append_assoc]; exact inP_mono q2
        have w2 : sizeP (numsB m ++ (mp ++ p1 ++ p2)) b1 = x.size := by rw [← List.append_assoc, sizeP_mono hqb.2, q3]
        have w3 : deepP (numsB m ++ (mp ++ p1 ++ p2)) b1 = x.depth := by rw [← List.append_assoc, deepP_mono hqb.2, q4]
        have w4 : treeP (numsB m ++ (mp ++ p1 ++ p2)) b1 = x := by rw [← List.append_assoc, treeP_mono hwp1 hqb.2, q5]
        obtain ⟨mq, kq, e1, e2⟩ := sim_make hml hw2 hwp2 hS2 (hsh a b) (hsh b1 b2) (hM ga f2) (hM w1 r2) (by rw [hSz gs f3]; omega) (by rw [hDp gd f4]; omega) (by rw [hSz w2 r3]; omega) (by rw [hDp w3 r4]; omega) (by rw [hT gt f5, hT w4 r5]) hrq h0
        rw [j1] at e1
        simp only [Prod.mk.injEq, List.append_cancel_left_eq] at e1
        obtain ⟨rfl, rfl, _⟩ := e1
        have hgp : growT (.mk k f d nu tx [x, y]) (numsB m ++ mp) = makeE (numsB m ++ (mp ++ p1 ++ p2)) ⟨k, f, d, nu, tx, b1, b2⟩ := by
          rw [List.append_assoc] at r1
          simp only [growT, growK, q1, setK, if_true, List.append_assoc]
          rw [show numsB m ++ (mp ++ p1) = numsB m ++ (mp ++ p1) from rfl, r1]
          simp only [if_true]
          rw [if_neg (by omega)]
          simp [List.append_assoc]
        rw [hgp]
        rw [hSz w2 r3, hDp w3 r4, hT w4 r5] at e2
        have eS : ((Pt.mk k f d nu tx [x, y]).size : Int) = x.size + y.size + 1 := by simp only [Pt.size, sizeL]; omega
        have eD : ((Pt.mk k f d nu tx [x, y]).depth : Int) = max x.depth y.depth + 1 := by simp only [Pt.depth, depthL]; omega
        rw [eS, eD]
        rcases e2 with ⟨m3, kp, s1, s2, s3, s4, s5, s6⟩ | e2
        · exact .inl ⟨p1 ++ (p2 ++ m3), kp, by rw [s1]; simp [List.append_assoc], by simpa [List.append_assoc] using s2, by simpa [List.append_assoc] using s3, by simpa [List.append_assoc] using s4, by simpa [List.append_assoc] using s5, by simpa [List.append_assoc] using s6⟩
        · exact .inr ⟨e2.1, by simpa [List.append_assoc] using e2.2⟩
      · refine .inr ?_
        have h6 := both_mono (mq2 := m9) hb2
        refine ⟨?_, by simpa [List.append_assoc] using h6.2⟩
        simp only [growT, growK, q1, setK, if_true, List.append_assoc]
        rw [if_neg (by rw [h6.1]; decide)]
        exact h6.1
    · refine .inr ?_
      have h6 := both_mono (mq2 := m2 ++ m9) hb1
      refine ⟨?_, h6.2⟩
      simp only [growT, growK]
      rw [if_neg (by rw [h6.1]; decide)]
      exact h6.1
  | _ :: _ :: _ :: _, hh, hk, hg, hp, hs, hr, hd, ih =>
    have := kidsN_le k
    simp only [List.length_cons] at hk
    omega
end Go.Gx.Trm
