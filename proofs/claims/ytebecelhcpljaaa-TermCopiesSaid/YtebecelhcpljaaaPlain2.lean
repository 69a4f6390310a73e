/- Layer 5: a tree that is looked at without error grows, tells itself, and grows no second time. No program in sight. -/
import Derived.Test.YtebecelhcpljaaaPlain
set_option linter.unusedVariables false
set_option linter.unusedSimpArgs false
namespace Go.Gx.Trm
open Go.Gx
theorem make_node {l : List En} {n : Nd} (hw : wfP l) (hs : shapeE n = 0) (hm : missE l n = false) (hb : bigS l n ≤ 4096) (hd : bigD l n ≤ 64) (hr : l.length < 65536 ∨ ∃ i, findN l n 0 = some i) :
    ∃ (m : List En) (k : Int), makeE l n = (l ++ m, k, 0) ∧ inP (l ++ m) k = true ∧ sizeP (l ++ m) k = bigS l n ∧ deepP (l ++ m) k = bigD l n ∧
      treeP (l ++ m) k = .mk n.kind n.frm n.dst n.num n.text (if kidsN n.kind = 2 then [treeP l n.a, treeP l n.b] else if kidsN n.kind = 1 then [treeP l n.a] else []) := by
  have hc : checkE l n = 0 := by
    unfold checkE
    rw [if_neg (by simpa using hs), hm, if_neg (by decide), if_neg (by omega)]
  have hwm := wfP_make (n := n) hw
  have hkl := kid_le hs hm
  cases hf : findN l n 0 with
  | some i =>
    have hmk : makeE l n = (l, (i : Int) + 1, 0) := by unfold makeE; rw [if_neg (by simpa using hc), hf]
    obtain ⟨_, e, he, hn⟩ := findN_some l i 0 hf
    have he : l[i]? = some e := he
    have hE := hw.wf i e he
    refine ⟨[], (i : Int) + 1, by rw [hmk, List.append_nil], ?_⟩
    rw [List.append_nil]
    have hin := entP_i he
    refine ⟨?_, ?_, ?_, ?_⟩
    · cases h : inP l ((i : Int) + 1) with
      | true => rfl
      | false => rw [entP_no h] at hin; cases hin
    · simp only [sizeP, hin]; rw [hE.sz, hn]
    · simp only [deepP, hin]; rw [hE.dp, hn]
    · rw [treeP_eq hw he, hn]
  | none =>
    have hr : l.length < 65536 := by rcases hr with h | ⟨i, h⟩; exact h; rw [hf] at h; cases h
    have hmk : makeE l n = (l ++ [⟨n, bigS l n, bigD l n⟩], (l.length : Int) + 1, 0) := by
      unfold makeE
      rw [if_neg (by simpa using hc), hf]
      simp only
      rw [if_neg (by omega)]
    rw [hmk] at hwm
    have he : (l ++ [⟨n, bigS l n, bigD l n⟩])[l.length]? = some ⟨n, bigS l n, bigD l n⟩ := by simp
    have hin := entP_i he
    refine ⟨_, _, hmk, ?_, ?_, ?_, ?_⟩
    · unfold inP; simp; omega
    · simp only [sizeP, hin]
    · simp only [deepP, hin]
    · rw [treeP_eq hwm he]
      simp only
      rw [treeP_mono hw (by omega), treeP_mono hw (by omega)]
def Grown (l : List En) (t : Pt) : Prop := ∃ (m : List En) (k : Int), growT t l = (l ++ m, k, 0) ∧ inP (l ++ m) k = true ∧ sizeP (l ++ m) k = t.size ∧ deepP (l ++ m) k = t.depth ∧ treeP (l ++ m) k = t
theorem head_ok {n : Nd} {m : Nat} (h : headE n m = 0) : own n = true ∧ kidsN n.kind = (m : Int) ∧ fieldsE n = 0 := by
  unfold headE at h
  split at h
  · rename_i h1
    simp only [Bool.and_eq_true, beq_iff_eq] at h1
    exact ⟨h1.1, h1.2, h⟩
  · cases h
theorem shape_of {n : Nd} {m : Nat} {a b : Int} (h : headE n m = 0) (ha : m = 0 → a = 0) (hb : m ≤ 1 → b = 0) : shapeE { n with a := a, b := b } = 0 := by
  obtain ⟨h1, h2, h3⟩ := head_ok h
  obtain ⟨k, f, d, nu, t, x, y⟩ := n
  have h1' : own ⟨k, f, d, nu, t, a, b⟩ = true := h1
  have h2 : kidsN k = (m : Int) := h2
  have h3' : fieldsE ⟨k, f, d, nu, t, a, b⟩ = 0 := h3
  have hp : plainN ⟨k, f, d, nu, t, a, b⟩ = true := by
    have hk := kidsN_le k
    unfold plainN
    simp only [h1', Bool.true_and, Bool.and_eq_true, Bool.or_eq_true, decide_eq_true_eq, beq_iff_eq, h2]
    refine ⟨?_, ?_⟩
    · by_cases h : m = 0
      · exact .inr (ha h)
      · left; omega
    · by_cases h : m ≤ 1
      · exact .inr (hb h)
      · left; omega
  show shapeE ⟨k, f, d, nu, t, a, b⟩ = 0
  unfold shapeE
  rw [hp, if_pos rfl, h3']
set_option maxHeartbeats 4000000 in
theorem grow_ok : ∀ (t : Pt), ∀ (l : List En), wfP l → t.good → t.size ≤ 4096 → t.depth ≤ 64 → l.length + t.size ≤ 65536 → Grown l t := by
  intro t
  induction t using Pt.ind with
  | h t ih =>
  obtain ⟨k, f, d, nu, tx, ks⟩ := t
  intro l hw hg hs hd hr
  simp only [Pt.good] at hg
  obtain ⟨hh, hg⟩ := hg
  obtain ⟨ho, hk, hf⟩ := head_ok hh
  have hk : kidsN k = (ks.length : Int) := hk
  simp only [Pt.size] at hs hr
  simp only [Pt.depth] at hd
  match ks, hh, hk, hg, hs, hr, hd, ih with
  | [], hh, hk, hg, hs, hr, hd, ih =>
    have hk0 : kidsN k = 0 := by simpa using hk
    have hsh := shape_of (a := 0) (b := 0) hh (fun _ => rfl) (fun _ => rfl)
    have hsh : shapeE ⟨k, f, d, nu, tx, 0, 0⟩ = 0 := hsh
    have hz : sizeP l 0 = 0 ∧ deepP l 0 = 0 := by simp [sizeP, deepP, entP_no (show inP l 0 = false by unfold inP; simp)]
    have hS : bigS l ⟨k, f, d, nu, tx, 0, 0⟩ = 1 := by simp [bigS, hz.1]
    have hD : bigD l ⟨k, f, d, nu, tx, 0, 0⟩ = 1 := by simp [bigD, hz.2]
    obtain ⟨m, k2, h1, h2, h3, h4, h5⟩ := make_node (n := ⟨k, f, d, nu, tx, 0, 0⟩) hw hsh (by unfold missE; simp [hk0]) (by rw [hS]; omega) (by rw [hD]; omega) (.inl (by simp only [sizeL] at hr; omega))
    refine ⟨m, k2, by simpa only [growT, growK] using h1, h2, ?_, ?_, ?_⟩
    · rw [h3, hS]; simp [Pt.size, sizeL]
    · rw [h4, hD]; simp [Pt.depth, depthL]
    · rw [h5]; simp [hk0]
  | [x], hh, hk, hg, hs, hr, hd, ih =>
    have hk1 : kidsN k = 1 := by simpa using hk
    simp only [goodL] at hg
    simp only [sizeL, depthL] at hs hr hd
    obtain ⟨m1, a, g1, g2, g3, g4, g5⟩ := ih x (by simp [Pt.kids]) l hw hg.1 (by omega) (by omega) (by omega)
    have hw1 : wfP (l ++ m1) := by have := grow_wf x l hw; rw [g1] at this; exact this
    have hl1 : m1.length ≤ x.size := by obtain ⟨m', e1, e2⟩ := grow_app x l; rw [g1] at e1; have := List.append_cancel_left e1; subst this; exact e2
    have hsh : shapeE ⟨k, f, d, nu, tx, a, 0⟩ = 0 := shape_of (a := a) (b := 0) hh (fun h => by simp at h) (fun _ => rfl)
    have hz : sizeP (l ++ m1) 0 = 0 ∧ deepP (l ++ m1) 0 = 0 := by simp [sizeP, deepP, entP_no (show inP (l ++ m1) 0 = false by unfold inP; simp)]
    have hS : bigS (l ++ m1) ⟨k, f, d, nu, tx, a, 0⟩ = x.size + 1 := by simp only [bigS, hz.1, g3]; omega
    have hD : bigD (l ++ m1) ⟨k, f, d, nu, tx, a, 0⟩ = x.depth + 1 := by simp only [bigD, hz.2, g4]; omega
    obtain ⟨m, k2, h1, h2, h3, h4, h5⟩ := make_node (n := ⟨k, f, d, nu, tx, a, 0⟩) hw1 hsh (by unfold missE; simp [hk1, g2]) (by rw [hS]; omega) (by rw [hD]; omega) (.inl (by simp only [List.length_append]; omega))
    refine ⟨m1 ++ m, k2, ?_, by rw [← List.append_assoc]; exact h2, ?_, ?_, ?_⟩
    · simp only [growT, growK, g1, setK, if_true]
      rw [h1, List.append_assoc]
    · rw [← List.append_assoc, h3, hS]; simp [Pt.size, sizeL]
    · rw [← List.append_assoc, h4, hD]; simp only [Pt.depth, depthL]; omega
    · rw [← List.append_assoc, h5]; simp [hk1, g5]
  | [x, y], hh, hk, hg, hs, hr, hd, ih =>
    have hk2 : kidsN k = 2 := by simpa using hk
    simp only [goodL] at hg
    simp only [sizeL, depthL] at hs hr hd
    obtain ⟨m1, a, g1, g2, g3, g4, g5⟩ := ih x (by simp [Pt.kids]) l hw hg.1 (by omega) (by omega) (by omega)
    have hw1 : wfP (l ++ m1) := by have := grow_wf x l hw; rw [g1] at this; exact this
    have hl1 : m1.length ≤ x.size := by obtain ⟨m', e1, e2⟩ := grow_app x l; rw [g1] at e1; have := List.append_cancel_left e1; subst this; exact e2
    obtain ⟨m2, b, j1, j2, j3, j4, j5⟩ := ih y (by simp [Pt.kids]) (l ++ m1) hw1 hg.2.1 (by omega) (by omega) (by simp only [List.length_append]; omega)
    have hw2 : wfP (l ++ m1 ++ m2) := by have := grow_wf y (l ++ m1) hw1; rw [j1] at this; exact this
    have hl2 : m2.length ≤ y.size := by obtain ⟨m', e1, e2⟩ := grow_app y (l ++ m1); rw [j1] at e1; have := List.append_cancel_left e1; subst this; exact e2
    have hab := inP_bd g2
    have hsh : shapeE ⟨k, f, d, nu, tx, a, b⟩ = 0 := shape_of (a := a) (b := b) hh (fun h => by simp at h) (fun h => by simp at h)
    have hS : bigS (l ++ m1 ++ m2) ⟨k, f, d, nu, tx, a, b⟩ = x.size + y.size + 1 := by
      simp only [bigS, j3]; rw [sizeP_mono hab.2, g3]; omega
    have hD : bigD (l ++ m1 ++ m2) ⟨k, f, d, nu, tx, a, b⟩ = max x.depth y.depth + 1 := by
      simp only [bigD, j4]; rw [deepP_mono hab.2, g4]; omega
    obtain ⟨m, k2, h1, h2, h3, h4, h5⟩ := make_node (n := ⟨k, f, d, nu, tx, a, b⟩) hw2 hsh (by unfold missE; simp only [j2, inP_mono g2, Bool.not_true, Bool.and_false, Bool.or_false]) (by rw [hS]; omega) (by rw [hD]; omega) (.inl (by simp only [List.length_append]; omega))
    refine ⟨m1 ++ (m2 ++ m), k2, ?_, by rw [← List.append_assoc, ← List.append_assoc]; exact h2, ?_, ?_, ?_⟩
    · simp only [growT, growK, g1, j1, setK, if_true]
      rw [if_neg (by omega), h1]
      simp [List.append_assoc]
    · rw [← List.append_assoc, ← List.append_assoc, h3, hS]; simp only [Pt.size, sizeL]; omega
    · rw [← List.append_assoc, ← List.append_assoc, h4, hD]; simp only [Pt.depth, depthL]; omega
    · rw [← List.append_assoc, ← List.append_assoc, h5]; simp only [hk2, if_true]; rw [j5, treeP_mono hw1 hab.2, g5]
  | _ :: _ :: _ :: _, hh, hk, hg, hs, hr, hd, ih =>
    have := kidsN_le k
    simp only [List.length_cons] at hk
    omega
/-- a tree handed in, where there is room -/
theorem of_ok {l : List En} {t : Pt} (hw : wfP l) (hr : l.length + t.size ≤ 65536) (h : (ofE l t).2.2 = 0) : ∃ (m : List En) (k : Int), ofE l t = (l ++ m, k, 0) ∧ growT t l = (l ++ m, k, 0) ∧ m.length ≤ t.size ∧ inP (l ++ m) k = true ∧ sizeP (l ++ m) k = t.size ∧ deepP (l ++ m) k = t.depth ∧ treeP (l ++ m) k = t ∧ wfP (l ++ m) := by
  by_cases hl : (looksT t 0 0).1 = 0
  · obtain ⟨a1, a2, a3, a4⟩ := looksT_ok t 0 0 (looksT t 0 0).2 (Prod.ext hl rfl)
    obtain ⟨m, k, h1, h2, h3, h4, h5⟩ := grow_ok t l hw a1 (by omega) (by omega) hr
    have hl1 : m.length ≤ t.size := by obtain ⟨m', e1, e2⟩ := grow_app t l; rw [h1] at e1; have := List.append_cancel_left e1; subst this; exact e2
    have hw1 : wfP (l ++ m) := by have := grow_wf t l hw; rw [h1] at this; exact this
    exact ⟨m, k, by unfold ofE; rw [if_pos hl, h1], h1, hl1, h2, h3, h4, h5, hw1⟩
  · unfold ofE at h
    rw [if_neg hl] at h
    exact absurd h hl
/-- looked at without error, it grows without error -/
theorem grow_ok' {l : List En} {t : Pt} (hw : wfP l) (hr : l.length + t.size ≤ 65536) (hl : (looksT t 0 0).1 = 0) : (growT t l).2.2 = 0 := by
  obtain ⟨a1, a2, a3, a4⟩ := looksT_ok t 0 0 (looksT t 0 0).2 (Prod.ext hl rfl)
  obtain ⟨m, k, h1, _⟩ := grow_ok t l hw a1 (by omega) (by omega) hr
  rw [h1]
theorem ofE_wf {l : List En} {t : Pt} (hw : wfP l) : wfP (ofE l t).1 := by
  unfold ofE
  split
  · exact grow_wf t l hw
  · exact hw
theorem ofE_len (l : List En) (t : Pt) : ∃ m, (ofE l t).1 = l ++ m ∧ m.length ≤ t.size := by
  unfold ofE
  split
  · exact grow_app t l
  · exact ⟨[], by simp, by simp⟩
/-- a term's tree has that term -/
theorem grow_tree {l : List En} (hw : wfP l) : ∀ (k : Nat) (t : Int), t.toNat ≤ k → inP l t = true → growT (treeP l t) l = (l, t, 0) := by
  intro k
  induction k with
  | zero => intro t h hi; have := inP_bd hi; omega
  | succ k ih =>
    intro t h hi
    obtain ⟨i, e, rfl, hlt, hg, he⟩ := entP_in hi
    have hE := hw.wf i e hg
    have hk := kidsN_le e.n.kind
    have hp := plain_kids hE.sh
    have hltE := hE.lt
    have hin : ∀ {t : Int}, 1 ≤ t → t ≤ i → inP l t = true := fun h1 h2 => by unfold inP; simp; omega
    have hms : missE l e.n = false := by
      unfold missE
      simp only [Bool.or_eq_false_iff, Bool.and_eq_false_iff, decide_eq_false_iff_not, beq_eq_false_iff_ne, Bool.not_eq_false']
      refine ⟨?_, ?_⟩
      · by_cases h1 : 1 ≤ kidsN e.n.kind
        · have := hE.a1 h1; exact .inr (hin this.1 this.2)
        · exact .inl h1
      · by_cases h1 : kidsN e.n.kind = 2
        · have := hE.b1 h1; exact .inr (hin this.1 this.2)
        · exact .inl h1
    have hok := hw.ok i e hg
    have hc : checkE l e.n = 0 := by
      unfold checkE
      rw [if_neg (by simpa using hE.sh), hms, if_neg (by decide), if_neg (by rw [← hE.sz, ← hE.dp]; omega)]
    have hmk : makeE l e.n = (l, (i : Int) + 1, 0) := by
      unfold makeE
      rw [if_neg (by simpa using hc), hE.fi]
    rw [treeP_eq hw hg]
    simp only [growT]
    obtain ⟨⟨kk, ff, dd, nn, tt, aa, bb⟩, ss, de⟩ := e
    simp only at *
    by_cases h2 : kidsN kk = 2
    · have ha := hE.a1 (by simp only; omega)
      have hb := hE.b1 h2
      simp only at ha hb
      have g1 := ih aa (by omega) (hin ha.1 ha.2)
      have g2 := ih bb (by omega) (hin hb.1 hb.2)
      simp only [h2, if_true, growK, g1, g2, setK]
      rw [if_neg (by omega)]
      exact hmk
    · by_cases h1 : kidsN kk = 1
      · have ha := hE.a1 (by simp only; omega)
        simp only at ha
        have g1 := ih aa (by omega) (hin ha.1 ha.2)
        have hb := hp.2 (by omega)
        simp only [h1, if_true, growK, g1, setK]
        rw [if_neg (by omega)]
        simp only [growK, g1, if_true]
        rw [hb] at hmk
        exact hmk
      · have ha := hp.1 (by omega)
        have hb := hp.2 (by omega)
        rw [if_neg h2, if_neg h1]
        simp only [growK]
        rw [ha, hb] at hmk
        exact hmk
end Go.Gx.Trm
