/- Layer 5: trees as plain data, and what looking, growing and telling make of them. No program in sight. -/
import Derived.Test.YtebecelhcpljaaaTree
set_option linter.unusedVariables false
set_option linter.unusedSimpArgs false
namespace Go.Gx.Trm
open Go.Gx
/-- a tree without places -/
inductive Pt where
  | mk (kind frm dst num : Int) (text : ByteArray) (kids : List Pt)
namespace Pt
def nd : Pt → Nd | mk k f d n t _ => ⟨k, f, d, n, t, 0, 0⟩
def kids : Pt → List Pt | mk _ _ _ _ _ ks => ks
def kind : Pt → Int | mk k _ _ _ _ _ => k
def zero : Pt := .mk 0 0 0 0 ⟨#[]⟩ []
theorem ind {P : Pt → Prop} (h : ∀ t : Pt, (∀ k ∈ t.kids, P k) → P t) : ∀ t, P t
  | mk k f d n t ks => h _ fun x hx => by
    have : SizeOf.sizeOf x < SizeOf.sizeOf (mk k f d n t ks) := by
      have hx : x ∈ ks := hx
      have := List.sizeOf_lt_of_mem hx
      simp; omega
    exact ind h x
termination_by t => SizeOf.sizeOf t
decreasing_by assumption
end Pt
mutual
def Tr.pt : Tr → Pt | .mk k f d n t _ _ ks => .mk k f d n t (ptL ks)
def ptL : List Tr → List Pt | [] => [] | x :: xs => x.pt :: ptL xs
end
theorem ptL_map : ∀ ks : List Tr, ptL ks = ks.map Tr.pt
  | [] => by simp [ptL]
  | x :: xs => by simp [ptL, ptL_map xs]
theorem ptL_len (ks : List Tr) : (ptL ks).length = ks.length := by rw [ptL_map, List.length_map]
theorem ptL_get {ks : List Tr} {i : Nat} {x : Tr} (h : ks[i]? = some x) : (ptL ks)[i]? = some x.pt := by rw [ptL_map, List.getElem?_map, h]; rfl
/-! ### the same -/
mutual
def Pt.beq : Pt → Pt → Bool
  | .mk k f d n t ks, .mk k' f' d' n' t' ks' => k == k' && f == f' && d == d' && n == n' && sEq t t' && ks.length == ks'.length && beqL ks ks'
def beqL : List Pt → List Pt → Bool
  | x :: xs, y :: ys => x.beq y && beqL xs ys
  | [], _ => true
  | _, [] => true
end
mutual
theorem Pt.beq_eq : ∀ (s t : Pt), s.beq t = true → s = t
  | .mk k f d n t ks, .mk k' f' d' n' t' ks', h => by
    simp only [Pt.beq, Bool.and_eq_true, beq_iff_eq] at h
    obtain ⟨⟨⟨⟨⟨⟨rfl, rfl⟩, rfl⟩, rfl⟩, h5⟩, h6⟩, h7⟩ := h
    rw [sEq_iff.1 h5, beqL_eq ks ks' h6 h7]
theorem beqL_eq : ∀ (s t : List Pt), s.length = t.length → beqL s t = true → s = t
  | [], [], _, _ => rfl
  | [], _ :: _, h, _ => by simp at h
  | _ :: _, [], h, _ => by simp at h
  | x :: xs, y :: ys, h, hb => by
    simp only [beqL, Bool.and_eq_true] at hb
    rw [Pt.beq_eq x y hb.1, beqL_eq xs ys (by simpa using h) hb.2]
end
mutual
theorem Pt.beq_rfl : ∀ (s : Pt), s.beq s = true
  | .mk k f d n t ks => by simp [Pt.beq, sEq_iff.2 rfl, beqL_rfl ks]
theorem beqL_rfl : ∀ (s : List Pt), beqL s s = true
  | [] => rfl
  | x :: xs => by simp [beqL, Pt.beq_rfl x, beqL_rfl xs]
end
theorem Pt.beq_iff {s t : Pt} : s.beq t = true ↔ s = t := ⟨Pt.beq_eq s t, fun h => by rw [h]; exact Pt.beq_rfl t⟩
/-! ### how many -/
mutual
def Pt.size : Pt → Nat | .mk _ _ _ _ _ ks => sizeL ks + 1
def sizeL : List Pt → Nat | [] => 0 | x :: xs => x.size + sizeL xs
end
mutual
def Pt.depth : Pt → Nat | .mk _ _ _ _ _ ks => depthL ks + 1
def depthL : List Pt → Nat | [] => 0 | x :: xs => max x.depth (depthL xs)
end
mutual
def partsT : Pt → Int → Int | .mk _ _ _ _ _ ks, m => partsL ks m 1
def partsL : List Pt → Int → Int → Int
  | [], _, n => n
  | x :: xs, m, n => if n ≤ m then partsL xs m (n + partsT x (m - n)) else n
end
mutual
theorem partsT_bd : ∀ (t : Pt) (m : Int), 0 ≤ m → 1 ≤ partsT t m ∧ partsT t m ≤ m + 1
  | .mk _ _ _ _ _ ks, m, h => by
    have := partsL_bd ks m 1 h (by omega) (by omega)
    simp only [partsT]; omega
theorem partsL_bd : ∀ (ks : List Pt) (m n : Int), 0 ≤ m → 1 ≤ n → n ≤ m + 1 → n ≤ partsL ks m n ∧ partsL ks m n ≤ m + 1
  | [], m, n, _, _, _ => by simp only [partsL]; omega
  | x :: xs, m, n, h, h1, h2 => by
    simp only [partsL]
    split
    · have := partsT_bd x (m - n) (by omega)
      have := partsL_bd xs m (n + partsT x (m - n)) h (by omega) (by omega)
      omega
    · omega
end
mutual
theorem partsT_eq : ∀ (t : Pt) (m : Int), 0 ≤ m → partsT t m ≤ m → (t.size : Int) = partsT t m
  | .mk _ _ _ _ _ ks, m, h, hp => by
    simp only [partsT] at hp ⊢
    have := partsL_eq ks m 1 h (by omega) hp
    simp only [Pt.size]; omega
theorem partsL_eq : ∀ (ks : List Pt) (m n : Int), 0 ≤ m → 1 ≤ n → partsL ks m n ≤ m → (sizeL ks : Int) + n = partsL ks m n
  | [], m, n, _, _, _ => by simp [partsL, sizeL]
  | x :: xs, m, n, h, h1, hp => by
    simp only [partsL] at hp ⊢
    split at hp
    · rename_i hc
      rw [if_pos hc]
      have hb := partsT_bd x (m - n) (by omega)
      have hl : n + partsT x (m - n) ≤ m := by
        by_cases h9 : n + partsT x (m - n) ≤ m
        · exact h9
        · have := partsL_bd xs m (n + partsT x (m - n)) h (by omega) (by omega)
          omega
      have hx := partsT_eq x (m - n) (by omega) (by omega)
      have hs := partsL_eq xs m (n + partsT x (m - n)) h (by omega) hp
      simp only [sizeL]; omega
    · omega
end
/-! ### looking -/
def headE (n : Nd) (m : Nat) : Int := if own n && kidsN n.kind == (m : Int) then fieldsE n else 53
mutual
def looksT : Pt → Int → Int → Int × Int
  | .mk k f d n t ks, i, seen => if 4096 ≤ seen ∨ 64 ≤ i then (52, seen) else if headE ⟨k, f, d, n, t, 0, 0⟩ ks.length = 0 then looksL ks (i + 1) (seen + 1) else (headE ⟨k, f, d, n, t, 0, 0⟩ ks.length, seen + 1)
def looksL : List Pt → Int → Int → Int × Int
  | [], _, seen => (0, seen)
  | x :: xs, i, seen => if (looksT x i seen).1 = 0 then looksL xs i (looksT x i seen).2 else looksT x i seen
end
mutual
def Pt.good : Pt → Prop | .mk k f d n t ks => headE ⟨k, f, d, n, t, 0, 0⟩ ks.length = 0 ∧ goodL ks
def goodL : List Pt → Prop | [] => True | x :: xs => x.good ∧ goodL xs
end
mutual
theorem looksT_ok : ∀ (t : Pt) (i seen s' : Int), looksT t i seen = (0, s') → t.good ∧ s' = seen + t.size ∧ (seen < 4096 ∧ i + t.depth ≤ 64) ∧ s' ≤ 4096
  | .mk k f d n t ks, i, seen, s', h => by
    simp only [looksT] at h
    split at h
    · cases h
    rename_i hc
    split at h
    · rename_i hh
      obtain ⟨h1, h2, h3, h4⟩ := looksL_ok ks (i + 1) (seen + 1) s' h (by omega) (by omega)
      simp only [Pt.good, Pt.size, Pt.depth]
      exact ⟨⟨hh, h1⟩, by omega, by omega, h4⟩
    · rename_i hh
      simp only [Prod.mk.injEq] at h
      exact absurd h.1 hh
theorem looksL_ok : ∀ (ks : List Pt) (i seen s' : Int), looksL ks i seen = (0, s') → seen ≤ 4096 → i ≤ 64 → goodL ks ∧ s' = seen + sizeL ks ∧ i + depthL ks ≤ 64 ∧ s' ≤ 4096
  | [], i, seen, s', h, h0, h9 => by
    simp only [looksL, Prod.mk.injEq] at h
    simp only [goodL, sizeL, depthL]
    exact ⟨trivial, by omega, by omega, by omega⟩
  | x :: xs, i, seen, s', h, h0, h9 => by
    simp only [looksL] at h
    split at h
    · rename_i hx
      obtain ⟨a1, a2, a3, a4⟩ := looksT_ok x i seen (looksT x i seen).2 (by rw [← hx])
      obtain ⟨b1, b2, b3, b4⟩ := looksL_ok xs i (looksT x i seen).2 s' h a4 h9
      simp only [goodL, sizeL, depthL]
      exact ⟨⟨a1, b1⟩, by omega, by omega, b4⟩
    · rename_i hx
      rw [h] at hx
      exact absurd rfl hx
end
mutual
theorem looksT_bd : ∀ (t : Pt) (i seen : Int), 0 ≤ seen → seen ≤ 4096 → seen ≤ (looksT t i seen).2 ∧ (looksT t i seen).2 ≤ 4096
  | .mk k f d n t ks, i, seen, h, h2 => by
    simp only [looksT]
    split
    · exact ⟨by omega, by omega⟩
    split
    · have := looksL_bd ks (i + 1) (seen + 1) (by omega) (by omega)
      omega
    · simp only; omega
theorem looksL_bd : ∀ (ks : List Pt) (i seen : Int), 0 ≤ seen → seen ≤ 4096 → seen ≤ (looksL ks i seen).2 ∧ (looksL ks i seen).2 ≤ 4096
  | [], i, seen, h, h2 => by simp only [looksL]; omega
  | x :: xs, i, seen, h, h2 => by
    have := looksT_bd x i seen h h2
    simp only [looksL]
    split
    · have := looksL_bd xs i (looksT x i seen).2 (by omega) (by omega)
      omega
    · omega
end
theorem headE_bd (n : Nd) (m : Nat) : headE n m = 0 ∨ headE n m = 1 ∨ headE n m = 50 ∨ headE n m = 53 := by
  unfold headE fieldsE
  repeat' split
  all_goals simp
mutual
theorem looksT_er : ∀ (t : Pt) (i seen : Int), 0 ≤ (looksT t i seen).1 ∧ (looksT t i seen).1 ≤ 53
  | .mk k f d n t ks, i, seen => by
    simp only [looksT]
    split
    · simp
    split
    · exact looksL_er ks (i + 1) (seen + 1)
    · have := headE_bd ⟨k, f, d, n, t, 0, 0⟩ ks.length
      simp only; omega
theorem looksL_er : ∀ (ks : List Pt) (i seen : Int), 0 ≤ (looksL ks i seen).1 ∧ (looksL ks i seen).1 ≤ 53
  | [], i, seen => by simp [looksL]
  | x :: xs, i, seen => by
    simp only [looksL]
    split
    · exact looksL_er xs i _
    · exact looksT_er x i seen
end
/-! ### growing -/
def setK (n : Nd) (i : Nat) (t : Int) : Nd := if i = 0 then { n with a := t } else { n with b := t }
mutual
def growT : Pt → List En → List En × Int × Int
  | .mk k f d n t ks, l => growK ks l 0 ⟨k, f, d, n, t, 0, 0⟩
def growK : List Pt → List En → Nat → Nd → List En × Int × Int
  | [], l, _, nd => makeE l nd
  | x :: xs, l, i, nd => if (growT x l).2.2 = 0 then growK xs (growT x l).1 (i + 1) (setK nd i (growT x l).2.1) else ((growT x l).1, 0, (growT x l).2.2)
end
/-- a tree handed in -/
def ofE (l : List En) (t : Pt) : List En × Int × Int := if (looksT t 0 0).1 = 0 then growT t l else (l, 0, (looksT t 0 0).1)
/-! ### telling -/
def treeF (l : List En) : Nat → Int → Pt
  | 0, _ => .zero
  | fu + 1, t => match entP l t with
    | none => .zero
    | some e => .mk e.n.kind e.n.frm e.n.dst e.n.num e.n.text (if kidsN e.n.kind = 2 then [treeF l fu e.n.a, treeF l fu e.n.b] else if kidsN e.n.kind = 1 then [treeF l fu e.n.a] else [])
def treeP (l : List En) (t : Int) : Pt := treeF l t.toNat t
/-- what stands in an entry is less; its size and depth -/
structure wfE (l : List En) (i : Nat) (e : En) : Prop where
  sh : shapeE e.n = 0
  a1 : 1 ≤ kidsN e.n.kind → 1 ≤ e.n.a ∧ e.n.a ≤ i
  b1 : kidsN e.n.kind = 2 → 1 ≤ e.n.b ∧ e.n.b ≤ i
  sz : e.size = bigS l e.n
  dp : e.deep = bigD l e.n
  fi : findN l e.n 0 = some i
structure wfP (l : List En) : Prop where
  ok : okP l
  wf : ∀ (i : Nat) (e : En), l[i]? = some e → wfE l i e
theorem plain_kids {n : Nd} (h : shapeE n = 0) : (kidsN n.kind = 0 → n.a = 0) ∧ (kidsN n.kind ≤ 1 → n.b = 0) := by
  unfold shapeE at h
  split at h
  · rename_i hp
    unfold plainN at hp
    simp only [Bool.and_eq_true, Bool.or_eq_true, decide_eq_true_eq, beq_iff_eq] at hp
    have := kidsN_le n.kind
    exact ⟨fun h0 => by rcases hp.1.2 with h | h; omega; exact h, fun h0 => by rcases hp.2 with h | h; omega; exact h⟩
  · cases h
theorem wfE.lt {l : List En} {i : Nat} {e : En} (h : wfE l i e) : (0 ≤ e.n.a ∧ e.n.a ≤ i) ∧ (0 ≤ e.n.b ∧ e.n.b ≤ i) := by
  have hk := kidsN_le e.n.kind
  have hp := plain_kids h.sh
  constructor
  · by_cases h0 : kidsN e.n.kind = 0
    · rw [hp.1 h0]; omega
    · have := h.a1 (by omega); omega
  · by_cases h0 : kidsN e.n.kind ≤ 1
    · rw [hp.2 h0]; omega
    · have := h.b1 (by omega); omega
theorem entP_i {l : List En} {i : Nat} {e : En} (h : l[i]? = some e) : entP l ((i : Int) + 1) = some e := by
  obtain ⟨hlt, _⟩ := List.getElem?_eq_some_iff.1 h
  have hi : inP l ((i : Int) + 1) = true := by unfold inP; simp; omega
  unfold entP
  rw [if_pos hi]
  simpa using h
theorem entP_mono {l m : List En} {t : Int} (h : t ≤ l.length) : entP (l ++ m) t = entP l t := by
  unfold entP inP
  by_cases h1 : 1 ≤ t
  · have h2 : t ≤ ((l ++ m).length : Int) := by simp; omega
    simp only [h1, h2, h, decide_true, Bool.and_true, if_true]
    rw [List.getElem?_append_left (by omega)]
  · simp [h1]
theorem sizeP_mono {l m : List En} {t : Int} (h : t ≤ l.length) : sizeP (l ++ m) t = sizeP l t := by unfold sizeP; rw [entP_mono h]
theorem deepP_mono {l m : List En} {t : Int} (h : t ≤ l.length) : deepP (l ++ m) t = deepP l t := by unfold deepP; rw [entP_mono h]
theorem inP_mono {l m : List En} {t : Int} (h : inP l t = true) : inP (l ++ m) t = true := by
  unfold inP at *
  simp only [Bool.and_eq_true, decide_eq_true_eq, List.length_append] at *
  omega
/-- how deep it is looked at does not matter -/
theorem treeF_fuel {l : List En} (hw : wfP l) : ∀ (k f : Nat) (t : Int), t.toNat ≤ k → t.toNat ≤ f → treeF l f t = treeF l k t := by
  intro k
  induction k with
  | zero =>
    intro f t h1 h2
    have ht : t ≤ 0 := by omega
    have : entP l t = none := entP_no (by unfold inP; simp; omega)
    cases f with
    | zero => rfl
    | succ f => simp [treeF, this]
  | succ k ih =>
    intro f t h1 h2
    cases f with
    | zero =>
      have : entP l t = none := entP_no (by unfold inP; simp; omega)
      simp [treeF, this]
    | succ f =>
      simp only [treeF]
      cases hi : inP l t with
      | false => rw [entP_no hi]
      | true =>
        obtain ⟨i, e, rfl, hlt, hg, he⟩ := entP_in hi
        rw [he]
        have hl := (hw.wf i e hg).lt
        have e1 := ih f e.n.a (by omega) (by omega)
        have e2 := ih f e.n.b (by omega) (by omega)
        simp only [e1, e2]
theorem treeP_eq {l : List En} (hw : wfP l) {i : Nat} {e : En} (h : l[i]? = some e) :
    treeP l ((i : Int) + 1) = .mk e.n.kind e.n.frm e.n.dst e.n.num e.n.text (if kidsN e.n.kind = 2 then [treeP l e.n.a, treeP l e.n.b] else if kidsN e.n.kind = 1 then [treeP l e.n.a] else []) := by
  have hl := (hw.wf i e h).lt
  unfold treeP
  rw [show ((i : Int) + 1).toNat = i + 1 by omega]
  simp only [treeF, entP_i h]
  rw [treeF_fuel hw e.n.a.toNat i e.n.a (by omega) (by omega), treeF_fuel hw e.n.b.toNat i e.n.b (by omega) (by omega)]
theorem treeP_no {l : List En} {t : Int} (h : inP l t = false) : treeP l t = .zero := by
  unfold treeP
  cases t.toNat with
  | zero => rfl
  | succ k => simp [treeF, entP_no h]
theorem treeF_mono {l m : List En} (hw : wfP l) : ∀ (f : Nat) (t : Int), t ≤ l.length → treeF (l ++ m) f t = treeF l f t := by
  intro f
  induction f with
  | zero => intro t _; rfl
  | succ f ih =>
    intro t h
    simp only [treeF]
    rw [entP_mono h]
    cases hi : inP l t with
    | false => rw [entP_no hi]
    | true =>
      obtain ⟨i, e, rfl, hlt, hg, he⟩ := entP_in hi
      rw [he]
      have hl := (hw.wf i e hg).lt
      simp only [ih e.n.a (by omega), ih e.n.b (by omega)]
theorem treeP_mono {l m : List En} (hw : wfP l) {t : Int} (h : t ≤ l.length) : treeP (l ++ m) t = treeP l t := treeF_mono hw _ t h
theorem findN_some {n : Nd} : ∀ (l : List En) (i k : Nat), findN l n k = some i → k ≤ i ∧ ∃ e, l[i - k]? = some e ∧ e.n = n
  | [], i, k, h => by cases h
  | e :: l, i, k, h => by
    simp only [findN] at h
    split at h
    · rename_i hb
      cases h
      exact ⟨Nat.le_refl _, e, by simp, Nd.beq_iff.1 hb⟩
    · obtain ⟨h1, e', h2, h3⟩ := findN_some l i (k + 1) h
      refine ⟨by omega, e', ?_, h3⟩
      rw [show i - k = (i - (k + 1)) + 1 by omega]
      simpa using h2
theorem findN_app {n : Nd} {m : List En} : ∀ (l : List En) (k : Nat), findN (l ++ m) n k = match findN l n k with | some i => some i | none => findN m n (k + l.length)
  | [], k => by simp [findN]
  | e :: l, k => by
    simp only [List.cons_append, findN]
    split
    · rfl
    · rw [findN_app l (k + 1)]
      simp only [List.length_cons]
      rw [show k + 1 + l.length = k + (l.length + 1) by omega]
theorem wfP_nil : wfP [] := ⟨okP_nil, fun i e h => by simp at h⟩
theorem check_of {l : List En} {n : Nd} (h : checkE l n = 0) : shapeE n = 0 ∧ missE l n = false ∧ bigS l n ≤ 4096 ∧ bigD l n ≤ 64 := by
  unfold checkE at h
  split at h
  · rename_i h3; exact absurd h h3
  rename_i hs
  split at h
  · cases h
  rename_i hm
  split at h
  · cases h
  rename_i hb
  exact ⟨by simpa using hs, by simpa using hm, by omega, by omega⟩
theorem miss_of {l : List En} {n : Nd} (h : missE l n = false) : (1 ≤ kidsN n.kind → inP l n.a = true) ∧ (kidsN n.kind = 2 → inP l n.b = true) := by
  unfold missE at h
  simp only [Bool.or_eq_false_iff, Bool.and_eq_false_iff, decide_eq_false_iff_not, beq_eq_false_iff_ne, Bool.not_eq_false'] at h
  exact ⟨fun h1 => by rcases h.1 with h | h; exact absurd h1 h; exact h, fun h1 => by rcases h.2 with h | h; exact absurd h1 h; exact h⟩
theorem inP_bd {l : List En} {t : Int} (h : inP l t = true) : 1 ≤ t ∧ t ≤ l.length := by
  unfold inP at h; simpa using h
theorem kid_le {l : List En} {n : Nd} (hs : shapeE n = 0) (hm : missE l n = false) : n.a ≤ l.length ∧ n.b ≤ l.length := by
  have hk := kidsN_le n.kind
  have hp := plain_kids hs
  have hi := miss_of hm
  constructor
  · by_cases h0 : kidsN n.kind = 0
    · rw [hp.1 h0]; omega
    · exact (inP_bd (hi.1 (by omega))).2
  · by_cases h0 : kidsN n.kind ≤ 1
    · rw [hp.2 h0]; omega
    · exact (inP_bd (hi.2 (by omega))).2
/-- what Make leaves is well made -/
theorem wfP_make {l : List En} {n : Nd} (hw : wfP l) : wfP (makeE l n).1 := by
  refine ⟨okP_make hw.ok, ?_⟩
  unfold makeE
  split
  · exact hw.wf
  rename_i hc
  split
  · exact hw.wf
  rename_i hf
  split
  · exact hw.wf
  have hc : checkE l n = 0 := by simpa using hc
  obtain ⟨hs, hm, hb1, hb2⟩ := check_of hc
  have hkl := kid_le hs hm
  have hin := miss_of hm
  intro i e hi
  have hi : (l ++ [⟨n, bigS l n, bigD l n⟩])[i]? = some e := hi
  by_cases hil : i < l.length
  · rw [List.getElem?_append_left hil] at hi
    have h := hw.wf i e hi
    have hlt := h.lt
    refine ⟨h.sh, h.a1, h.b1, ?_, ?_, ?_⟩
    · rw [h.sz]; unfold bigS; rw [sizeP_mono (by omega), sizeP_mono (by omega)]
    · rw [h.dp]; unfold bigD; rw [deepP_mono (by omega), deepP_mono (by omega)]
    · rw [findN_app, h.fi]
  · rw [List.getElem?_append_right (by omega)] at hi
    obtain ⟨hl, he⟩ := List.getElem?_eq_some_iff.1 hi
    have h0 : i = l.length := by simp at hl; omega
    subst h0
    simp at he
    subst he
    refine ⟨hs, fun h1 => inP_bd (hin.1 h1), fun h1 => inP_bd (hin.2 h1), ?_, ?_, ?_⟩
    · simp only; unfold bigS; rw [sizeP_mono (by omega), sizeP_mono (by omega)]
    · simp only; unfold bigD; rw [deepP_mono (by omega), deepP_mono (by omega)]
    · simp only
      rw [findN_app, hf]
      simp [findN, Nd.beq_iff.2 rfl]
theorem make_app (l : List En) (n : Nd) : ∃ m, (makeE l n).1 = l ++ m ∧ m.length ≤ 1 := by
  unfold makeE
  split
  · exact ⟨[], by simp, by simp⟩
  split
  · exact ⟨[], by simp, by simp⟩
  split
  · exact ⟨[], by simp, by simp⟩
  · exact ⟨[_], rfl, by simp⟩
mutual
theorem grow_app : ∀ (t : Pt) (l : List En), ∃ m, (growT t l).1 = l ++ m ∧ m.length ≤ t.size
  | .mk k f d n t ks, l => by
    simp only [growT, Pt.size]
    exact growK_app ks l 0 _
theorem growK_app : ∀ (ks : List Pt) (l : List En) (i : Nat) (nd : Nd), ∃ m, (growK ks l i nd).1 = l ++ m ∧ m.length ≤ sizeL ks + 1
  | [], l, i, nd => by
    simp only [growK, sizeL]
    exact make_app l nd
  | x :: xs, l, i, nd => by
    obtain ⟨m, h1, h2⟩ := grow_app x l
    simp only [growK, sizeL]
    split
    · obtain ⟨m2, h3, h4⟩ := growK_app xs (growT x l).1 (i + 1) (setK nd i (growT x l).2.1)
      exact ⟨m ++ m2, by rw [h3, h1, List.append_assoc], by simp; omega⟩
    · exact ⟨m, h1, by omega⟩
end
mutual
theorem grow_wf : ∀ (t : Pt) (l : List En), wfP l → wfP (growT t l).1
  | .mk k f d n t ks, l, h => by simp only [growT]; exact growK_wf ks l 0 _ h
theorem growK_wf : ∀ (ks : List Pt) (l : List En) (i : Nat) (nd : Nd), wfP l → wfP (growK ks l i nd).1
  | [], l, i, nd, h => by simp only [growK]; exact wfP_make h
  | x :: xs, l, i, nd, h => by
    simp only [growK]
    split
    · exact growK_wf xs _ _ _ (grow_wf x l h)
    · exact grow_wf x l h
end
end Go.Gx.Trm
