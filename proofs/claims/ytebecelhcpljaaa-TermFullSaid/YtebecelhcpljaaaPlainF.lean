/- Layer 5: a pool that is nearly full: what grows in it beside what grows in an empty one. No program in sight. -/
import Derived.Test.YtebecelhcpljaaaPlain2
set_option linter.unusedVariables false
set_option linter.unusedSimpArgs false
namespace Go.Gx.Trm
open Go.Gx
def memT (l : List En) (t : Pt) : Prop := ∃ k, inP l k = true ∧ treeP l k = t
def nodeT (l : List En) (n : Nd) : Pt := .mk n.kind n.frm n.dst n.num n.text (if kidsN n.kind = 2 then [treeP l n.a, treeP l n.b] else if kidsN n.kind = 1 then [treeP l n.a] else [])
theorem tree_inj {l : List En} (hw : wfP l) {s t : Int} (hs : inP l s = true) (ht : inP l t = true) (h : treeP l s = treeP l t) : s = t := by
  have h1 := grow_tree hw _ s (Nat.le_refl _) hs
  have h2 := grow_tree hw _ t (Nat.le_refl _) ht
  rw [h, h2] at h1
  simp only [Prod.mk.injEq] at h1
  exact h1.2.1.symm
theorem inP_mk {l : List En} {t : Int} (h1 : 1 ≤ t) (h2 : t ≤ l.length) : inP l t = true := by unfold inP; simp [h1, h2]
theorem find_iff {l : List En} (hw : wfP l) {n : Nd} (hs : shapeE n = 0) (hm : missE l n = false) : (∃ i, findN l n 0 = some i) ↔ memT l (nodeT l n) := by
  constructor
  · rintro ⟨i, hi⟩
    obtain ⟨_, e, he, hn⟩ := findN_some l i 0 hi
    have he : l[i]? = some e := he
    obtain ⟨hlt, _⟩ := List.getElem?_eq_some_iff.1 he
    refine ⟨(i : Int) + 1, inP_mk (by omega) (by omega), ?_⟩
    rw [treeP_eq hw he, hn]; rfl
  · rintro ⟨k, hk, ht⟩
    obtain ⟨i, e, rfl, hlt, hg, he⟩ := entP_in hk
    have hE := hw.wf i e hg
    rw [treeP_eq hw hg] at ht
    unfold nodeT at ht
    simp only [Pt.mk.injEq] at ht
    obtain ⟨h1, h2, h3, h4, h5, h6⟩ := ht
    have hp := plain_kids hs
    have hpe := plain_kids hE.sh
    have hin := miss_of hm
    have hk3 := kidsN_le n.kind
    rw [h1] at h6
    have hltE := hE.lt
    have hab : e.n.a = n.a ∧ e.n.b = n.b := by
      by_cases k2 : kidsN n.kind = 2
      · rw [if_pos k2, if_pos k2] at h6
        simp only [List.cons.injEq, and_true] at h6
        have a1 := hE.a1 (by rw [h1]; omega); have b1 := hE.b1 (by rw [h1]; exact k2)
        exact ⟨tree_inj hw (inP_mk a1.1 (by omega)) (hin.1 (by omega)) h6.1, tree_inj hw (inP_mk b1.1 (by omega)) (hin.2 k2) h6.2⟩
      · by_cases k1 : kidsN n.kind = 1
        · rw [if_neg k2, if_neg k2, if_pos k1, if_pos k1] at h6
          simp only [List.cons.injEq, and_true] at h6
          have a1 := hE.a1 (by rw [h1]; omega)
          exact ⟨tree_inj hw (inP_mk a1.1 (by omega)) (hin.1 (by omega)) h6, by rw [hp.2 (by omega), hpe.2 (by rw [h1]; omega)]⟩
        · exact ⟨by rw [hp.1 (by omega), hpe.1 (by rw [h1]; omega)], by rw [hp.2 (by omega), hpe.2 (by rw [h1]; omega)]⟩
    have hn : e.n = n := by
      obtain ⟨⟨x1, x2, x3, x4, x5, x6, x7⟩, _, _⟩ := e
      obtain ⟨y1, y2, y3, y4, y5, y6, y7⟩ := n
      simp only at h1 h2 h3 h4 h5 hab
      obtain ⟨g6, g7⟩ := hab
      clear h6
      subst h1 h2 h3 h4 h5 g6 g7
      rfl
    exact ⟨i, by rw [← hn]; exact hE.fi⟩
/-! ### what Make does, case by case -/
theorem make_found {l : List En} {n : Nd} {i : Nat} (hc : checkE l n = 0) (hf : findN l n 0 = some i) : makeE l n = (l, (i : Int) + 1, 0) := by unfold makeE; rw [if_neg (by simpa using hc), hf]
theorem make_fresh {l : List En} {n : Nd} (hc : checkE l n = 0) (hf : findN l n 0 = none) (hr : l.length < 65536) : makeE l n = (l ++ [⟨n, bigS l n, bigD l n⟩], (l.length : Int) + 1, 0) := by
  unfold makeE; rw [if_neg (by simpa using hc), hf]; simp only; rw [if_neg (by omega)]
theorem make_many {l : List En} {n : Nd} (hc : checkE l n = 0) (hf : findN l n 0 = none) (hr : 65536 ≤ l.length) : makeE l n = (l, 0, 6) := by
  unfold makeE; rw [if_neg (by simpa using hc), hf]; simp only; rw [if_pos hr]
theorem check_ok {l : List En} {n : Nd} (hs : shapeE n = 0) (hm : missE l n = false) (hb : bigS l n ≤ 4096) (hd : bigD l n ≤ 64) : checkE l n = 0 := by
  unfold checkE
  rw [if_neg (by simpa using hs), hm, if_neg (by decide), if_neg (by omega)]
theorem memT_snoc {l : List En} {e : En} (hw : wfP l) (hw2 : wfP (l ++ [e])) (t : Pt) : memT (l ++ [e]) t ↔ memT l t ∨ t = treeP (l ++ [e]) ((l.length : Int) + 1) := by
  constructor
  · rintro ⟨k, hk, rfl⟩
    have hb := inP_bd hk
    simp only [List.length_append, List.length_cons, List.length_nil] at hb
    by_cases h : k ≤ l.length
    · exact .inl ⟨k, inP_mk hb.1 h, (treeP_mono hw h).symm⟩
    · have : k = (l.length : Int) + 1 := by omega
      subst this
      exact .inr rfl
  · rintro (⟨k, hk, rfl⟩ | rfl)
    · exact ⟨k, inP_mono hk, treeP_mono hw (inP_bd hk).2⟩
    · exact ⟨_, inP_mk (by omega) (by simp), rfl⟩
theorem tree_new {l : List En} {n : Nd} {s d : Int} (hw : wfP l) (hw2 : wfP (l ++ [⟨n, s, d⟩])) (hs : shapeE n = 0) (hm : missE l n = false) : treeP (l ++ [⟨n, s, d⟩]) ((l.length : Int) + 1) = nodeT l n := by
  have hkl := kid_le hs hm
  rw [treeP_eq hw2 (i := l.length) (e := ⟨n, s, d⟩) (by simp)]
  simp only [nodeT]
  rw [treeP_mono hw hkl.1, treeP_mono hw hkl.2]
/-! ### numbers from 0 on -/
def numN (i : Int) : Nd := ⟨2, 0, 0, i, ⟨#[]⟩, 0, 0⟩
def numsB (m : Nat) : List En := (List.range m).map fun (i : Nat) => ⟨numN (i : Int), 1, 1⟩
def numT (i : Int) : Pt := .mk 2 0 0 i ⟨#[]⟩ []
theorem numsB_len (m : Nat) : (numsB m).length = m := by simp [numsB]
theorem numsB_succ (m : Nat) : numsB (m + 1) = numsB m ++ [⟨numN m, 1, 1⟩] := by simp [numsB, List.range_succ]
theorem find_num : ∀ (k : Nat) (l : List En) (j : Nat) (n : Int), (∀ e ∈ l, ∃ i : Nat, e.n = numN i ∧ (i : Int) < n) → findN l (numN n) j = none := by
  intro k l
  induction l with
  | nil => intro j n _; rfl
  | cons e l ih =>
    intro j n h
    obtain ⟨i, hi, hlt⟩ := h e (by simp)
    have hb : e.n.beq (numN n) = false := by
      cases hb : e.n.beq (numN n) with
      | false => rfl
      | true =>
        have := Nd.beq_iff.1 hb
        rw [hi] at this
        simp only [numN, Nd.mk.injEq] at this
        omega
    simp only [findN, hb]
    exact ih (j + 1) n (fun e he => h e (by simp [he]))
theorem num_check (l : List En) (i : Int) : checkE l (numN i) = 0 ∧ bigS l (numN i) = 1 ∧ bigD l (numN i) = 1 := by
  have h0 : entP l 0 = none := entP_no (by unfold inP; simp)
  have hk : kidsN 2 = 0 := by decide
  have hs : shapeE (numN i) = 0 := by simp [shapeE, plainN, own, numN, kOk, named, two, hk, sEq, fieldsE, namesE]; first | rfl | exact if_neg (by decide)
  have hb : bigS l (numN i) = 1 := by simp [bigS, numN, sizeP, h0]
  have hd : bigD l (numN i) = 1 := by simp [bigD, numN, deepP, h0]
  have hm : missE l (numN i) = false := by simp [missE, numN, hk]
  exact ⟨check_ok hs hm (by rw [hb]; omega) (by rw [hd]; omega), hb, hd⟩
theorem numsB_make {k : Nat} (hk : k < 65536) : makeE (numsB k) (numN k) = (numsB (k + 1), (k : Int) + 1, 0) := by
  obtain ⟨h1, h2, h3⟩ := num_check (numsB k) k
  have hf : findN (numsB k) (numN k) 0 = none := find_num k (numsB k) 0 k (by
    intro e he
    simp only [numsB, List.mem_map, List.mem_range] at he
    obtain ⟨i, hi, rfl⟩ := he
    exact ⟨i, rfl, by omega⟩)
  rw [make_fresh h1 hf (by rw [numsB_len]; exact hk), h2, h3, numsB_len, numsB_succ]
theorem numsB_wf : ∀ k : Nat, k ≤ 65536 → wfP (numsB k)
  | 0, _ => by show wfP []; exact wfP_nil
  | k + 1, h => by
    have h1 := wfP_make (n := numN k) (numsB_wf k (by omega))
    rw [numsB_make (by omega)] at h1
    exact h1
theorem numsB_get {m i : Nat} (h : i < m) : (numsB m)[i]? = some ⟨numN i, 1, 1⟩ := by simp [numsB, h]
theorem numsB_tree {m i : Nat} (hm : m ≤ 65536) (h : i < m) : treeP (numsB m) ((i : Int) + 1) = numT i := by
  rw [treeP_eq (numsB_wf m hm) (numsB_get h)]
  rfl
theorem numsB_mem {m : Nat} (hm : m ≤ 65536) (t : Pt) : memT (numsB m) t ↔ ∃ i : Nat, i < m ∧ t = numT i := by
  constructor
  · rintro ⟨k, hk, rfl⟩
    have hb := inP_bd hk
    rw [numsB_len] at hb
    obtain ⟨i, rfl⟩ : ∃ i : Nat, k = (i : Int) + 1 := ⟨(k - 1).toNat, by omega⟩
    exact ⟨i, by omega, numsB_tree hm (by omega)⟩
  · rintro ⟨i, hi, rfl⟩
    exact ⟨(i : Int) + 1, inP_mk (by omega) (by rw [numsB_len]; omega), numsB_tree hm hi⟩
/-! ### side by side -/
def isNew (m : Nat) (e : En) : Bool := !(e.n.kind == 2 && decide (e.n.num < m))
def freshN (m : Nat) (l : List En) : Nat := (l.filter (isNew m)).length
theorem freshN_app (m : Nat) (l k : List En) : freshN m (l ++ k) = freshN m l + freshN m k := by simp [freshN]
theorem freshN_le (m : Nat) (l k : List En) : freshN m l ≤ freshN m (l ++ k) := by rw [freshN_app]; omega
/-- a node of numbers is in the base just if it is counted so -/
theorem new_iff {m : Nat} (hm : m ≤ 65536) {l : List En} {n : Nd} {s d : Int} (hs : shapeE n = 0) (h0 : 0 ≤ n.num) : isNew m ⟨n, s, d⟩ = true ↔ ¬ memT (numsB m) (nodeT l n) := by
  rw [numsB_mem hm]
  obtain ⟨k, f, dd, nu, tx, a, b⟩ := n
  simp only at h0
  constructor
  · rintro hn ⟨i, hi, ht⟩
    simp only [nodeT, numT, Pt.mk.injEq] at ht
    obtain ⟨rfl, _, _, rfl, _, _⟩ := ht
    simp [isNew] at hn
    omega
  · intro hn
    cases hb : isNew m ⟨⟨k, f, dd, nu, tx, a, b⟩, s, d⟩ with
    | true => rfl
    | false =>
      exfalso
      simp [isNew] at hb
      obtain ⟨rfl, hlt⟩ := hb
      obtain ⟨i, rfl⟩ : ∃ i : Nat, nu = (i : Int) := ⟨nu.toNat, by omega⟩
      refine hn ⟨i, by omega, ?_⟩
      have hp : plainN ⟨2, f, dd, i, tx, a, b⟩ = true := by
        unfold shapeE at hs
        split at hs
        · assumption
        · cases hs
      have hk : kidsN 2 = 0 := by decide
      simp [plainN, own, kOk, named, two, hk, sEq_iff] at hp
      obtain ⟨⟨⟨⟨rfl, rfl⟩, rfl⟩, _⟩, _⟩ := hp
      simp [nodeT, numT, hk]
structure Sim (m : Nat) (lq mp : List En) : Prop where
  len : mp.length = freshN m lq
  mem : ∀ t, memT (numsB m ++ mp) t ↔ memT lq t ∨ memT (numsB m) t
/-- the two makes: alike, or the second has no room and too many are fresh -/
def MadeBoth (m left : Nat) (lq mp mq : List En) (r : List En × Int × Int) (S D : Int) (t : Pt) : Prop :=
  (∃ (m2 : List En) (kp : Int), r = (numsB m ++ mp ++ m2, kp, 0) ∧ inP (numsB m ++ mp ++ m2) kp = true ∧ sizeP (numsB m ++ mp ++ m2) kp = S ∧ deepP (numsB m ++ mp ++ m2) kp = D ∧ treeP (numsB m ++ mp ++ m2) kp = t ∧ Sim m (lq ++ mq) (mp ++ m2)) ∨
    (r.2.2 = 6 ∧ left < freshN m (lq ++ mq))
theorem sim_make {m left : Nat} (hml : m + left = 65536) {lq mp : List En} (hwq : wfP lq) (hwp : wfP (numsB m ++ mp)) (hS : Sim m lq mp) {nq np : Nd} (hsq : shapeE nq = 0) (hsp : shapeE np = 0) (hmq : missE lq nq = false) (hmp : missE (numsB m ++ mp) np = false)
    (hbq : bigS lq nq ≤ 4096) (hdq : bigD lq nq ≤ 64) (hbp : bigS (numsB m ++ mp) np ≤ 4096) (hdp : bigD (numsB m ++ mp) np ≤ 64) (ht : nodeT lq nq = nodeT (numsB m ++ mp) np) (hrq : lq.length < 65536) (h0 : 0 ≤ nq.num) :
    ∃ (mq : List En) (kq : Int), makeE lq nq = (lq ++ mq, kq, 0) ∧ MadeBoth m left lq mp mq (makeE (numsB m ++ mp) np) (bigS (numsB m ++ mp) np) (bigD (numsB m ++ mp) np) (nodeT (numsB m ++ mp) np) := by
  have hm : m ≤ 65536 := by omega
  have hcq := check_ok hsq hmq hbq hdq
  have hcp := check_ok hsp hmp hbp hdp
  have hfq := find_iff hwq hsq hmq
  have hfp := find_iff hwp hsp hmp
  -- where it is found in the second pool
  have found : memT (numsB m ++ mp) (nodeT (numsB m ++ mp) np) → ∃ kp, makeE (numsB m ++ mp) np = (numsB m ++ mp, kp, 0) ∧ inP (numsB m ++ mp) kp = true ∧ sizeP (numsB m ++ mp) kp = bigS (numsB m ++ mp) np ∧ deepP (numsB m ++ mp) kp = bigD (numsB m ++ mp) np ∧ treeP (numsB m ++ mp) kp = nodeT (numsB m ++ mp) np := by
    intro h
    obtain ⟨i, hi⟩ := hfp.2 h
    obtain ⟨m9, k9, e1, e2, e3, e4, e5⟩ := make_node hwp hsp hmp hbp hdp (.inr ⟨i, hi⟩)
    have e6 := make_found hcp hi
    rw [e6] at e1
    simp only [Prod.mk.injEq] at e1
    obtain ⟨e1, rfl, _⟩ := e1
    have e1 : m9 = [] := by simpa using e1
    subst e1
    rw [List.append_nil] at e2 e3 e4 e5
    exact ⟨_, e6, e2, e3, e4, e5⟩
  cases hq : findN lq nq 0 with
  | some i =>
    have hmem : memT (numsB m ++ mp) (nodeT (numsB m ++ mp) np) := (hS.mem _).2 (.inl (by rw [← ht]; exact hfq.1 ⟨i, hq⟩))
    obtain ⟨kp, e1, e2, e3, e4, e5⟩ := found hmem
    refine ⟨[], _, by rw [List.append_nil]; exact make_found hcq hq, .inl ⟨[], kp, by rw [List.append_nil]; exact e1, by rw [List.append_nil]; exact e2, by rw [List.append_nil]; exact e3, by rw [List.append_nil]; exact e4, by rw [List.append_nil]; exact e5, by rw [List.append_nil, List.append_nil]; exact hS⟩⟩
  | none =>
    have eq := make_fresh hcq hq hrq
    have hwq2 : wfP (lq ++ [⟨nq, bigS lq nq, bigD lq nq⟩]) := by have := wfP_make (n := nq) hwq; rw [eq] at this; exact this
    have htq := tree_new hwq hwq2 hsq hmq
    have hnew := new_iff (s := bigS lq nq) (d := bigD lq nq) (l := lq) hm hsq h0
    refine ⟨_, _, eq, ?_⟩
    by_cases hb : memT (numsB m) (nodeT lq nq)
    · have hmem : memT (numsB m ++ mp) (nodeT (numsB m ++ mp) np) := (hS.mem _).2 (.inr (by rw [← ht]; exact hb))
      obtain ⟨kp, e1, e2, e3, e4, e5⟩ := found hmem
      have hno : isNew m ⟨nq, bigS lq nq, bigD lq nq⟩ = false := by
        cases h : isNew m ⟨nq, bigS lq nq, bigD lq nq⟩ with
        | false => rfl
        | true => exact absurd hb (hnew.1 h)
      refine .inl ⟨[], kp, by rw [List.append_nil]; exact e1, by rw [List.append_nil]; exact e2, by rw [List.append_nil]; exact e3, by rw [List.append_nil]; exact e4, by rw [List.append_nil]; exact e5, ?_, ?_⟩
      · rw [List.append_nil, freshN_app, hS.len]; simp [freshN, hno]
      · intro t
        rw [List.append_nil, hS.mem, memT_snoc hwq hwq2, htq]
        constructor
        · rintro (h | h)
          · exact .inl (.inl h)
          · exact .inr h
        · rintro ((h | h) | h)
          · exact .inl h
          · rw [h]; exact .inr hb
          · exact .inr h
    · have hyes := hnew.2 hb
      have hnm : ¬ memT (numsB m ++ mp) (nodeT (numsB m ++ mp) np) := by
        rw [hS.mem, ← ht]
        rintro (h | h)
        · obtain ⟨i, hi⟩ := hfq.2 h
          rw [hq] at hi; cases hi
        · exact hb h
      have hfn : findN (numsB m ++ mp) np 0 = none := by
        cases h : findN (numsB m ++ mp) np 0 with
        | none => rfl
        | some i => exact absurd (hfp.1 ⟨i, h⟩) hnm
      have hfr : freshN m (lq ++ [⟨nq, bigS lq nq, bigD lq nq⟩]) = freshN m lq + 1 := by rw [freshN_app]; simp [freshN, hyes]
      have hlp : (numsB m ++ mp).length = m + freshN m lq := by rw [List.length_append, numsB_len, hS.len]
      by_cases hr : (numsB m ++ mp).length < 65536
      · have ep := make_fresh hcp hfn hr
        have hwp2 : wfP (numsB m ++ mp ++ [⟨np, bigS (numsB m ++ mp) np, bigD (numsB m ++ mp) np⟩]) := by have := wfP_make (n := np) hwp; rw [ep] at this; exact this
        have htp := tree_new hwp hwp2 hsp hmp
        have hin := entP_i (l := numsB m ++ mp ++ [⟨np, bigS (numsB m ++ mp) np, bigD (numsB m ++ mp) np⟩]) (i := (numsB m ++ mp).length) (e := ⟨np, bigS (numsB m ++ mp) np, bigD (numsB m ++ mp) np⟩) (by simp)
        refine .inl ⟨_, _, ep, inP_mk (by omega) (by simp only [List.length_append, List.length_cons, List.length_nil]; omega), by simp only [sizeP, hin], by simp only [deepP, hin], htp, ?_, ?_⟩
        · rw [List.length_append, hfr, hS.len]; rfl
        · intro t
          rw [← List.append_assoc, memT_snoc hwp hwp2, memT_snoc hwq hwq2, htq, htp, hS.mem, ht]
          constructor
          · rintro ((h | h) | h)
            · exact .inl (.inl h)
            · exact .inr h
            · exact .inl (.inr h)
          · rintro ((h | h) | h)
            · exact .inl (.inl h)
            · exact .inr h
            · exact .inl (.inr h)
      · exact .inr ⟨by rw [make_many hcp hfn (by omega)], by rw [hfr]; omega⟩
end Go.Gx.Trm
