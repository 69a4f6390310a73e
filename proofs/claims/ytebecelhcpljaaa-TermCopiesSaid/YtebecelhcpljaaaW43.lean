/- The document's Copy. -/
import Derived.Test.YtebecelhcpljaaaPlainQ
import Derived.Test.YtebecelhcpljaaaGxRfG
import Derived.Test.YtebecelhcpljaaaGxMpG
import Derived.Test.YtebecelhcpljaaaW40
import Derived.Test.YtebecelhcpljaaaW25
import Derived.Sort.LoopGhostIn
import Derived.Deep.Cut
import Derived.TacticsInMore
import Derived.Shelf.Abstract
import Derived.WalkKit
import Derived.Lib.Hide
import Derived.Deep.LoopGhost
import Derived.WalkSpells
set_option linter.unusedVariables false
set_option linter.unusedSimpArgs false
namespace Go.Gx.Trm
open Go Go.Gx
/-! ### what stands in a term was told before it -/
def OrdO (l : List En) (out : List Int) : Prop := ∀ pre s post, out = pre ++ s :: post → (inP l (nodeQ l s).a = true → (nodeQ l s).a ∈ pre) ∧ (inP l (nodeQ l s).b = true → (nodeQ l s).b ∈ pre)
theorem over_mem {l : List En} (hw : wfP l) {f : Nat} {t : Int} {out : List Int} (hi : inP l t = true) (hf : t.toNat ≤ f) : t ∈ overF l f t out := by
  have := inP_bd hi
  cases f with
  | zero => omega
  | succ f =>
    unfold overF
    split
    · simp
    · rename_i h
      by_cases hm : t ∈ out
      · exact hm
      · exact absurd ⟨hi, hm⟩ h
theorem over_ord {l : List En} (hw : wfP l) : ∀ (f : Nat) (t : Int) (out : List Int), t.toNat ≤ f → OrdO l out → OrdO l (overF l f t out)
  | 0, t, out, _, h => by simpa [overF] using h
  | f + 1, t, out, hf, h => by
    unfold overF
    split
    · rename_i ht
      have hb := inP_bd ht.1
      have hk := kids_lt hw ht.1
      have h1 := over_ord hw f (nodeQ l t).a out (by omega) h
      have h2 := over_ord hw f (nodeQ l t).b _ (by omega) h1
      intro pre s post he
      rcases List.append_eq_append_iff.1 he with ⟨a9, e1, e2⟩ | ⟨bs, e1, e2⟩
      · cases a9 with
        | nil =>
          simp only [List.append_nil] at e1
          simp only [List.nil_append, List.cons.injEq] at e2
          obtain ⟨rfl, _⟩ := e2
          subst e1
          refine ⟨fun hi => seen_mono hw (over_mem hw hi (by omega)), fun hi => over_mem hw hi (by omega)⟩
        | cons x a9 => simp at e2
      · cases bs with
        | nil =>
          simp only [List.append_nil] at e1
          simp only [List.nil_append, List.cons.injEq] at e2
          obtain ⟨rfl, _⟩ := e2
          subst e1
          refine ⟨fun hi => seen_mono hw (over_mem hw hi (by omega)), fun hi => over_mem hw hi (by omega)⟩
        | cons x bs =>
          simp only [List.cons_append, List.cons.injEq] at e2
          obtain ⟨rfl, _⟩ := e2
          exact h2 pre s bs e1
    · exact h
theorem subs_ord {l : List En} (hw : wfP l) (t : Int) : OrdO l (subsP l t) := by
  by_cases hi : inP l t = true
  · have := inP_bd hi
    exact over_ord hw _ t [] (by omega) (fun pre s post h => by simp at h)
  · have : subsP l t = [] := over_no (by simp [hi])
    rw [this]
    intro pre s post h; simp at h
theorem subs_mem {l : List En} (hw : wfP l) {t : Int} (hi : inP l t = true) : t ∈ subsP l t := by
  have := inP_bd hi
  exact over_mem hw hi (by omega)
/-! ### the copy -/
/-- what was copied: pairs (term there, term here) -/
def getO (own : List (Int × Int)) (k : Int) : Int := match own.find? (fun p => p.1 == k) with | some p => p.2 | none => 0
theorem getO_no {own : List (Int × Int)} {k : Int} (h : ¬ k ∈ own.map Prod.fst) : getO own k = 0 := by
  unfold getO
  rw [List.find?_eq_none.2]
  intro p hp
  simp only [beq_iff_eq]
  intro e
  exact h (List.mem_map.2 ⟨p, hp, e⟩)
theorem getO_app {own : List (Int × Int)} {k : Int} {p : Int × Int} (h : k ∈ own.map Prod.fst) : getO (own ++ [p]) k = getO own k := by
  obtain ⟨q, hq, rfl⟩ := List.mem_map.1 h
  unfold getO
  rw [List.find?_append]
  cases hf : own.find? (fun p => p.1 == q.1) with
  | some r => rfl
  | none => have := List.find?_eq_none.1 hf q hq; simp at this
theorem getO_new {own : List (Int × Int)} {k v : Int} (h : ¬ k ∈ own.map Prod.fst) : getO (own ++ [(k, v)]) k = v := by
  unfold getO
  rw [List.find?_append]
  have : own.find? (fun p => p.1 == k) = none := by
    rw [List.find?_eq_none]
    intro p hp
    simp only [beq_iff_eq]
    intro e
    exact h (List.mem_map.2 ⟨p, hp, e⟩)
  rw [this]; simp
theorem getO_ne {own : List (Int × Int)} {k s v : Int} (h : ¬ k = s) : getO (own ++ [(s, v)]) k = getO own k := by
  unfold getO
  rw [List.find?_append]
  cases hf : own.find? (fun p => p.1 == k) with
  | some r => rfl
  | none =>
    have : ([(s, v)] : List (Int × Int)).find? (fun p => p.1 == k) = none := by
      rw [List.find?_eq_none]; intro p hp; simp only [List.mem_singleton] at hp; subst hp; simp only [beq_iff_eq]; exact fun e => h e.symm
    rw [this]; rfl
def cpN (lq : List En) (own : List (Int × Int)) (s : Int) : Nd := { nodeQ lq s with a := getO own (nodeQ lq s).a, b := getO own (nodeQ lq s).b }
def cpF (lq : List En) : List Int → List En → List (Int × Int) → List En × List (Int × Int)
  | [], lp, own => (lp, own)
  | s :: l, lp, own => cpF lq l (makeE lp (cpN lq own s)).1 (own ++ [(s, (makeE lp (cpN lq own s)).2.1)])
theorem cpF_app (lq : List En) : ∀ (l m : List Int) (lp : List En) (own : List (Int × Int)), cpF lq (l ++ m) lp own = cpF lq m (cpF lq l lp own).1 (cpF lq l lp own).2
  | [], m, lp, own => rfl
  | s :: l, m, lp, own => by simp only [List.cons_append, cpF]; exact cpF_app lq l m _ _
/-- what is so while it is copied -/
structure CpI (lq lp0 : List En) (pre : List Int) (lp : List En) (own : List (Int × Int)) : Prop where
  wf : wfP lp
  keys : own.map Prod.fst = pre
  ok : ∀ k ∈ pre, inP lp (getO own k) = true ∧ sizeP lp (getO own k) = sizeP lq k ∧ deepP lp (getO own k) = deepP lq k
  len : lp.length ≤ lp0.length + pre.length
theorem CpI.start {lq lp : List En} (h : wfP lp) : CpI lq lp [] lp [] := ⟨h, rfl, by simp, by simp⟩
theorem inP_0 (l : List En) : inP l 0 = false := by unfold inP; simp
theorem zero_sd (l : List En) : sizeP l 0 = 0 ∧ deepP l 0 = 0 := by simp [sizeP, deepP, entP_no (inP_0 l)]
/-- one step: what is copied is made -/
theorem cp_step {lq lp0 lp : List En} {pre : List Int} {own : List (Int × Int)} {s : Int} (hwq : wfP lq) (h : CpI lq lp0 pre lp own) (hs : inP lq s = true) (hn : ¬ s ∈ pre)
    (ha : inP lq (nodeQ lq s).a = true → (nodeQ lq s).a ∈ pre) (hb : inP lq (nodeQ lq s).b = true → (nodeQ lq s).b ∈ pre) (hr : lp0.length + pre.length < 65536) :
    ∃ (lp2 : List En) (c : Int), makeE lp (cpN lq own s) = (lp2, c, 0) ∧ CpI lq lp0 (pre ++ [s]) lp2 (own ++ [(s, c)]) := by
  obtain ⟨i, e, rfl, hlt, hg, he⟩ := entP_in hs
  have hE := hwq.wf i e hg
  have hpk := plain_kids hE.sh
  have hkn := kidsN_le e.n.kind
  have hok := hwq.ok i e hg
  unfold cpN
  rw [nodeQ_some hg] at ha hb ⊢
  have hinl : ∀ {t : Int}, 1 ≤ t → t ≤ i → inP lq t = true := fun h1 h2 => by unfold inP; simp; omega
  -- the two kids
  have kid : ∀ t : Int, (0 ≤ t ∧ t ≤ i) → (inP lq t = true → t ∈ pre) → sizeP lp (getO own t) = sizeP lq t ∧ deepP lp (getO own t) = deepP lq t ∧ (1 ≤ t → inP lp (getO own t) = true) ∧ (t = 0 → getO own t = 0) := fun t ht hm => by
    by_cases h1 : 1 ≤ t
    · have := h.ok t (hm (hinl h1 ht.2))
      exact ⟨this.2.1, this.2.2, fun _ => this.1, fun h0 => by omega⟩
    · have h0 : t = 0 := by omega
      subst h0
      have hz : getO own 0 = 0 := getO_no (fun hk => by
        rw [h.keys] at hk
        have h5 := (h.ok 0 hk).2.1
        have h6 := (h.ok 0 hk).1
        rw [(zero_sd lq).1] at h5
        obtain ⟨k, e', _, _, g1, g2⟩ := entP_in h6
        have := h.wf.ok k e' g1
        simp only [sizeP, g2] at h5
        omega)
      rw [hz]
      exact ⟨by rw [(zero_sd lp).1, (zero_sd lq).1], by rw [(zero_sd lp).2, (zero_sd lq).2], fun h => by omega, fun _ => rfl⟩
  have hA := kid e.n.a hE.lt.1 ha
  have hB := kid e.n.b hE.lt.2 hb
  have hsh : shapeE { e.n with a := getO own e.n.a, b := getO own e.n.b } = 0 := by
    have h0 := hE.sh
    unfold shapeE at h0 ⊢
    split at h0
    · rename_i hp
      rw [if_pos]
      · exact h0
      · unfold plainN at hp ⊢
        simp only [Bool.and_eq_true, Bool.or_eq_true, decide_eq_true_eq, beq_iff_eq] at hp ⊢
        refine ⟨⟨hp.1.1, ?_⟩, ?_⟩
        · rcases hp.1.2 with h | h
          · exact .inl h
          · exact .inr (hA.2.2.2 h)
        · rcases hp.2 with h | h
          · exact .inl h
          · exact .inr (hB.2.2.2 h)
    · cases h0
  have hms : missE lp { e.n with a := getO own e.n.a, b := getO own e.n.b } = false := by
    unfold missE
    simp only [Bool.or_eq_false_iff, Bool.and_eq_false_iff, decide_eq_false_iff_not, beq_eq_false_iff_ne, Bool.not_eq_false']
    refine ⟨?_, ?_⟩
    · by_cases h1 : 1 ≤ kidsN e.n.kind
      · exact .inr (hA.2.2.1 (hE.a1 h1).1)
      · exact .inl h1
    · by_cases h1 : kidsN e.n.kind = 2
      · exact .inr (hB.2.2.1 (hE.b1 h1).1)
      · exact .inl h1
  have hS : bigS lp { e.n with a := getO own e.n.a, b := getO own e.n.b } = e.size := by
    rw [hE.sz]; unfold bigS; rw [hA.1, hB.1]
  have hD : bigD lp { e.n with a := getO own e.n.a, b := getO own e.n.b } = e.deep := by
    rw [hE.dp]; unfold bigD; rw [hA.2.1, hB.2.1]
  have hlen := h.len
  obtain ⟨m, k, h1, h2, h3, h4, _⟩ := make_node h.wf hsh hms (by rw [hS]; omega) (by rw [hD]; omega) (.inl (by omega))
  have hml : m.length ≤ 1 := by
    obtain ⟨m', e1, e2⟩ := make_app lp { e.n with a := getO own e.n.a, b := getO own e.n.b }
    rw [h1] at e1; have := List.append_cancel_left e1; subst this; exact e2
  have hwf2 : wfP (lp ++ m) := by have := wfP_make (n := { e.n with a := getO own e.n.a, b := getO own e.n.b }) h.wf; rw [h1] at this; exact this
  have hnk : ¬ (i : Int) + 1 ∈ own.map Prod.fst := by rw [h.keys]; exact hn
  refine ⟨lp ++ m, k, h1, hwf2, by rw [List.map_append, h.keys]; rfl, ?_, by simp only [List.length_append, List.length_singleton]; omega⟩
  intro j hj
  by_cases hji : j = (i : Int) + 1
  · subst hji
    rw [getO_new hnk]
    refine ⟨h2, ?_, ?_⟩
    · rw [h3, hS]; simp only [sizeP, he]
    · rw [h4, hD]; simp only [deepP, he]
  · have hjp : j ∈ pre := by
      rcases List.mem_append.1 hj with h | h
      · exact h
      · exact absurd (List.mem_singleton.1 h) hji
    rw [getO_ne hji]
    obtain ⟨g1, g2, g3⟩ := h.ok j hjp
    have hle := (inP_bd g1).2
    exact ⟨inP_mono g1, by rw [sizeP_mono hle, g2], by rw [deepP_mono hle, g3]⟩
theorem rev_ind {α : Type} {p : List α → Prop} (h0 : p []) (h1 : ∀ l a, p l → p (l ++ [a])) : ∀ l, p l := fun l => by
  have h : ∀ m : List α, p m.reverse := fun m => by
    induction m with
    | nil => exact h0
    | cons a m ih => rw [List.reverse_cons]; exact h1 _ _ ih
  have := h l.reverse
  rwa [List.reverse_reverse] at this
/-- all of it: before each step it is so -/
theorem cp_all {lq lp0 : List En} (hwq : wfP lq) (hwp : wfP lp0) {full : List Int} (hG : GoodO lq full) (hO : OrdO lq full) (hr : lp0.length + lq.length ≤ 65536) : ∀ (pre post : List Int), full = pre ++ post → CpI lq lp0 pre (cpF lq pre lp0 []).1 (cpF lq pre lp0 []).2 := by
  intro pre
  induction pre using rev_ind with
  | h0 => intro post _; exact CpI.start hwp
  | h1 pre s ih =>
    intro post hf
    have hf2 : full = pre ++ s :: post := by rw [hf]; simp
    have h1 := ih (s :: post) hf2
    have hs : inP lq s = true := hG.mem s (by rw [hf2]; simp)
    have hnd := hG.nd
    rw [hf2] at hnd
    have hn : ¬ s ∈ pre := fun hm => (List.nodup_append.1 hnd).2.2 s hm s (by simp) rfl
    have hk := hO pre s post hf2
    have hl := hG.len
    rw [hf2] at hl
    simp only [List.length_append, List.length_cons] at hl
    obtain ⟨lp2, c, h2, h3⟩ := cp_step hwq h1 hs hn hk.1 hk.2 (by omega)
    rw [cpF_app]
    simp only [cpF]
    rw [h2]
    exact h3
theorem cp_make {lq lp0 : List En} (hwq : wfP lq) (hwp : wfP lp0) {full : List Int} (hG : GoodO lq full) (hO : OrdO lq full) (hr : lp0.length + lq.length ≤ 65536) {pre post : List Int} {s : Int} (hf : full = pre ++ s :: post) :
    makeE (cpF lq pre lp0 []).1 (cpN lq (cpF lq pre lp0 []).2 s) = ((cpF lq (pre ++ [s]) lp0 []).1, getO (cpF lq (pre ++ [s]) lp0 []).2 s, 0) ∧ (cpF lq (pre ++ [s]) lp0 []).2 = (cpF lq pre lp0 []).2 ++ [(s, getO (cpF lq (pre ++ [s]) lp0 []).2 s)] := by
  have h1 := cp_all hwq hwp hG hO hr pre (s :: post) hf
  have hs : inP lq s = true := hG.mem s (by rw [hf]; simp)
  have hnd := hG.nd
  rw [hf] at hnd
  have hn : ¬ s ∈ pre := fun hm => (List.nodup_append.1 hnd).2.2 s hm s (by simp) rfl
  have hk := hO pre s post hf
  have hl := hG.len
  rw [hf] at hl
  simp only [List.length_append, List.length_cons] at hl
  obtain ⟨lp2, c, h2, h3⟩ := cp_step hwq h1 hs hn hk.1 hk.2 (by omega)
  have e : cpF lq (pre ++ [s]) lp0 [] = (lp2, (cpF lq pre lp0 []).2 ++ [(s, c)]) := by
    rw [cpF_app]; simp only [cpF]; rw [h2]
  rw [e]
  have hg : getO ((cpF lq pre lp0 []).2 ++ [(s, c)]) s = c := getO_new (by rw [h1.keys]; exact hn)
  simp only [hg]
  exact ⟨h2, trivial⟩
/-! ### a pool copied into itself -/
theorem make_of {l : List En} (hw : wfP l) {i : Nat} {e : En} (hg : l[i]? = some e) : checkE l e.n = 0 ∧ findN l e.n 0 = some i := by
  have hE := hw.wf i e hg
  have hlt := (List.getElem?_eq_some_iff.1 hg).1
  have hok := hw.ok i e hg
  have hin : ∀ {t : Int}, 1 ≤ t → t ≤ i → inP l t = true := fun h1 h2 => by unfold inP; simp; omega
  have hms : missE l e.n = false := by
    unfold missE
    simp only [Bool.or_eq_false_iff, Bool.and_eq_false_iff, decide_eq_false_iff_not, beq_eq_false_iff_ne, Bool.not_eq_false']
    refine ⟨?_, ?_⟩
    · by_cases h1 : 1 ≤ kidsN e.n.kind
      · have := hE.a1 h1; exact .inr (hin this.1 this.2)
      · exact .inl h1
    · by_cases h1 : kidsN e.n.kind = 2
      · have := hE.b1 h1; exact .inr (hin this.1 this.2)
      · exact .inl h1
  refine ⟨?_, hE.fi⟩
  unfold checkE
  rw [if_neg (by simpa using hE.sh), hms, if_neg (by decide), if_neg (by rw [← hE.sz, ← hE.dp]; omega)]
def idO (l : List Int) : List (Int × Int) := l.map fun k => (k, k)
theorem idO_fst (l : List Int) : (idO l).map Prod.fst = l := by simp [idO, Function.comp_def]
theorem getO_id (l : List Int) (k : Int) : getO (idO l) k = if k ∈ l then k else 0 := by
  induction l with
  | nil => rfl
  | cons x l ih =>
    unfold getO idO at ih ⊢
    by_cases h : x = k
    · subst h; simp
    · rw [List.map_cons, List.find?_cons_of_neg (by simpa using h), ih]
      have : (k ∈ x :: l) ↔ k ∈ l := by simp [Ne.symm h]
      simp only [this]
theorem self_node {lq : List En} (hwq : wfP lq) {full : List Int} (hG : GoodO lq full) (hO : OrdO lq full) {pre post : List Int} {s : Int} (hf : full = pre ++ s :: post) :
    ∃ i : Nat, s = (i : Int) + 1 ∧ checkE lq (cpN lq (idO pre) s) = 0 ∧ findN lq (cpN lq (idO pre) s) 0 = some i := by
  have hs : inP lq s = true := hG.mem s (by rw [hf]; simp)
  have hk := hO pre s post hf
  obtain ⟨i, e, rfl, hlt, hg, he⟩ := entP_in hs
  have hE := hwq.wf i e hg
  rw [nodeQ_some hg] at hk
  have hin : ∀ {t : Int}, 1 ≤ t → t ≤ i → inP lq t = true := fun h1 h2 => by unfold inP; simp; omega
  have g : ∀ t : Int, (0 ≤ t ∧ t ≤ i) → (inP lq t = true → t ∈ pre) → getO (idO pre) t = t := fun t ht hm => by
    rw [getO_id]
    by_cases h1 : 1 ≤ t
    · rw [if_pos (hm (hin h1 ht.2))]
    · split
      · rfl
      · omega
  have hn : cpN lq (idO pre) ((i : Int) + 1) = e.n := by
    unfold cpN
    rw [nodeQ_some hg, g _ hE.lt.1 hk.1, g _ hE.lt.2 hk.2]
  rw [hn]
  exact ⟨i, rfl, make_of hwq hg⟩
end Go.Gx.Trm
set_option linter.unusedVariables false
set_option linter.unusedSimpArgs false
namespace Go.Gx
open Go.RowKit
abbrev Maps := List (Nat × List (Value × Value))
section
variable {w0 w w1 : World} {D D1 : Nat → Prop} {L Z : List Ent} {M : Maps}
theorem Exm.hg {M : Maps} {u : World} (X : Exm w0 D w1 D1) (h : Hg w1 D1 M L u) : Hg w0 D M L u := by
  obtain ⟨w', D', X', H, h1, h2⟩ := h
  refine ⟨w', D', X.comp X', H, fun i m hi => ?_, h2⟩
  obtain ⟨a1, a2, a3, a4⟩ := h1 i m hi
  refine ⟨a1, a2, a3, ?_⟩
  by_cases hlt : m.1 < w0.heap.size
  · by_cases hD : D m.1
    · exact .inl hD
    · have := X.keep m.1 hlt hD
      rcases a4 with h | h
      · exact absurd h this.1
      · have := X.size; omega
  · exact .inr (by omega)
/-- the present world in the inner one's place -/
theorem Hg.base (h : Hg w0 D M L w) : ∃ D2, Exm w0 D w D2 ∧ Hp w D2 L w ∧ (∀ b o, w.heap[b]? = some o → o.isCells = false → w0.heap.size ≤ b → ¬ D2 b) ∧
    (∀ (i : Nat) (m : Nat × List (Value × Value)), M[i]? = some m → ¬ D2 m.1 ∧ m.1 < w.heap.size ∧ mapG w m.1 m.2 ∧ (D m.1 ∨ w0.heap.size ≤ m.1)) := by
  have hM : ∀ (i : Nat) (m : Nat × List (Value × Value)), M[i]? = some m → m.1 < w.heap.size ∧ mapG w m.1 m.2 ∧ (D m.1 ∨ w0.heap.size ≤ m.1) := fun i m hi => by
    have hmap := h.map hi
    obtain ⟨w', D', X, H, h1, h2⟩ := h
    obtain ⟨a1, a2, a3, a4⟩ := h1 i m hi
    exact ⟨Nat.lt_of_lt_of_le a2 H.size, hmap, a4⟩
  obtain ⟨Da, Xa, Ha, na⟩ := h.hp.rebase
  refine ⟨fun b => Da b ∧ ∀ (i : Nat) (m : Nat × List (Value × Value)), M[i]? = some m → ¬ m.1 = b,
    ⟨Xa.os, Xa.tape, Xa.output, Xa.size, fun b hb hE => ⟨fun hd => (Xa.keep b hb hE).1 hd.1, (Xa.keep b hb hE).2⟩⟩,
    ⟨Ha.os, Ha.tape, Ha.output, Ha.size, fun b hb hE => rfl, Ha.ents, fun i x b hi hb => ?_, Ha.apart⟩, fun b o ho hc hle hd => na b o ho hc hle hd.1, fun i m hi => ?_⟩
  · rcases Ha.mine i x b hi hb with h9 | h9
    · refine .inl ⟨h9, fun j m hj e => ?_⟩
      obtain ⟨o, ho, hc⟩ := ent_cells (Ha.ents i x hi) hb
      obtain ⟨es, ck, hm, _⟩ := (hM j m hj).2.1
      rw [e, ho] at hm
      cases hm
      cases hc
    · exact .inr h9
  · obtain ⟨a1, a2, a3⟩ := hM i m hi
    exact ⟨fun hd => hd.2 i m hi rfl, a1, a2, a3⟩
theorem Hg.apartM (h : Hg w0 D M L w) : ∀ (i j : Nat) (m n : Nat × List (Value × Value)), M[i]? = some m → M[j]? = some n → m.1 = n.1 → i = j := by
  obtain ⟨_, _, _, _, _, h2⟩ := h; exact h2
/-- .. for rounds -/
theorem Hg.rebase (h : Hg w0 D M L w) : ∃ D1, Exm w0 D w D1 ∧ Hg w D1 M L w ∧ ∀ b o, w.heap[b]? = some o → o.isCells = false → (∀ es ck, ¬ o = .map es ck) → w0.heap.size ≤ b → ¬ D1 b := by
  obtain ⟨D2, X, H, n, hm⟩ := h.base
  refine ⟨fun b => D2 b ∨ ∃ (i : Nat) (m : Nat × List (Value × Value)), M[i]? = some m ∧ m.1 = b, ⟨X.os, X.tape, X.output, X.size, fun b hb hE => ⟨?_, (X.keep b hb hE).2⟩⟩,
    ⟨w, D2, ⟨rfl, rfl, rfl, Nat.le_refl _, fun b hb hE => ⟨fun hd => hE (.inl hd), rfl⟩⟩, H, fun i m hi => ⟨(hm i m hi).1, (hm i m hi).2.1, (hm i m hi).2.2.1, .inl (.inr ⟨i, m, hi, rfl⟩)⟩, h.apartM⟩, ?_⟩
  · rintro (hd | ⟨i, m, hi, e⟩)
    · exact (X.keep b hb hE).1 hd
    · rcases (hm i m hi).2.2.2 with h9 | h9
      · rw [e] at h9; exact hE h9
      · omega
  · rintro b o ho hc hno hle (hd | ⟨i, m, hi, e⟩)
    · exact n b o ho hc hle hd
    · obtain ⟨es, ck, hb, _⟩ := (hm i m hi).2.2.1
      rw [e, ho] at hb
      cases hb
      exact hno es ck rfl
theorem Hg.frame (h : Hg w0 D M L w) {b : Nat} (hb : b < w0.heap.size) (hd : ¬ D b) : w.heap[b]? = w0.heap[b]? := h.hp.frame b hb hd
/-- a block that holds neither cells nor a map turns -/
theorem Hg.putOther (h : Hg w0 D M L w) {l : Nat} {o : Obj} (o' : Obj) (hl : w0.heap.size ≤ l) (ho : w.heap[l]? = some o) (hc : o.isCells = false) (hno : ∀ es ck, ¬ o = .map es ck) : Hg w0 D M L (w.putObj l o') := by
  obtain ⟨D2, X, H, n, hm⟩ := h.base
  have hnl : ¬ D2 l := n l o ho hc hl
  have hH : Hp w0 D L (w.putObj l o') := (X.hp H).putOther o' hl ho hc
  have es : (w.putObj l o').heap.size = w.heap.size := by show (w.heap.setIfInBounds l o').size = _; rw [Array.size_setIfInBounds]
  have key : Hp (w.putObj l o') D2 L (w.putObj l o') := ⟨rfl, rfl, rfl, Nat.le_refl _, fun _ _ _ => rfl, hH.ents, fun i x b hi hb => by rw [es]; exact H.mine i x b hi hb, H.apart⟩
  refine ⟨w.putObj l o', D2, ⟨X.os, X.tape, X.output, by rw [es]; exact X.size, fun b hb hE => ⟨(X.keep b hb hE).1, ?_⟩⟩, key, fun i m hi => ?_, h.apartM⟩
  · rw [World.putObj_heap_other (by omega)]; exact (X.keep b hb hE).2
  · obtain ⟨a1, a2, ⟨es2, ck, hb, he⟩, a4⟩ := hm i m hi
    refine ⟨a1, by rw [es]; exact a2, ⟨es2, ck, ?_, he⟩, a4⟩
    rw [World.putObj_heap_other (fun e => ?_)]
    · exact hb
    · rw [e, ho] at hb; cases hb; exact hno es2 ck rfl
theorem Hg.allocOther (h : Hg w0 D M L w) (o : Obj) : Hg w0 D M L (w.alloc o) := h.mono fun _ _ H => H.allocOther o
theorem Hg.keptMi {A N R : List Ent} (h : Hg w0 D M (A ++ (N ++ R)) w) : Hg w0 D M (A ++ R) w := h.mono fun _ _ H => H.keptMi
theorem Hg.shut {k : Nat} (hm : Mark w0 w1 D1 k) (X : Exm w0 D w1 D1) (h : Hg w1 D1 M L w) : Hg w0 D M L (w.putObj k (.deferred none)) :=
  (X.hg h).putOther _ hm.2.1 (hm.behind h.hp) rfl (fun _ _ e => by cases e)
/-- how a round's body is left -/
def rfPostM {α : Type} (w1 : World) (D1 : Nat → Prop) (Z : List Ent) (I : List α → List Ent → Maps → Prop) (xs : List α) : Exit → Act → World → Prop
  | .normal, _, W' => ∃ L M, I xs L M ∧ Hg w1 D1 M (L ++ Z) W'
  | _, _, _ => False
end
/-- **the caller's law**: no round breaks off -/
theorem wp_rfM {α : Type} {P : Program} {Q : Exit → Act → World → Prop} {a : Act} {w w0 : World} {D : Nat → Prop} {L0 Z : List Ent} {M0 : Maps} {g : Operand} {ps : Array Tmp} {assign body : Code}
    (H : Hg w0 D M0 (L0 ++ Z) w) {gf : Nat} {lb : Array Value} (hg : a.eval g = .func (.func gf) #[] lb) (eg : ∀ args w, (callFunc gf args).run P w = .ok (.enter gf args) w)
    {encs : α → Array Value} {full : List α} (hseq : SeqG P gf lb encs full Z) (hps : ∀ x, (encs x).size = ps.size)
    (I : List α → List Ent → Maps → Prop) (h0 : I [] L0 M0) (a₁ : α → Act)
    (hassign : ∀ (l : Nat) (x : α) (w1 : World) (K : Act → World → Prop), K (a₁ x) w1 →
      assign.wpIn (Fence.wide.inRound l) 0 P (Exit.then K (fun _ _ _ => False)) { tmps := (ps.zip (encs x)).foldl (fun t (p, v) => t.setIfInBounds p v) a.tmps, defers := [] } w1)
    (hbody : ∀ (l : Nat) (pre : List α) (x : α) (post : List α) (N9 L : List Ent) (M : Maps) (w1 : World) (D1 : Nat → Prop), full = pre ++ x :: post → I pre L M → Exm w0 D w1 D1 → Hg w1 D1 M (L ++ (N9 ++ Z)) w1 →
      body.wpIn (Fence.wide.inRound l) 0 P (rfPostM w1 D1 (N9 ++ Z) I (pre ++ [x])) (a₁ x) w1)
    (hdone : ∀ (k : Nat) (L : List Ent) (M : Maps) (w1 : World) (D1 : Nat → Prop), I full L M → Exm w0 D w1 D1 → Hg w1 D1 M (L ++ Z) w1 → Mark w0 w1 D1 k → Q .normal { a with defers := { target := .collected k, args := #[] } :: a.defers } w1) :
    (Code.rangeFunc g ps assign body).wpIn Fence.wide 0 P Q a w := by
  refine wpIn_rangeFunc ?_
  intro fn hfn
  obtain ⟨rec, hrec⟩ : ∃ rec : LoopState → Option Code → Loop, rec = fun st pe => { state := st, pending := pe, fn, tmps := a.tmps, params := ps, assign, body, defers := w.heap.size } := ⟨_, rfl⟩
  obtain ⟨W1, hW1⟩ : ∃ W1, (w.alloc (.deferred (some []))).alloc (.loop (rec .ready none)) = W1 := ⟨_, rfl⟩
  have hL1 : W1.heap[w.heap.size + 1]? = some (.loop (rec .ready none)) := by
    rw [← hW1]; have := World.alloc_heap_new (w.alloc (.deferred (some []))) (.loop (rec .ready none)); rwa [World.size_alloc] at this
  have hK1 : W1.heap[w.heap.size]? = some (.deferred (some [])) := by
    rw [← hW1, heap_alloc_old _ _ (by simp)]; exact World.alloc_heap_new w _
  have HW1 : Hg w0 D M0 (L0 ++ Z) W1 := by rw [← hW1]; exact (H.allocOther _).allocOther _
  have hws := H.hp.size
  obtain ⟨N, hN⟩ : ∃ N, w.heap.size = N := ⟨_, rfl⟩
  rw [hN] at hL1 hK1 hws hrec
  have hnl : ∀ (r : Loop) es ck, ¬ (Obj.loop r) = .map es ck := fun r es ck h => by cases h
  have hnd : ∀ r es ck, ¬ (Obj.deferred r) = .map es ck := fun r es ck h => by cases h
  refine ⟨N + 1, [{ target := .collected N, args := #[] }], W1, { target := .fn (.func gf) lb, args := #[.func (.yield (N + 1)) #[] #[]] }, W1, gf, #[.func (.yield (N + 1)) #[] #[]] ++ lb, W1, ?_, ?_, fun f' _ => trivial, ?_, fun h => by simp [Fence.wide] at h, ?_⟩
  · have := run_enterLoop_outer (P := P) (w := w) fn a.tmps ps assign body
    rw [hN] at this
    rw [← hW1, hrec]; exact this
  · simp only [resolve, hg]
    simp [go_sem]
  · simp [invoke, go_sem, eg]
  obtain ⟨J, hJ⟩ : ∃ J : List Ent → List α → World → Prop, J = fun N9 pre u => ∃ L M, I pre L M ∧ Hg w0 D M (L ++ (N9 ++ Z)) u ∧ u.heap[N + 1]? = some (.loop (rec .ready none)) ∧ u.heap[N]? = some (.deferred (some [])) := ⟨_, rfl⟩
  refine CallsIn.mono (hseq (N + 1) J (fun _ _ => False) W1 (fun N9 pre u hu => ?_) (fun pre u u' hu hgr => hu) (fun N9 pre x post u hfull hu => ?_) ?_) ?_
  · rw [hJ] at hu
    obtain ⟨L, M, hi, h, hl, hk⟩ := hu
    obtain ⟨Da, Xa, Ha, na, hm⟩ := h.base
    refine ⟨u, Da, L, Ha, fun N8 u' h8 => ?_⟩
    rw [hJ]
    exact ⟨L, M, hi, ⟨u, Da, Xa, h8, hm, h.apartM⟩, by rw [h8.frame _ (Array.getElem?_eq_some_iff.1 hl).1 (na _ _ hl rfl (by omega))]; exact hl, by rw [h8.frame _ (Array.getElem?_eq_some_iff.1 hk).1 (na _ _ hk rfl (by omega))]; exact hk⟩
  · -- one round
    rw [hJ] at hu
    obtain ⟨L, M, hi, h, hl, hk⟩ := hu
    have hy := run_yield (P := P) (args := encs x) hl (by rw [hrec]; exact hps x)
    rw [hrec] at hy
    refine ⟨fn, _, assign, body, hy, roundIn_of_wpIn trivial (hassign _ x u _ ?_)⟩
    clear hy
    refine ⟨_, run_beginRound hl (by rw [hrec]), ?_⟩
    have hlt : N + 1 < u.heap.size := (Array.getElem?_eq_some_iff.1 hl).1
    obtain ⟨Wb, hWb⟩ : ∃ Wb, u.putObj (N + 1) (.loop { rec .ready none with state := .busy }) = Wb := ⟨_, rfl⟩
    rw [hWb]
    have Hb0 : Hg w0 D M (L ++ (N9 ++ Z)) Wb := by rw [← hWb]; exact h.putOther _ (by omega) hl rfl (hnl _)
    have hlb : Wb.heap[N + 1]? = some (.loop { rec .ready none with state := .busy }) := by rw [← hWb]; exact World.putObj_heap_same hlt
    have hkb : Wb.heap[N]? = some (.deferred (some [])) := by rw [← hWb, World.putObj_heap_other (by omega)]; exact hk
    obtain ⟨Db, Xb, Hb, nb⟩ := Hb0.rebase
    refine wpIn_mono (hbody _ pre x post N9 L M Wb Db hfull hi Xb Hb) ?_
    rintro e a3 W3 hp
    cases e with
    | normal =>
      obtain ⟨L3, M3, hi3, H3⟩ := hp
      have hl3 : W3.heap[N + 1]? = some (.loop { rec .ready none with state := .busy }) := by
        rw [H3.frame (Array.getElem?_eq_some_iff.1 hlb).1 (nb _ _ hlb rfl (hnl _) (by omega))]; exact hlb
      have hk3 : W3.heap[N]? = some (.deferred (some [])) := by
        rw [H3.frame (Array.getElem?_eq_some_iff.1 hkb).1 (nb _ _ hkb rfl (hnd _) (by omega))]; exact hkb
      have hr := run_endRound (P := P) none hl3
      rw [hrec] at hr
      refine ⟨_, _, hr, .inl ⟨rfl, ?_⟩⟩
      rw [hJ]
      refine ⟨L3, M3, hi3, ?_, ?_, ?_⟩
      · exact (Xb.hg H3).putOther _ (by omega) hl3 rfl (hnl _)
      · rw [hrec]; exact World.putObj_heap_same (Array.getElem?_eq_some_iff.1 hl3).1
      · exact (World.putObj_heap_other (by omega)).trans hk3
    | ret => exact hp.elim
    | exit id => exact hp.elim
    | goto t => exact hp.elim
    | panic ch => exact hp.elim
    | outgrown => exact hp.elim
  · rw [hJ]; exact ⟨L0, M0, h0, HW1, hL1, hK1⟩
  · -- behind the iterator
    rintro e W2 ⟨⟨v, rfl⟩, hh⟩
    rcases hh with hh | ⟨pre, post, hfull, hh⟩
    · obtain ⟨N9, hh⟩ := hh
      rw [hJ] at hh
      obtain ⟨L, M, hi, h, hl, hk⟩ := hh
      have hr := run_endLoop (P := P) hl (by rw [hrec]; simp)
      have h' : Hg w0 D M (L ++ Z) (W2.putObj (N + 1) (.loop { rec .ready none with state := .exhausted })) := h.keptMi.putOther _ (by omega) hl rfl (hnl _)
      have hk' : (W2.putObj (N + 1) (.loop { rec .ready none with state := .exhausted })).heap[N]? = some (.deferred (some [])) := (World.putObj_heap_other (by omega)).trans hk
      obtain ⟨D1, X, H1, n1⟩ := h'.rebase
      rw [hrec] at hr
      refine ⟨none, _, hr, hdone N L M _ D1 hi ?_ ?_ ⟨?_, by omega, ?_, ?_⟩⟩
      · rw [hrec] at X; exact X
      · rw [hrec] at H1; exact H1
      · exact n1 _ _ hk' rfl (hnd _) (by omega)
      · rw [hrec] at hk'; exact (Array.getElem?_eq_some_iff.1 hk').1
      · rw [hrec] at hk'; exact hk'
    · exact hh.elim
section
variable {P : Program} {fn : Func} {R : Ending → World → Prop} {a : Act} {w w0 w1 : World} {D D1 : Nat → Prop} {L : List Ent} {M : Maps}
/-- the way out, results in slots -/
theorem leaveM {k : Nat} {v : Value} (hm : Mark w0 w1 D1 k) (X : Exm w0 D w1 D1) (h : Hg w1 D1 M L w) (hd : a.defers = [{ target := .collected k, args := #[] }])
    (hres : ∀ u, Hg w0 D M L u → (results fn a.tmps).run P u = .ok v u) (k9 : ∀ u, Hg w0 D M L u → R (.returned v) u) : bodyPostM Fence.wide 0 P fn R .ret a w :=
  leave1 hm h.hp hd (hres _ (Hg.shut hm X h)) (k9 _ (Hg.shut hm X h))
end
end Go.Gx
set_option linter.unusedVariables false
set_option linter.unusedSimpArgs false
namespace Go.Proofs.Ytebecelhcpljaaa
open Go.RowKit Go.Gx Go.Gx.Trm
set_option maxRecDepth 100000
attribute [local go_sem] Oper.semAt_some
theorem T103 : tI Try.prog 103 = some (false, 1) := by kernel_rfl
theorem Z34 : zI Try.prog 34 = some (.int .i64 0) := by kernel_rfl
theorem Z103 : zI Try.prog 103 = some (.map none) := by kernel_rfl
theorem U103 : Try.prog.underlying 103 = some (.map 28 28) := by kernel_rfl
def tabV (t : TypeId) : Option (Bool × Nat) := (tabU t).orElse fun _ => if t = 103 then some (false, 1) else none
theorem TV (t : TypeId) {x : Bool × Nat} (h : tabV t = some x) : tI Try.prog t = some x := by
  unfold tabV at h
  cases h0 : tabU t with
  | some y => rw [h0] at h; exact TU t (h0.trans h)
  | none =>
    rw [h0] at h
    have h : (if t = 103 then some (false, 1) else none) = some x := h
    split at h
    · rename_i h1; subst h1; exact T103.trans h
    · cases h
/-! ### a map of numbers, among maps of the call's own -/
abbrev kvO (own : List (Int × Int)) : List (Value × Value) := own.map fun p => (.int .i64 p.1, .int .i64 p.2)
def kvI (own : List (Int × Int)) : List (Int × Value) := own.map fun p => (p.1, .int .i64 p.2)
theorem mapG_I {w : World} {b : Nat} {own : List (Int × Int)} (h : mapG w b (kvO own)) : mapAt w .i64 b (kvI own) := by
  obtain ⟨es, ck, h1, h2⟩ := h
  exact ⟨es, ck, h1, by rw [h2]; simp [kvI, kvO]⟩
theorem look_O (own : List (Int × Int)) (k : Int) : (Gx.look (kvI own) k).getD (.int .i64 0) = .int .i64 (getO own k) := by
  induction own with
  | nil => rfl
  | cons p own ih =>
    unfold Gx.look getO kvI at *
    rw [List.map_cons]
    by_cases h : p.1 = k
    · rw [List.find?_cons_of_pos (by simpa using h), List.find?_cons_of_pos (by simpa using h)]; rfl
    · rw [List.find?_cons_of_neg (by simpa using h), List.find?_cons_of_neg (by simpa using h)]; exact ih
theorem look_O_no {own : List (Int × Int)} {k : Int} (h : ¬ k ∈ own.map Prod.fst) : Gx.look (kvI own) k = none := by
  unfold Gx.look kvI
  rw [List.find?_eq_none.2]
  · rfl
  · intro p hp
    obtain ⟨q, hq, rfl⟩ := List.mem_map.1 hp
    simp only [beq_iff_eq]
    intro e
    exact h (List.mem_map.2 ⟨q, hq, e⟩)
theorem Hg_storeO {W w : World} {D : Nat → Prop} {L : List Ent} {M : Maps} {b : Nat} {own : List (Int × Int)} (h : Hg W D M L w) {i : Nat} (hi : M[i]? = some (b, kvO own)) {k : Int} (hno : ¬ k ∈ own.map Prod.fst) (v : Int) :
    ∃ w', (Instr.mapUpdate 103 (.map (some b)) (.int .i64 k) (.int .i64 v)).run Try.prog w = .ok () w' ∧ Hg W D (M.set i (b, kvO (own ++ [(k, v)]))) L w' := by
  obtain ⟨es, ck, hb, he⟩ := h.map hi
  rcases find_int (q := .i64) (k := k) es.toList (kvI own) 0 (by rw [show es.toList.map (fun e => (e.key, e.val)) = kvO own from he]; simp [kvI, kvO]) with ⟨j, v, h1, h2⟩ | ⟨h1, h2⟩
  · rw [look_O_no hno] at h2; cases h2
  · refine ⟨_, ?_, h.upd hi (kv' := kvO (own ++ [(k, v)])) (es := es.push { key := .int .i64 k, val := .int .i64 v, born := ck }) (ck := ck + 1) ?_⟩
    · simp [Instr.mapUpdate, run_underlying U103, MapKept.run_getObj_map hb, MapKept.run_checkKey K28 isKey_int, MapKept.run_findKey K28 h1, MapKept.run_setObj_map _ hb, Result.andThen]
    · have he2 : es.toList.map (fun e => (e.key, e.val)) = kvO own := he
      simp only [kvO, Array.toList_push, List.map_append, he2, List.map_cons, List.map_nil]
section
variable {w0 w : World} {D : Nat → Prop} {L : List Ent} {ops : Array Oper} {Q : Exit → Act → World → Prop} {a : Act} {rest : List Oper}
theorem run_lkO {b : Nat} {own : List (Int × Int)} {k z : Int} {dst : Option Tmp} {ty : TypeId} {m x : Operand} {pos : String} {af : Array Edge} {g : Option (Nat × Bool)} (hx : a.eval m = .map (some b)) (hk : a.eval x = .int .i64 k) (hz : getO own k = z) (hm : mapG w b (kvO own)) :
    (execOp a.eval ⟨dst, .lookup 103 m x false, ty, pos, af, g⟩).run Try.prog w = .ok (.value (.int .i64 z)) w := by
  have h := run_look1 (P := Try.prog) (t := 103) U103 K28 Z28 (mapG_I hm) k
  rw [look_O, hz] at h
  simp only [execOp, hx, hk]
  simp only [Sem.run_bind, h, Result.andThen_ok, Sem.run_pure]
theorem wl_lookO {b : Nat} {own : List (Int × Int)} {k z : Int} {dst : Option Tmp} {ty : TypeId} {m x : Operand} {pos : String} {af : Array Edge} {g : Option (Nat × Bool)}
    (hw : Region.wanted ⟨dst, .lookup 103 m x false, ty, pos, af, g⟩ (yielded ops a.tmps) = true) (hx : a.eval m = .map (some b)) (hk : a.eval x = .int .i64 k) (hz : getO own k = z) (hm : mapG w b (kvO own))
    (h : wpList Try.prog ops Q rest (a.put dst (.int .i64 z)) w) : wpList Try.prog ops Q (⟨dst, .lookup 103 m x false, ty, pos, af, g⟩ :: rest) a w :=
  wl_run hw (run_lkO hx hk hz hm) h
theorem wl_mapUpO {W : World} {E0 : Nat → Prop} {M : Maps} {b : Nat} {own : List (Int × Int)} {k v : Int} {dst : Option Tmp} {ty : TypeId} {m x va : Operand} {pos : String} {af : Array Edge} {g : Option (Nat × Bool)}
    (hw : Region.wanted ⟨dst, .mapUpdate 103 m x va, ty, pos, af, g⟩ (yielded ops a.tmps) = true) (hm : a.eval m = .map (some b)) (hk : a.eval x = .int .i64 k) (hv : a.eval va = .int .i64 v) (h : Hg W E0 M L w) (i : Nat) (hi : M[i]? = some (b, kvO own))
    (hno : ¬ k ∈ own.map Prod.fst)
    (kk : ∀ w', Hg W E0 (M.set i (b, kvO (own ++ [(k, v)]))) L w' → wpList Try.prog ops Q rest (a.put dst undef) w') : wpList Try.prog ops Q (⟨dst, .mapUpdate 103 m x va, ty, pos, af, g⟩ :: rest) a w := by
  obtain ⟨w', hr, h'⟩ := Hg_storeO h hi hno v
  exact wl_skip hw (by simp only [execOp, hm, hk, hv, Sem.run_bind, Sem.run_pure, Result.andThen_ok, hr]) (kk w' h')
end
theorem wpIn_post0 {P : Program} {l : Nat} {Q : Exit → Act → World → Prop} {F : Act} (Post : World → Prop) {c : Code} {a : Act} {w : World} (h : c.wpIn (Fence.wide.inRound l) 0 P (fun e a' w' => e = .normal ∧ a' = F ∧ Post w') a w) (k : ∀ w', Post w' → Q .normal F w') : c.wpIn (Fence.wide.inRound l) 0 P Q a w :=
  Go.wpIn_mono h (fun e a w hq => by obtain ⟨rfl, rfl, hp⟩ := hq; exact k w hp)
section
variable {P : Program} {fn : Func} {R : Ending → World → Prop} {a : Act} {w w0 w1 : World} {D D1 : Nat → Prop} {L : List Ent}
theorem res_cc {p1 p2 b1 b2 n1 n2 : Nat} {g1 g2 : Bool} {t1 t2 : TypeId} {x1 x2 : Ent} {v1 v2 : Value} (i1 i2 : Nat) (H : Hp w0 D L w) (hres : fn.results = #[.cell p1 t1, .cell p2 t2])
    (hp1 : a.tmps.getD p1 undef = .pointer (some ⟨b1, 0, none⟩)) (hp2 : a.tmps.getD p2 undef = .pointer (some ⟨b2, 0, none⟩)) (hi1 : L[i1]? = some x1) (hi2 : L[i2]? = some x2) (hb1 : x1.a = some b1) (hb2 : x2.a = some b2)
    (ht1 : tI P t1 = some (g1, n1)) (ht2 : tI P t2 = some (g2, n2)) (hv1 : pick g1 n1 x1.xs 0 = some v1) (hv2 : pick g2 n2 x2.xs 0 = some v2) : (results fn a.tmps).run P w = .ok (.tuple #[v1, v2]) w := by
  have h1 := H.load hi1 hb1 ht1 hv1
  have h2 := H.load hi2 hb2 ht2 hv2
  have hp1' : a.tmps[p1]?.getD undef = .pointer (some ⟨b1, 0, none⟩) := by simpa using hp1
  have hp2' : a.tmps[p2]?.getD undef = .pointer (some ⟨b2, 0, none⟩) := by simpa using hp2
  simp [results, hres, hp1', hp2', asAddr, h1, h2]
theorem leave0cc {v1 v2 : Value} (hd : a.defers = []) (hr : (results fn a.tmps).run P w = .ok (.tuple #[v1, v2]) w) (h : R (.returned (.tuple #[v1, v2])) w) : bodyPostM Fence.wide 0 P fn R .ret a w := by
  show LeavesInM _ _ _ _ _ _ _ _ _
  rw [hd]
  exact ⟨_, hr, h⟩
end
/-- what a round of the copy reads -/
structure CpZ (Z : List Ent) (b3 b4 b9 c2 c3 p q ms : Nat) (lq : List En) (t : Int) : Prop where
  it : ItZ Z c2 c3 q lq t
  x3 : ∃ i : Nat, Z[i]? = some ⟨some b3, [.pointer (some ⟨p, 0, none⟩)], 24, 1⟩
  x4 : ∃ i : Nat, Z[i]? = some ⟨some b4, [.pointer (some ⟨q, 0, none⟩)], 24, 1⟩
  x9 : ∃ i : Nat, Z[i]? = some ⟨some b9, [.map (some ms)], 103, 1⟩
theorem CpZ.push {Z : List Ent} {b3 b4 b9 c2 c3 p q ms : Nat} {lq : List En} {t : Int} (h : CpZ Z b3 b4 b9 c2 c3 p q ms lq t) (A : List Ent) : CpZ (A ++ Z) b3 b4 b9 c2 c3 p q ms lq t := by
  obtain ⟨h1, ⟨i, hi⟩, ⟨j, hj⟩, ⟨k, hk⟩⟩ := h
  exact ⟨h1.push A, ⟨_, get_push hi A⟩, ⟨_, get_push hj A⟩, ⟨_, get_push hk A⟩⟩
set_option maxHeartbeats 8000000 in
theorem Copy_no {W w : World} {E : Nat → Prop} {L0 Z : List Ent} {M0 : Maps} {p q : Nat} {lq : List En} {t : Int} (h0 : Hg W E M0 (L0 ++ Z) w) (hq : PlR Z q lq) (hi : inP lq t = false) :
    Calls Try.prog 37 #[.pointer (some ⟨p, 0, none⟩), .pointer (some ⟨q, 0, none⟩), .int .i64 t] w fun e w' => e = .returned (.tuple #[.int .i64 0, .int .i64 51]) ∧ Hg W E M0 (L0 ++ Z) w' := by
  obtain ⟨wz, Dz, H, back, bk2⟩ := h0.openX
  have HPL := Lib.hid hq
  have HIN := Lib.hid hi
  clear hq hi h0
  have hmf : ∀ (fn : Fn) (first cap : Array Value) (w : World), (Instr.makeFunc fn first cap).run Try.prog w = .ok (.func fn first cap) w := fun _ _ _ _ => rfl
  refine (callsIn_wide (n := 0)).1 (callsIn_of_wp_marks Try.func37 rfl trivial (wpIn_wide.2 ?_) rfl)
  simp only [Try.ntmps37, List.size_toArray, List.length_cons, List.length_nil, Nat.reduceAdd, Nat.reduceSub, Array.replicate_succ, Array.replicate_zero, List.push_toArray, List.append_toArray, List.nil_append, List.cons_append]
  go_wp2_with (first
    | ((with_reducible refine gBx ?_); first | (have hq := b3; clear hq; refine wl_box (v := .pointer (some ⟨q, 0, none⟩)) (n := 1) rfl rfl rfl H ?_; clear H; intro b4 w1 H; replace H : Hp _ _ (⟨some b4, [.pointer (some ⟨q, 0, none⟩)], 24, 1⟩ :: _) w1 := H) | (refine wl_box (v := .pointer (some ⟨p, 0, none⟩)) (n := 1) rfl rfl rfl H ?_; clear H; intro b3 w1 H; replace H : Hp _ _ (⟨some b3, [.pointer (some ⟨p, 0, none⟩)], 24, 1⟩ :: _) w1 := H))
    | ((with_reducible refine gAl ?_); first | (refine wl_alloc rfl Z28 H ?_; clear H; intro b6 w1 H; replace H : Hp _ _ (⟨some b6, [.int .i64 0], 28, 1⟩ :: _) w1 := H) | (refine wl_alloc rfl Z34 H ?_; clear H; intro b7 w1 H; replace H : Hp _ _ (⟨some b7, [.int .i64 0], 34, 1⟩ :: _) w1 := H) | (refine wl_alloc rfl Z3 H ?_; clear H; intro b8 w1 H; replace H : Hp _ _ (⟨some b8, [.int .i64 0], 3, 1⟩ :: _) w1 := H) | (refine wl_alloc rfl Z103 H ?_; clear H; intro b9 w1 H; replace H : Hp _ _ (⟨some b9, [.map none], 103, 1⟩ :: _) w1 := H))
    | (go_at_call 53; ((refine (In_R H ((HPL.out.push L0).push [_, _, _, _]) HIN.out).mono ?_); rintro e w1 ⟨rfl, H1⟩; clear H; have H := H1; clear H1))
    | ((with_reducible refine gSt ?_); first | (refine eSt H rfl rfl ⟨.int .i64 _, rfl, ?_⟩; refine kSt 0 rfl rfl (by exact TV _ rfl) rfl (Nat.le_of_ble_eq_true rfl) ?_; clear H; intro w1 H; simp only [List.set_cons_zero, List.set_cons_succ] at H) | (refine eSt H rfl rfl ⟨.int .i64 _, rfl, ?_⟩; refine kSt 1 rfl rfl (by exact TV _ rfl) rfl (Nat.le_of_ble_eq_true rfl) ?_; clear H; intro w1 H; simp only [List.set_cons_zero, List.set_cons_succ] at H) | (refine eSt H rfl rfl ⟨.int .i64 _, rfl, ?_⟩; refine kSt 2 rfl rfl (by exact TV _ rfl) rfl (Nat.le_of_ble_eq_true rfl) ?_; clear H; intro w1 H; simp only [List.set_cons_zero, List.set_cons_succ] at H) | (refine eSt H rfl rfl ⟨.int .i64 _, rfl, ?_⟩; refine kSt 3 rfl rfl (by exact TV _ rfl) rfl (Nat.le_of_ble_eq_true rfl) ?_; clear H; intro w1 H; simp only [List.set_cons_zero, List.set_cons_succ] at H) | (refine eSt H rfl rfl ⟨.int .i64 _, rfl, ?_⟩; refine kSt 4 rfl rfl (by exact TV _ rfl) rfl (Nat.le_of_ble_eq_true rfl) ?_; clear H; intro w1 H; simp only [List.set_cons_zero, List.set_cons_succ] at H) | (refine eSt H rfl rfl ⟨.int .i64 _, rfl, ?_⟩; refine kSt 5 rfl rfl (by exact TV _ rfl) rfl (Nat.le_of_ble_eq_true rfl) ?_; clear H; intro w1 H; simp only [List.set_cons_zero, List.set_cons_succ] at H) | (refine eSt H rfl rfl ⟨.map _, rfl, ?_⟩; refine kSt 0 rfl rfl T103 rfl (Nat.le_of_ble_eq_true rfl) ?_; clear H; intro w1 H; simp only [List.set_cons_zero, List.set_cons_succ] at H))
    | ((with_reducible refine gLd ?_); refine eLd H rfl rfl ?_; first | (refine kLd 3 rfl rfl T24 rfl ?_) | (refine kLd 2 rfl rfl T24 rfl ?_) | (refine kLd 4 rfl rfl T24 rfl ?_))
    | ((with_reducible refine gLd ?_); refine eLd H rfl rfl ?_; first | ((repeat ((with_reducible refine gEx ?_); first | (refine kLd 0 rfl rfl (by exact TV _ rfl) rfl ?_) | (refine kLdA 0 rfl rfl (by exact TV _ rfl) (Nat.le_of_ble_eq_true rfl) (by simp only [Nd.cells, Nd.zero, LS2]; rfl) ?_) | (refine nxL ?_))); fail_if_success (with_reducible refine gEx ?_)))
    | ((with_reducible refine gSt ?_); (first | (refine eSt H rfl rfl ⟨.int _ _, rfl, ?_⟩) | (refine eSt H rfl rfl ⟨.bool _, rfl, ?_⟩) | (refine eSt H rfl rfl ⟨.slice _ _ _, rfl, ?_⟩) | (refine eSt H rfl rfl ⟨.pointer _, rfl, ?_⟩) | (refine eSt H rfl rfl ⟨.string _, rfl, ?_⟩) | (refine eSt H rfl rfl ⟨.agg (List.toArray _), rfl, ?_⟩)); (first | ((repeat ((with_reducible refine gES ?_); first | (refine kSt 0 rfl rfl (by exact TV _ rfl) rfl (Nat.le_of_ble_eq_true rfl) ?_) | (refine kStA 0 rfl rfl (by exact TV _ rfl) rfl rfl (Nat.le_of_ble_eq_true rfl) ?_) | (refine nxS ?_))); fail_if_success (with_reducible refine gES ?_))); clear H; intro w1 H; simp only [List.set_cons_zero, List.set_cons_succ] at H; (try simp only [lay, LS1, Nat.reduceAdd] at H))
    | ((with_reducible refine gBx ?_); refine bxA H rfl rfl rfl ?_; clear H; intro b1 w1 H)
    | ((with_reducible refine gEq ?_); (first | (refine wl_cmp rfl rfl rfl rfl ?_) | (refine wl_scmp rfl rfl rfl rfl ?_)); intro rb hrb; cases rb <;> (first | (exfalso; simp at hrb; done) | ((try simp only [CS1, gt_iff_lt, ge_iff_le, ne_eq, Decidable.not_not] at hrb); (try subst hrb); (try (exfalso; omega)))))
    | ((with_reducible refine EndQ.intro ?_ ?_); (· kernel_rfl)))
  exact leave0cc rfl (res_cc 1 0 H rfl rfl rfl rfl rfl rfl rfl T28 T34 rfl rfl) ⟨rfl, back _ _ H.drop.drop.drop.drop⟩
theorem hz_fold {W u : World} {E : Nat → Prop} {M0 : Maps} {L0 Z T8 TT8 : List Ent} {ms : Nat} {cc : List Int → List (Int × Int)} (h : Hg W E ((ms, []) :: M0) (L0 ++ (T8 ++ Z)) u) (hT : T8 = TT8) (hc : cc [] = []) : Hg W E ((ms, kvO (cc [])) :: M0) (L0 ++ (TT8 ++ Z)) u := by
  subst hT; rw [hc]; exact h
set_option maxHeartbeats 32000000 in
theorem Copy_walk {W w : World} {E : Nat → Prop} {L0 Z : List Ent} {M0 : Maps} {p q : Nat} {lq : List En} {t : Int} (S : List Int → List Ent → Maps → Prop) (cc : List Int → List (Int × Int)) (h0 : Hg W E M0 (L0 ++ Z) w) (hS0 : S [] L0 M0) (hq : PlR Z q lq) (hl : lq.length ≤ 65536) (hwf : wfP lq) (hi : inP lq t = true)
    (hp : ∃ (mb : Nat) (a : Option Nat) (c : Nat) (l0 : List En), l0.length ≤ 65536 ∧ ∃ i : Nat, (L0 ++ Z)[i]? = some (eP p mb a c l0))
    (hc0 : cc [] = []) (hkeys : ∀ pre post, subsP lq t = pre ++ post → (cc pre).map Prod.fst = pre) (hcc : ∀ pre s post, subsP lq t = pre ++ s :: post → cc (pre ++ [s]) = cc pre ++ [(s, getO (cc (pre ++ [s])) s)])
    (hmk : ∀ (pre : List Int) (s : Int) (post : List Int) (L : List Ent) (M : Maps) (R : List Ent) (m : Nat × List (Value × Value)) (W0 : World) (D0 : Nat → Prop) (u : World), subsP lq t = pre ++ s :: post → S pre L M → Hg W0 D0 (m :: M) (L ++ R) u → (∃ A, R = A ++ Z) →
      Calls Try.prog 39 #[.pointer (some ⟨p, 0, none⟩), .agg (cpN lq (cc pre) s).cells.toArray] u fun e w' => ∃ L' M', e = .returned (.tuple #[.int .i64 (getO (cc (pre ++ [s])) s), .int .i64 0]) ∧ S (pre ++ [s]) L' M' ∧ Hg W0 D0 (m :: M') (L' ++ R) w') :
    Calls Try.prog 37 #[.pointer (some ⟨p, 0, none⟩), .pointer (some ⟨q, 0, none⟩), .int .i64 t] w fun e w' => ∃ L' M', e = .returned (.tuple #[.int .i64 (getO (cc (subsP lq t)) t), .int .i64 0]) ∧ S (subsP lq t) L' M' ∧ Hg W E M' (L' ++ Z) w' := by
  obtain ⟨wz, Dz, H, back, bk2⟩ := h0.openX
  obtain ⟨mb, a, c, l0, hl0, i0, g0⟩ := hp
  have HPL := Lib.hid hq
  have HIN := Lib.hid hi
  have HL := Lib.hid hl
  have HWF := Lib.hid hwf
  clear hi h0 hl hwf hl0
  have hmf : ∀ (fn : Fn) (first cap : Array Value) (w : World), (Instr.makeFunc fn first cap).run Try.prog w = .ok (.func fn first cap) w := fun _ _ _ _ => rfl
  refine (callsIn_wide (n := 0)).1 (callsIn_of_wp_marks Try.func37 rfl trivial (wpIn_wide.2 ?_) rfl)
  simp only [Try.ntmps37, List.size_toArray, List.length_cons, List.length_nil, Nat.reduceAdd, Nat.reduceSub, Array.replicate_succ, Array.replicate_zero, List.push_toArray, List.append_toArray, List.nil_append, List.cons_append]
  go_wp2_with (first
    | ((with_reducible refine gBx ?_); first | (have hq := b3; clear hq; refine wl_box (v := .pointer (some ⟨q, 0, none⟩)) (n := 1) rfl rfl rfl H ?_; clear H; intro b4 w1 H; replace H : Hp _ _ (⟨some b4, [.pointer (some ⟨q, 0, none⟩)], 24, 1⟩ :: _) w1 := H) | (refine wl_box (v := .pointer (some ⟨p, 0, none⟩)) (n := 1) rfl rfl rfl H ?_; clear H; intro b3 w1 H; replace H : Hp _ _ (⟨some b3, [.pointer (some ⟨p, 0, none⟩)], 24, 1⟩ :: _) w1 := H))
    | ((with_reducible refine gAl ?_); first | (refine wl_alloc rfl Z28 H ?_; clear H; intro b6 w1 H; replace H : Hp _ _ (⟨some b6, [.int .i64 0], 28, 1⟩ :: _) w1 := H) | (refine wl_alloc rfl Z34 H ?_; clear H; intro b7 w1 H; replace H : Hp _ _ (⟨some b7, [.int .i64 0], 34, 1⟩ :: _) w1 := H) | (refine wl_alloc rfl Z3 H ?_; clear H; intro b8 w1 H; replace H : Hp _ _ (⟨some b8, [.int .i64 0], 3, 1⟩ :: _) w1 := H) | (refine wl_alloc rfl Z103 H ?_; clear H; intro b9 w1 H; replace H : Hp _ _ (⟨some b9, [.map none], 103, 1⟩ :: _) w1 := H))
    | (go_at_call 53; ((refine (In_R H ((HPL.out.push L0).push [_, _, _, _]) HIN.out).mono ?_); rintro e w1 ⟨rfl, H1⟩; clear H; have H := H1; clear H1))
    | ((with_reducible refine gSt ?_); first | (refine eSt H rfl rfl ⟨.int .i64 _, rfl, ?_⟩; refine kSt 0 rfl rfl (by exact TV _ rfl) rfl (Nat.le_of_ble_eq_true rfl) ?_; clear H; intro w1 H; simp only [List.set_cons_zero, List.set_cons_succ] at H) | (refine eSt H rfl rfl ⟨.int .i64 _, rfl, ?_⟩; refine kSt 1 rfl rfl (by exact TV _ rfl) rfl (Nat.le_of_ble_eq_true rfl) ?_; clear H; intro w1 H; simp only [List.set_cons_zero, List.set_cons_succ] at H) | (refine eSt H rfl rfl ⟨.int .i64 _, rfl, ?_⟩; refine kSt 2 rfl rfl (by exact TV _ rfl) rfl (Nat.le_of_ble_eq_true rfl) ?_; clear H; intro w1 H; simp only [List.set_cons_zero, List.set_cons_succ] at H) | (refine eSt H rfl rfl ⟨.int .i64 _, rfl, ?_⟩; refine kSt 3 rfl rfl (by exact TV _ rfl) rfl (Nat.le_of_ble_eq_true rfl) ?_; clear H; intro w1 H; simp only [List.set_cons_zero, List.set_cons_succ] at H) | (refine eSt H rfl rfl ⟨.int .i64 _, rfl, ?_⟩; refine kSt 4 rfl rfl (by exact TV _ rfl) rfl (Nat.le_of_ble_eq_true rfl) ?_; clear H; intro w1 H; simp only [List.set_cons_zero, List.set_cons_succ] at H) | (refine eSt H rfl rfl ⟨.int .i64 _, rfl, ?_⟩; refine kSt 5 rfl rfl (by exact TV _ rfl) rfl (Nat.le_of_ble_eq_true rfl) ?_; clear H; intro w1 H; simp only [List.set_cons_zero, List.set_cons_succ] at H) | (refine eSt H rfl rfl ⟨.map _, rfl, ?_⟩; refine kSt 0 rfl rfl T103 rfl (Nat.le_of_ble_eq_true rfl) ?_; clear H; intro w1 H; simp only [List.set_cons_zero, List.set_cons_succ] at H))
    | ((with_reducible refine gLd ?_); refine eLd H rfl rfl ?_; first | (refine kLd 3 rfl rfl T24 rfl ?_) | (refine kLd 2 rfl rfl T24 rfl ?_) | (refine kLd 4 rfl rfl T24 rfl ?_) | (refine kLd (i0 + 4) g0 rfl T79 rfl ?_))
    | ((with_reducible refine gMm ?_); refine wl_mkMapG rfl (back _ _ H) ?_; clear H back bk2; intro ms w1 h1; obtain ⟨wz, Dz, H, back, bk2⟩ := h1.openX; clear h1)
    | (go_at_call 33; (refine (SubsF_spec H).mono ?_; rintro e w1 ⟨c2, c3, rfl, H1⟩; clear H; have H := H1; clear H1))
    | ((with_reducible refine gLd ?_); refine eLd H rfl rfl ?_; first | ((repeat ((with_reducible refine gEx ?_); first | (refine kLd 0 rfl rfl (by exact TV _ rfl) rfl ?_) | (refine kLdA 0 rfl rfl (by exact TV _ rfl) (Nat.le_of_ble_eq_true rfl) (by simp only [Nd.cells, Nd.zero, LS2]; rfl) ?_) | (refine nxL ?_))); fail_if_success (with_reducible refine gEx ?_)))
    | ((with_reducible refine gSt ?_); (first | (refine eSt H rfl rfl ⟨.int _ _, rfl, ?_⟩) | (refine eSt H rfl rfl ⟨.bool _, rfl, ?_⟩) | (refine eSt H rfl rfl ⟨.slice _ _ _, rfl, ?_⟩) | (refine eSt H rfl rfl ⟨.pointer _, rfl, ?_⟩) | (refine eSt H rfl rfl ⟨.string _, rfl, ?_⟩) | (refine eSt H rfl rfl ⟨.agg (List.toArray _), rfl, ?_⟩)); (first | ((repeat ((with_reducible refine gES ?_); first | (refine kSt 0 rfl rfl (by exact TV _ rfl) rfl (Nat.le_of_ble_eq_true rfl) ?_) | (refine kStA 0 rfl rfl (by exact TV _ rfl) rfl rfl (Nat.le_of_ble_eq_true rfl) ?_) | (refine nxS ?_))); fail_if_success (with_reducible refine gES ?_))); clear H; intro w1 H; simp only [List.set_cons_zero, List.set_cons_succ] at H; (try simp only [lay, LS1, Nat.reduceAdd] at H))
    | ((with_reducible refine gBx ?_); refine bxA H rfl rfl rfl ?_; clear H; intro b1 w1 H)
    | ((with_reducible refine gEq ?_); (first | (refine wl_cmp rfl rfl rfl rfl ?_) | (refine wl_scmp rfl rfl rfl rfl ?_)); intro rb hrb; cases rb <;> (first | (exfalso; simp at hrb; done) | ((try simp only [CS1, gt_iff_lt, ge_iff_le, ne_eq, Decidable.not_not] at hrb); (try subst hrb); (try (exfalso; omega)))))
    | ((with_reducible refine EndQ.intro ?_ ?_); (· kernel_rfl)))
  
  have HZ := back _ _ (Hp.swap (A := [_, _, _, _, _, _, _, _]) (B := L0) H)
  clear H back bk2 g0
  obtain ⟨TT8, hT8⟩ : ∃ T : List Ent, [⟨some c3, [.int .i64 t], 28, 1⟩, ⟨some c2, [.pointer (some ⟨q, 0, none⟩)], 24, 1⟩, ⟨some b9, [.map (some ms)], 103, 1⟩, ⟨some b8, [.int .i64 (l0.length : Int)], 3, 1⟩, ⟨some b7, [.int .i64 0], 34, 1⟩, ⟨some b6, [.int .i64 0], 28, 1⟩, ⟨some b4, [.pointer (some ⟨q, 0, none⟩)], 24, 1⟩, ⟨some b3, [.pointer (some ⟨p, 0, none⟩)], 24, 1⟩] = T := ⟨_, rfl⟩
  have CZ : CpZ (TT8 ++ Z) b3 b4 b9 c2 c3 p q ms lq t := by
    rw [← hT8]
    exact ⟨⟨hq.push _, ⟨1, rfl⟩, ⟨0, rfl⟩⟩, ⟨7, rfl⟩, ⟨6, rfl⟩, ⟨2, rfl⟩⟩
  replace HZ := hz_fold (cc := cc) (ms := ms) HZ hT8 hc0
  have hT8' := Lib.hid hT8
  clear hT8
  obtain ⟨ZZ, hZZ⟩ : ∃ ZZ, TT8 ++ Z = ZZ := ⟨_, rfl⟩
  rw [hZZ] at CZ HZ
  replace hZZ := hZZ.symm
  have hseq : SeqG Try.prog 63 #[.pointer (some ⟨c2, 0, none⟩), .pointer (some ⟨c3, 0, none⟩)] (fun x : Int => #[.int .i64 x]) (subsP lq t) ZZ := Subs_seq HL.out HWF.out CZ.it
  refine (wpIn_wide (n := 0)).1 ?_
  apply wp_rfM HZ rfl (enters_of Try.func63 (by kernel_rfl) rfl) hseq (fun _ => rfl) (fun pre L M => ∃ M', M = (ms, kvO (cc pre)) :: M' ∧ S pre L M') ⟨M0, rfl, hS0⟩
  case hassign =>
    intro l x w1' K hK
    refine wpIn_reg (by decide) ?_
    go_wp2
    refine nq_intro ?_
    exact hK
  case hbody =>
    rintro l9 pre s post N9 L M wv Dv hfu ⟨M', rfl, hS⟩ XV HG
    obtain ⟨wz, Dz, H, back, bk2⟩ := HG.openX
    have HM : Hid (∀ L' u, Hp wz Dz L' u → mapG u ms (kvO (cc pre))) := Lib.hid (fun L' u hu => (back L' u hu).map (i := 0) rfl)
    have hin : inP lq s = true := (subs_good HWF.out t).mem s (by rw [hfu]; simp)
    obtain ⟨⟨x1, x2, x3, x4, x5, x6, x7⟩, hnd⟩ : ∃ n, nodeP lq s = n := ⟨_, rfl⟩
    obtain ⟨ga, hga⟩ : ∃ z, getO (cc pre) x6 = z := ⟨_, rfl⟩
    obtain ⟨gb, hgb⟩ : ∃ z, getO (cc pre) x7 = z := ⟨_, rfl⟩
    obtain ⟨cv, hcv⟩ : ∃ z, getO (cc (pre ++ [s])) s = z := ⟨_, rfl⟩
    have hcp : cpN lq (cc pre) s = ⟨x1, x2, x3, x4, x5, ga, gb⟩ := by
      have e0 : nodeQ lq s = ⟨x1, x2, x3, x4, x5, x6, x7⟩ := hnd
      unfold cpN; rw [e0]; simp only [hga, hgb]
    have HND := Lib.hid hnd
    have HINS := Lib.hid hin
    have HGA := Lib.hid hga
    have HGB := Lib.hid hgb
    have hc9 := hcc pre s post hfu
    rw [hcv] at hc9
    have HC9 := Lib.hid hc9
    have HNK : Hid (¬ s ∈ (cc pre).map Prod.fst) := Lib.hid (by
      rw [hkeys pre (s :: post) hfu]
      have hnd9 := (subs_good HWF.out t).nd
      rw [hfu] at hnd9
      exact fun hm => (List.nodup_append.1 hnd9).2.2 s hm s (by simp) rfl)
    have CZ9 := CZ.push N9
    have HMK : Hid (∀ b11 u, Hp wz Dz (⟨some b11, [.int .i64 x1, .int .i64 x2, .int .i64 x3, .int .u64 x4, .string x5, .int .i64 ga, .int .i64 gb], 33, 7⟩ :: (L ++ (N9 ++ ZZ))) u → Calls Try.prog 39 #[.pointer (some ⟨p, 0, none⟩), .agg (List.toArray [.int .i64 x1, .int .i64 x2, .int .i64 x3, .int .u64 x4, .string x5, .int .i64 ga, .int .i64 gb])] u fun e w' => ∃ L2 M2, e = .returned (.tuple #[.int .i64 cv, .int .i64 0]) ∧ S (pre ++ [s]) L2 M2 ∧ Hg wv Dv ((ms, kvO (cc pre)) :: M2) (L2 ++ (⟨some b11, [.int .i64 x1, .int .i64 x2, .int .i64 x3, .int .u64 x4, .string x5, .int .i64 ga, .int .i64 gb], 33, 7⟩ :: (N9 ++ ZZ))) w') := Lib.hid (fun b11 u hu => by
      have h9 := hmk pre s post L M' (⟨some b11, [.int .i64 x1, .int .i64 x2, .int .i64 x3, .int .u64 x4, .string x5, .int .i64 ga, .int .i64 gb], 33, 7⟩ :: (N9 ++ ZZ)) (ms, kvO (cc pre)) wv Dv u hfu hS (back _ _ (Hp.swap (A := [_]) (B := L) hu)) ⟨⟨some b11, [.int .i64 x1, .int .i64 x2, .int .i64 x3, .int .u64 x4, .string x5, .int .i64 ga, .int .i64 gb], 33, 7⟩ :: (N9 ++ TT8), by rw [hZZ]; simp⟩
      rw [hcp, hcv] at h9
      exact h9)
    clear hnd hin hga hgb hcp hc9 hcv hS
    obtain ⟨Zx, hZx⟩ : ∃ Zx, L ++ (N9 ++ ZZ) = Zx := ⟨_, rfl⟩
    have CZX := CZ9.push L
    rw [hZx] at H CZX HMK
    obtain ⟨hitx, ⟨i3, g3⟩, ⟨i4, g4⟩, ⟨i9, g9⟩⟩ := CZX
    have HPLX := Lib.hid hitx.pl
    clear hZx hitx
    refine wpIn_block ?_
    refine wpIn_seq (wpIn_reg (by decide) ?_)
    go_wp2_with (first
        | ((with_reducible refine gLd ?_); refine eLd H rfl rfl ?_; first | (refine kLd i4 g4 rfl T24 rfl ?_) | (refine kLd (i3 + 1) g3 rfl T24 rfl ?_) | (refine kLdA 0 rfl rfl T33 (Nat.le_of_ble_eq_true rfl) (by simp only [List.drop_zero, List.take_succ_cons, List.take_zero]; rfl) ?_) | (refine kLd i9 g9 rfl T103 rfl ?_))
        | (go_at_call 30; ((refine (Node_R (n := ⟨x1, x2, x3, x4, x5, x6, x7⟩) H HPLX.out HL.out HND.out HINS.out).mono ?_); rintro e w1 ⟨rfl, H1⟩; clear H; have H := H1; clear H1; (try simp only [Nd.cells])))
        | ((with_reducible refine gAl ?_); refine al H Z33 rfl rfl ?_; clear H; intro b11 w1 H)
        | ((with_reducible refine gSt ?_); refine eSt H rfl rfl ⟨.agg (List.toArray _), rfl, ?_⟩; refine kStA 0 rfl rfl T33 rfl rfl (Nat.le_of_ble_eq_true rfl) ?_; clear H; intro w1 H; simp only [List.set_cons_zero, List.set_cons_succ] at H; (try simp only [lay, LS1, Nat.reduceAdd] at H))
        | ((with_reducible refine EndQ.intro ?_ ?_); (· kernel_rfl)))
    refine nq_intro ?_
    refine wpIn_seq ?_
    apply wpIn_post0 (Post := fun w' => Hp wz Dz (⟨some b11, [.int .i64 x1, .int .i64 x2, .int .i64 x3, .int .u64 x4, .string x5, .int .i64 ga, .int .i64 gb], 33, 7⟩ :: Zx) w')
    · refine wpIn_region_B (fun u => ∃ v6 v7, Hp wz Dz (⟨some b11, [.int .i64 x1, .int .i64 x2, .int .i64 x3, .int .u64 x4, .string x5, v6, v7], 33, 7⟩ :: Zx) u) (by decide) rfl ?_
      replace H := H.drew
      (refine bTakeL 0 rfl (by decide +kernel) ⟨_, _, H⟩ rfl (fun u hu => (by obtain ⟨s6, s7, hu⟩ := hu; exact run_ld (i9 + 1) hu rfl g9 rfl T103 rfl)) ?_; (try simp only [Act.put, List.setIfInBounds_toArray, List.set_cons_succ, List.set_cons_zero])); (refine bTakeL 1 rfl (by decide +kernel) ⟨_, _, H⟩ rfl (by intro u hu; go_simp; rfl) ?_; (try simp only [Act.put, List.setIfInBounds_toArray, List.set_cons_succ, List.set_cons_zero])); (refine bTakeL 4 rfl (by decide +kernel) ⟨_, _, H⟩ rfl (fun u hu => (by obtain ⟨s6, s7, hu⟩ := hu; exact run_ld (i9 + 1) hu rfl g9 rfl T103 rfl)) ?_; (try simp only [Act.put, List.setIfInBounds_toArray, List.set_cons_succ, List.set_cons_zero])); (refine bTakeL 5 rfl (by decide +kernel) ⟨_, _, H⟩ rfl (by intro u hu; go_simp; rfl) ?_; (try simp only [Act.put, List.setIfInBounds_toArray, List.set_cons_succ, List.set_cons_zero])); (refine bTwoL 2 6 (by decide +kernel) rfl rfl rfl rfl ?y100_2 ?y100_6); (case' y100_2 => (intro K hK; refine wp_run (run_ld 0 H rfl rfl rfl T28 rfl) ?_; refine hK _ _ ⟨_, _, H⟩ ?_; clear hK K; (try simp only [Act.put, List.setIfInBounds_toArray, List.set_cons_succ, List.set_cons_zero]); (refine bTakeL 3 rfl (by decide +kernel) ⟨_, _, H⟩ rfl (fun u hu => (by obtain ⟨s6, s7, hu⟩ := hu; exact run_lkO rfl rfl HGA.out (HM.out _ _ hu))) ?_; (try simp only [Act.put, List.setIfInBounds_toArray, List.set_cons_succ, List.set_cons_zero])); (refine bOneL 6 (by decide +kernel) rfl rfl ?_); (intro K hK; refine wp_run (run_ld 0 H rfl rfl rfl T28 rfl) ?_; refine hK _ _ ⟨_, _, H⟩ ?_; clear hK K; (try simp only [Act.put, List.setIfInBounds_toArray, List.set_cons_succ, List.set_cons_zero]); (refine bTakeL 7 rfl (by decide +kernel) ⟨_, _, H⟩ rfl (fun u hu => (by obtain ⟨s6, s7, hu⟩ := hu; exact run_lkO rfl rfl HGB.out (HM.out _ _ hu))) ?_; (try simp only [Act.put, List.setIfInBounds_toArray, List.set_cons_succ, List.set_cons_zero])); (refine bTakeL 8 rfl (by decide +kernel) ⟨_, _, H⟩ rfl (by intro u hu; go_simp; rfl) ?_; (try simp only [Act.put, List.setIfInBounds_toArray, List.set_cons_succ, List.set_cons_zero])); (refine bOneL 9 (by decide +kernel) rfl rfl ?_); (intro K hK; refine oSt H rfl ⟨.int _ _, rfl, ?_⟩; refine kSt 0 rfl rfl T28 rfl (Nat.le_of_ble_eq_true rfl) ?_; clear H; intro w1 H; simp only [List.set_cons_zero, List.set_cons_succ] at H; refine hK _ _ ⟨_, _, H⟩ ?_; clear hK K; (try simp only [Act.put, List.setIfInBounds_toArray, List.set_cons_succ, List.set_cons_zero]); (refine bTakeL 10 rfl (by decide +kernel) ⟨_, _, H⟩ rfl (by intro u hu; go_simp; rfl) ?_; (try simp only [Act.put, List.setIfInBounds_toArray, List.set_cons_succ, List.set_cons_zero])); (refine bOneL 11 (by decide +kernel) rfl rfl ?_); (intro K hK; refine oSt H rfl ⟨.int _ _, rfl, ?_⟩; refine kSt 0 rfl rfl T28 rfl (Nat.le_of_ble_eq_true rfl) ?_; clear H; intro w1 H; simp only [List.set_cons_zero, List.set_cons_succ] at H; refine hK _ _ ⟨_, _, H⟩ ?_; clear hK K; (try simp only [Act.put, List.setIfInBounds_toArray, List.set_cons_succ, List.set_cons_zero]); (refine bDone (by decide +kernel) ?_); (exact ⟨rfl, rfl, H⟩)))))); (case' y100_6 => (intro K hK; refine wp_run (run_ld 0 H rfl rfl rfl T28 rfl) ?_; refine hK _ _ ⟨_, _, H⟩ ?_; clear hK K; (try simp only [Act.put, List.setIfInBounds_toArray, List.set_cons_succ, List.set_cons_zero]); (refine bTakeL 7 rfl (by decide +kernel) ⟨_, _, H⟩ rfl (fun u hu => (by obtain ⟨s6, s7, hu⟩ := hu; exact run_lkO rfl rfl HGB.out (HM.out _ _ hu))) ?_; (try simp only [Act.put, List.setIfInBounds_toArray, List.set_cons_succ, List.set_cons_zero])); (refine bOneL 2 (by decide +kernel) rfl rfl ?_); (intro K hK; refine wp_run (run_ld 0 H rfl rfl rfl T28 rfl) ?_; refine hK _ _ ⟨_, _, H⟩ ?_; clear hK K; (try simp only [Act.put, List.setIfInBounds_toArray, List.set_cons_succ, List.set_cons_zero]); (refine bTakeL 3 rfl (by decide +kernel) ⟨_, _, H⟩ rfl (fun u hu => (by obtain ⟨s6, s7, hu⟩ := hu; exact run_lkO rfl rfl HGA.out (HM.out _ _ hu))) ?_; (try simp only [Act.put, List.setIfInBounds_toArray, List.set_cons_succ, List.set_cons_zero])); (refine bTakeL 8 rfl (by decide +kernel) ⟨_, _, H⟩ rfl (by intro u hu; go_simp; rfl) ?_; (try simp only [Act.put, List.setIfInBounds_toArray, List.set_cons_succ, List.set_cons_zero])); (refine bOneL 9 (by decide +kernel) rfl rfl ?_); (intro K hK; refine oSt H rfl ⟨.int _ _, rfl, ?_⟩; refine kSt 0 rfl rfl T28 rfl (Nat.le_of_ble_eq_true rfl) ?_; clear H; intro w1 H; simp only [List.set_cons_zero, List.set_cons_succ] at H; refine hK _ _ ⟨_, _, H⟩ ?_; clear hK K; (try simp only [Act.put, List.setIfInBounds_toArray, List.set_cons_succ, List.set_cons_zero]); (refine bTakeL 10 rfl (by decide +kernel) ⟨_, _, H⟩ rfl (by intro u hu; go_simp; rfl) ?_; (try simp only [Act.put, List.setIfInBounds_toArray, List.set_cons_succ, List.set_cons_zero])); (refine bOneL 11 (by decide +kernel) rfl rfl ?_); (intro K hK; refine oSt H rfl ⟨.int _ _, rfl, ?_⟩; refine kSt 0 rfl rfl T28 rfl (Nat.le_of_ble_eq_true rfl) ?_; clear H; intro w1 H; simp only [List.set_cons_zero, List.set_cons_succ] at H; refine hK _ _ ⟨_, _, H⟩ ?_; clear hK K; (try simp only [Act.put, List.setIfInBounds_toArray, List.set_cons_succ, List.set_cons_zero]); (refine bDone (by decide +kernel) ?_); (exact ⟨rfl, rfl, H⟩))))))
    clear H
    intro w1 H
    refine wpIn_seq (wpIn_reg (by decide) ?_)
    go_wp2_with (first
        | ((with_reducible refine gLd ?_); refine eLd H rfl rfl ?_; first | (refine kLd i4 g4 rfl T24 rfl ?_) | (refine kLd (i3 + 1) g3 rfl T24 rfl ?_) | (refine kLdA 0 rfl rfl T33 (Nat.le_of_ble_eq_true rfl) (by simp only [List.drop_zero, List.take_succ_cons, List.take_zero]; rfl) ?_) | (refine kLd i9 g9 rfl T103 rfl ?_))
        | (go_at_call 39; (refine (HMK.out _ _ H).mono ?_; rintro e w1 ⟨L2, M2, rfl, hS2, hg2⟩; obtain ⟨wy, Dy, H2, back2, bk3⟩ := hg2.openX; clear H; have H := H2; clear H2 hg2))
        | ((with_reducible refine EndQ.intro ?_ ?_); (· kernel_rfl)))
    
    refine nq_intro ?_
    refine wpIn_seq (wpIn_seq (wpIn_reg (by decide) ?_))
    go_wp2_with (first
        | ((with_reducible refine gLd ?_); refine eLd H rfl rfl ?_; first | (refine kLd i4 g4 rfl T24 rfl ?_) | (refine kLd (i3 + 1) g3 rfl T24 rfl ?_) | (refine kLdA 0 rfl rfl T33 (Nat.le_of_ble_eq_true rfl) (by simp only [List.drop_zero, List.take_succ_cons, List.take_zero]; rfl) ?_) | (refine kLd i9 g9 rfl T103 rfl ?_))
        | ((with_reducible refine EndQ.intro ?_ ?_); (· kernel_rfl)))
    refine nq_intro ?_
    refine wpIn_cond_false rfl (wpIn_skip ?_)
    obtain ⟨Zy, hZy⟩ : ∃ Zy, L2 ++ (⟨some b11, [.int .i64 x1, .int .i64 x2, .int .i64 x3, .int .u64 x4, .string x5, .int .i64 ga, .int .i64 gb], 33, 7⟩ :: (N9 ++ ZZ)) = Zy := ⟨_, rfl⟩
    have CZY := (CZ9.push [⟨some b11, [.int .i64 x1, .int .i64 x2, .int .i64 x3, .int .u64 x4, .string x5, .int .i64 ga, .int .i64 gb], 33, 7⟩]).push L2
    simp only [List.cons_append, List.nil_append] at CZY
    rw [hZy] at H CZY
    clear i3 g3 i4 g4 i9 g9
    obtain ⟨hity, ⟨i3, g3⟩, ⟨i4, g4⟩, ⟨i9, g9⟩⟩ := CZY
    refine wpIn_reg (by decide) ?_
    go_wp2_with (first
        | ((with_reducible refine gLd ?_); refine eLd H rfl rfl ?_; first | (refine kLd i4 g4 rfl T24 rfl ?_) | (refine kLd (i3 + 1) g3 rfl T24 rfl ?_) | (refine kLdA 0 rfl rfl T33 (Nat.le_of_ble_eq_true rfl) (by simp only [List.drop_zero, List.take_succ_cons, List.take_zero]; rfl) ?_) | (refine kLd i9 g9 rfl T103 rfl ?_))
        | ((with_reducible refine gMu ?_); refine wl_mapUpO rfl rfl rfl rfl (back2 _ _ H) 0 rfl HNK.out ?_; clear H; intro w1 hm9; simp only [List.set_cons_zero] at hm9)
        | ((with_reducible refine EndQ.intro ?_ ?_); (· kernel_rfl)))
    refine nq_intro ?_
    rw [← hZy] at hm9
    refine ⟨L2, _, ⟨M2, rfl, hS2⟩, ?_⟩
    rw [HC9.out]
    exact Hg.keptMi (N := [⟨some b11, [.int .i64 x1, .int .i64 x2, .int .i64 x3, .int .u64 x4, .string x5, .int .i64 ga, .int .i64 gb], 33, 7⟩]) hm9
  case hdone =>
    rintro k9 L M w1 D1 ⟨M', rfl, hS⟩ X HG hm
    
    have HG2 := HG.mono (fun _ _ h => by
      have h2 := (show Hp _ _ (L ++ (TT8 ++ Z)) _ by rw [← hZZ]; exact h)
      rw [← hT8'.out] at h2
      exact Hp.swap (A := L) (B := [⟨some c3, [.int .i64 t], 28, 1⟩, ⟨some c2, [.pointer (some ⟨q, 0, none⟩)], 24, 1⟩, ⟨some b9, [.map (some ms)], 103, 1⟩, ⟨some b8, [.int .i64 (l0.length : Int)], 3, 1⟩, ⟨some b7, [.int .i64 0], 34, 1⟩, ⟨some b6, [.int .i64 0], 28, 1⟩, ⟨some b4, [.pointer (some ⟨q, 0, none⟩)], 24, 1⟩, ⟨some b3, [.pointer (some ⟨p, 0, none⟩)], 24, 1⟩]) h2)
    simp only [List.cons_append, List.nil_append] at HG2
    obtain ⟨rv, hrv⟩ : ∃ z, getO (cc (subsP lq t)) t = z := ⟨_, rfl⟩
    have HRV := Lib.hid hrv
    obtain ⟨wz, Dz, H, back, bk2⟩ := HG2.openX
    clear HG HG2 hrv HZ
    go_wp2_with (first
    | ((with_reducible refine gLd ?_); refine eLd H rfl rfl ?_; refine kLd 2 rfl rfl T103 rfl ?_)
    | ((with_reducible refine gLk ?_); refine wl_lookO rfl rfl rfl HRV.out ((back _ _ H).map (i := 0) rfl) ?_)
    | ((with_reducible refine gSt ?_); first | (refine eSt H rfl rfl ⟨.int .i64 _, rfl, ?_⟩; refine kSt 0 rfl rfl (by exact TV _ rfl) rfl (Nat.le_of_ble_eq_true rfl) ?_; clear H; intro w1 H; simp only [List.set_cons_zero, List.set_cons_succ] at H) | (refine eSt H rfl rfl ⟨.int .i64 _, rfl, ?_⟩; refine kSt 1 rfl rfl (by exact TV _ rfl) rfl (Nat.le_of_ble_eq_true rfl) ?_; clear H; intro w1 H; simp only [List.set_cons_zero, List.set_cons_succ] at H) | (refine eSt H rfl rfl ⟨.int .i64 _, rfl, ?_⟩; refine kSt 2 rfl rfl (by exact TV _ rfl) rfl (Nat.le_of_ble_eq_true rfl) ?_; clear H; intro w1 H; simp only [List.set_cons_zero, List.set_cons_succ] at H) | (refine eSt H rfl rfl ⟨.int .i64 _, rfl, ?_⟩; refine kSt 3 rfl rfl (by exact TV _ rfl) rfl (Nat.le_of_ble_eq_true rfl) ?_; clear H; intro w1 H; simp only [List.set_cons_zero, List.set_cons_succ] at H) | (refine eSt H rfl rfl ⟨.int .i64 _, rfl, ?_⟩; refine kSt 4 rfl rfl (by exact TV _ rfl) rfl (Nat.le_of_ble_eq_true rfl) ?_; clear H; intro w1 H; simp only [List.set_cons_zero, List.set_cons_succ] at H) | (refine eSt H rfl rfl ⟨.int .i64 _, rfl, ?_⟩; refine kSt 5 rfl rfl (by exact TV _ rfl) rfl (Nat.le_of_ble_eq_true rfl) ?_; clear H; intro w1 H; simp only [List.set_cons_zero, List.set_cons_succ] at H) | (refine eSt H rfl rfl ⟨.map _, rfl, ?_⟩; refine kSt 0 rfl rfl T103 rfl (Nat.le_of_ble_eq_true rfl) ?_; clear H; intro w1 H; simp only [List.set_cons_zero, List.set_cons_succ] at H))
    | ((with_reducible refine gLd ?_); refine eLd H rfl rfl ?_; first | ((repeat ((with_reducible refine gEx ?_); first | (refine kLd 0 rfl rfl (by exact TV _ rfl) rfl ?_) | (refine kLdA 0 rfl rfl (by exact TV _ rfl) (Nat.le_of_ble_eq_true rfl) (by simp only [Nd.cells, Nd.zero, LS2]; rfl) ?_) | (refine nxL ?_))); fail_if_success (with_reducible refine gEx ?_)))
    | ((with_reducible refine gSt ?_); (first | (refine eSt H rfl rfl ⟨.int _ _, rfl, ?_⟩) | (refine eSt H rfl rfl ⟨.bool _, rfl, ?_⟩) | (refine eSt H rfl rfl ⟨.slice _ _ _, rfl, ?_⟩) | (refine eSt H rfl rfl ⟨.pointer _, rfl, ?_⟩) | (refine eSt H rfl rfl ⟨.string _, rfl, ?_⟩) | (refine eSt H rfl rfl ⟨.agg (List.toArray _), rfl, ?_⟩)); (first | ((repeat ((with_reducible refine gES ?_); first | (refine kSt 0 rfl rfl (by exact TV _ rfl) rfl (Nat.le_of_ble_eq_true rfl) ?_) | (refine kStA 0 rfl rfl (by exact TV _ rfl) rfl rfl (Nat.le_of_ble_eq_true rfl) ?_) | (refine nxS ?_))); fail_if_success (with_reducible refine gES ?_))); clear H; intro w1 H; simp only [List.set_cons_zero, List.set_cons_succ] at H; (try simp only [lay, LS1, Nat.reduceAdd] at H))
    | ((with_reducible refine gBx ?_); refine bxA H rfl rfl rfl ?_; clear H; intro b1 w1 H)
    | ((with_reducible refine gEq ?_); (first | (refine wl_cmp rfl rfl rfl rfl ?_) | (refine wl_scmp rfl rfl rfl rfl ?_)); intro rb hrb; cases rb <;> (first | (exfalso; simp at hrb; done) | ((try simp only [CS1, gt_iff_lt, ge_iff_le, ne_eq, Decidable.not_not] at hrb); (try subst hrb); (try (exfalso; omega)))))
    | ((with_reducible refine EndQ.intro ?_ ?_); (· kernel_rfl)))
    have HF := (back _ _ H)
    refine leaveM hm X HF rfl (fun u hu => res_cc 5 4 hu.hp rfl rfl rfl rfl rfl rfl rfl T28 T34 rfl rfl) (fun u hu => ?_)
    refine ⟨L, M', by rw [HRV.out], hS, ?_⟩
    exact hu.drop.mono (fun _ _ h => h.drop.drop.drop.drop.drop.drop.drop.drop)
end Go.Proofs.Ytebecelhcpljaaa
set_option linter.unusedVariables false
set_option linter.unusedSimpArgs false
namespace Go.Proofs.Ytebecelhcpljaaa
open Go.RowKit Go.Gx Go.Gx.Trm
set_option maxRecDepth 100000
/-- what was copied, as a row -/
def toR (own : List (Int × Int)) (m : Nat) : List Value := (List.range m).map fun j : Nat => Value.int .i64 (getO own (j : Int))
theorem toR_len (own : List (Int × Int)) (m : Nat) : (toR own m).length = m := by simp [toR]
theorem toR_nil (m : Nat) : toR [] m = List.replicate m (Value.int .i64 0) := by
  apply List.ext_getElem?
  intro j
  unfold toR
  rw [List.getElem?_map, List.getElem?_replicate]
  by_cases h : j < m
  · rw [List.getElem?_range h, if_pos h]; rfl
  · rw [if_neg h, List.getElem?_eq_none (by simpa using Nat.le_of_not_lt h)]; rfl
theorem toR_at {own : List (Int × Int)} {m j : Nat} (h : j < m) : (toR own m)[j]? = some (.int .i64 (getO own (j : Int))) := by
  unfold toR
  rw [List.getElem?_map, List.getElem?_range h]; rfl
theorem toR_set {own : List (Int × Int)} {m j : Nat} {v : Int} (hn : ¬ (j : Int) ∈ own.map Prod.fst) : (toR own m).set j (.int .i64 v) = toR (own ++ [((j : Int), v)]) m := by
  apply List.ext_getElem?
  intro k
  by_cases hk : k < m
  · rw [toR_at hk]
    by_cases hjk : j = k
    · subst hjk
      rw [List.getElem?_set_self (by rw [toR_len]; exact hk), getO_new hn]
    · rw [List.getElem?_set_ne hjk, toR_at hk, getO_ne (by omega)]
  · rw [List.getElem?_eq_none (by rw [List.length_set, toR_len]; omega), List.getElem?_eq_none (by rw [toR_len]; omega)]
theorem eTo_set {w0 w : World} {D : Nat → Prop} {L : List Ent} {x : Ent} {bm m i : Nat} {own own2 : List (Int × Int)} {cv : Int} (H : Hp w0 D (x :: ⟨some bm, (toR own m).set (i + 1) (.int .i64 cv), 28, m⟩ :: L) w) (hn : ¬ (i : Int) + 1 ∈ own.map Prod.fst) (e : own2 = own ++ [((i : Int) + 1, cv)]) :
    Hp w0 D (⟨some bm, toR own2 m, 28, m⟩ :: L) w := by
  have h9 := toR_set (own := own) (m := m) (j := i + 1) (v := cv) (by rw [show ((i + 1 : Nat) : Int) = (i : Int) + 1 by omega]; exact hn)
  rw [show ((i + 1 : Nat) : Int) = (i : Int) + 1 by omega] at h9
  rw [h9] at H
  rw [e]
  exact H.drop
set_option maxHeartbeats 8000000 in
theorem rCopy_no {w0 : World} {D : Nat → Prop} {p q : Nat} {b s d : Option Nat} {cb cs cd : Nat} {lp lq : List En} {R : List Ent} {w : World} {t : Int} (H : Hp w0 D (eQ p b s d cb cs cd lp :: eQn b cb lp :: eQs s cs lp :: eQd d cd lp :: R) w) (hq : PlQ R q lq) (hi : inP lq t = false) :
    Calls Try.prog 38 #[.pointer (some ⟨p, 0, none⟩), .pointer (some ⟨q, 0, none⟩), .int .i64 t] w fun e w' => e = .returned (.tuple #[.int .i64 0, .int .i64 51]) ∧ Hp w0 D (eQ p b s d cb cs cd lp :: eQn b cb lp :: eQs s cs lp :: eQd d cd lp :: R) w' := by
  obtain ⟨qb, qs, qd, qcb, qcs, qcd, iq, jq, g1, g2⟩ := hq
  have HIN := Lib.hid hi
  clear hi
  go_enter Try.func38, Try.ntmps38
  go_wp2_with (first
    | (go_at_call 36; ((refine (rIn_c (i := iq + 4) H g1 HIN.out).mono ?_); rintro e w1 ⟨rfl, H1⟩; clear H; have H := H1; clear H1))
    | ((with_reducible refine gLd ?_); refine eLd H rfl rfl ?_; first | ((repeat ((with_reducible refine gEx ?_); first | (refine kLd 0 rfl rfl (by exact TU _ rfl) rfl ?_) | (refine kLdA 0 rfl rfl (by exact TU _ rfl) (Nat.le_of_ble_eq_true rfl) (by simp only [Nd.cells, Nd.zero, LS2]; rfl) ?_) | (refine nxL ?_))); fail_if_success (with_reducible refine gEx ?_)))
    | ((with_reducible refine gSt ?_); (first | (refine eSt H rfl rfl ⟨.int _ _, rfl, ?_⟩) | (refine eSt H rfl rfl ⟨.bool _, rfl, ?_⟩) | (refine eSt H rfl rfl ⟨.slice _ _ _, rfl, ?_⟩) | (refine eSt H rfl rfl ⟨.pointer _, rfl, ?_⟩) | (refine eSt H rfl rfl ⟨.string _, rfl, ?_⟩) | (refine eSt H rfl rfl ⟨.agg (List.toArray _), rfl, ?_⟩)); (first | ((repeat ((with_reducible refine gES ?_); first | (refine kSt 0 rfl rfl (by exact TU _ rfl) rfl (Nat.le_of_ble_eq_true rfl) ?_) | (refine kStA 0 rfl rfl (by exact TU _ rfl) rfl rfl (Nat.le_of_ble_eq_true rfl) ?_) | (refine nxS ?_))); fail_if_success (with_reducible refine gES ?_))); clear H; intro w1 H; simp only [List.set_cons_zero, List.set_cons_succ] at H; (try simp only [lay, LS1, Nat.reduceAdd] at H))
    | ((with_reducible refine gBx ?_); refine bxA H rfl rfl rfl ?_; clear H; intro b1 w1 H)
    | ((with_reducible refine gEq ?_); (first | (refine wl_cmp rfl rfl rfl rfl ?_) | (refine wl_scmp rfl rfl rfl rfl ?_)); intro rb hrb; cases rb <;> (first | (exfalso; simp at hrb; done) | ((try simp only [CS1, gt_iff_lt, ge_iff_le, ne_eq, Decidable.not_not] at hrb); (try subst hrb); (try (exfalso; omega)))))
    | ((with_reducible refine EndQ.intro ?_ ?_); (· kernel_rfl))
    | ((with_reducible refine gRg ?_); refine wp_region_text rfl (by decide +kernel) ?_; replace H := H.drew))
  go_ret2
  exact ⟨rfl, H⟩
set_option maxHeartbeats 32000000 in
theorem rCopy_spec {w0 : World} {D : Nat → Prop} {p q : Nat} {b s d : Option Nat} {cb cs cd : Nat} {lp lq : List En} {R : List Ent} {w : World} {t : Int} (H : Hp w0 D (eQ p b s d cb cs cd lp :: eQn b cb lp :: eQs s cs lp :: eQd d cd lp :: R) w) (hq : PlQ R q lq) (hl : lq.length ≤ 65536) (hwq : wfP lq) (hwp : wfP lp) (hr : lp.length + lq.length ≤ 65536) (hi : inP lq t = true) :
    Calls Try.prog 38 #[.pointer (some ⟨p, 0, none⟩), .pointer (some ⟨q, 0, none⟩), .int .i64 t] w fun e w' => RMkP w0 D R p (cpF lq (subsP lq t) lp []).1 (getO (cpF lq (subsP lq t) lp []).2 t) 0 e w' := by
  have HPL := Lib.hid hq
  obtain ⟨qb, qs, qd, qcb, qcs, qcd, iq, jq, g1, g2⟩ := hq
  have HIN := Lib.hid hi
  have HL := Lib.hid hl
  have HW := Lib.hid hwq
  have HG := Lib.hid (subs_good hwq t)
  have HO := Lib.hid (subs_ord hwq t)
  have HR := Lib.hid hr
  have HWP := Lib.hid hwp
  have h64 : wrap64 ((lq.length : Int) + 1) = (lq.length : Int) + 1 := by unfold wrap64; omega
  have hlc : lq.length ≤ qcb := by have h5 : (rowsN (lq.map En.n)).length ≤ qcb * 7 := H.le (i := jq + 4) g2; rw [nodesV_len] at h5; omega
  have hll : 1 ≤ lq.length := by have := inP_bd hi; omega
  obtain ⟨b9, hb⟩ := H.some_of (i := jq + 4) g2 (by dsimp only; rw [nodesV_len]; omega)
  have hb : qb = some b9 := hb
  subst hb
  clear hi hwq hwp hr
  go_enter Try.func38, Try.ntmps38
  go_wp2_with (first
    | (go_at_call 36; ((refine (rIn_c (i := iq + 4) H g1 HIN.out).mono ?_); rintro e w1 ⟨rfl, H1⟩; clear H; have H := H1; clear H1))
    | (go_at_call 32; (refine (rSubs_spec HL.out HW.out H (HPL.out.push [_, _, _, _])).mono ?_); rintro e w1 ⟨aw, cw, rfl, H1⟩; clear H; have H := H1; clear H1; (try simp only []))
    | ((with_reducible refine gLd ?_); refine eLd H rfl rfl ?_; first | (refine kLd (iq + 5) g1 rfl T22 rfl ?_) | (refine kLd 1 rfl rfl T22 rfl ?_) | (refine kLd 2 rfl rfl T22 rfl ?_))
    | ((with_reducible refine gMk ?_); refine wl_make (n := lq.length + 1) rfl rfl rfl H S61 rfl (by omega) (by omega) ?_; clear H; intro bm w1 H)
    | ((with_reducible refine gLd ?_); refine eLd H rfl rfl ?_; first | ((repeat ((with_reducible refine gEx ?_); first | (refine kLd 0 rfl rfl (by exact TU _ rfl) rfl ?_) | (refine kLdA 0 rfl rfl (by exact TU _ rfl) (Nat.le_of_ble_eq_true rfl) (by simp only [Nd.cells, Nd.zero, LS2]; rfl) ?_) | (refine nxL ?_))); fail_if_success (with_reducible refine gEx ?_)))
    | ((with_reducible refine gSt ?_); (first | (refine eSt H rfl rfl ⟨.int _ _, rfl, ?_⟩) | (refine eSt H rfl rfl ⟨.bool _, rfl, ?_⟩) | (refine eSt H rfl rfl ⟨.slice _ _ _, rfl, ?_⟩) | (refine eSt H rfl rfl ⟨.pointer _, rfl, ?_⟩) | (refine eSt H rfl rfl ⟨.string _, rfl, ?_⟩) | (refine eSt H rfl rfl ⟨.agg (List.toArray _), rfl, ?_⟩)); (first | ((repeat ((with_reducible refine gES ?_); first | (refine kSt 0 rfl rfl (by exact TU _ rfl) rfl (Nat.le_of_ble_eq_true rfl) ?_) | (refine kStA 0 rfl rfl (by exact TU _ rfl) rfl rfl (Nat.le_of_ble_eq_true rfl) ?_) | (refine nxS ?_))); fail_if_success (with_reducible refine gES ?_))); clear H; intro w1 H; simp only [List.set_cons_zero, List.set_cons_succ] at H; (try simp only [lay, LS1, Nat.reduceAdd] at H))
    | ((with_reducible refine gBx ?_); refine bxA H rfl rfl rfl ?_; clear H; intro b1 w1 H)
    | ((with_reducible refine gEq ?_); (first | (refine wl_cmp rfl rfl rfl rfl ?_) | (refine wl_scmp rfl rfl rfl rfl ?_)); intro rb hrb; cases rb <;> (first | (exfalso; simp at hrb; done) | ((try simp only [CS1, gt_iff_lt, ge_iff_le, ne_eq, Decidable.not_not] at hrb); (try subst hrb); (try (exfalso; omega)))))
    | ((with_reducible refine EndQ.intro ?_ ?_); (· kernel_rfl))
    | ((with_reducible refine gRg ?_); refine wp_region_text rfl (by decide +kernel) ?_; replace H := H.drew))
  
  obtain ⟨full, hfull⟩ : ∃ f, subsP lq t = f := ⟨_, rfl⟩
  have HTM : Hid (t ∈ full) := Lib.hid (by rw [← hfull]; exact subs_mem HW.out HIN.out)
  have HFU := Lib.hid hfull
  rw [hfull] at H HG HO ⊢
  clear hfull
  obtain ⟨N, hN⟩ : ∃ n, full.length = n := ⟨_, rfl⟩
  have HN := Lib.hid hN
  have hn6 : N ≤ 65536 := by rw [← hN]; exact Nat.le_trans HG.out.len hl
  have HLS := Lib.hid hl
  rw [← toR_nil] at H
  rw [hN]
  clear hN hl h64
  go_loopg [11, 12, 13, 14] N (fun g v11 v12 v13 v14 wr => ∃ (k : Nat) (b s d : Option Nat) (cb cs cd : Nat) (l1 : List En) (own : List (Int × Int)), v11 = .int .i64 (k : Int) ∧ k + g = N ∧ Hid (cpF lq (full.take k) lp [] = (l1, own)) ∧ Hp w0 D (⟨some bm, toR own (lq.length + 1), 28, lq.length + 1⟩ :: eOu aw cw full :: eQ p b s d cb cs cd l1 :: eQn b cb l1 :: eQs s cs l1 :: eQd d cd l1 :: R) wr)
  case atStart => exact ⟨0, b, s, d, cb, cs, cd, lp, [], rfl, by omega, Lib.hid rfl, H⟩
  case round =>
    clear H
    obtain ⟨k, b, s, d, cb, cs, cd, l1, own, rfl, hkg, HC, H⟩ := hrel
    have HKG := Lib.hid hkg
    by_cases hk : k < N
    · have hkl : k < full.length := by rw [HN.out]; exact hk
      obtain ⟨sv, hsv⟩ : ∃ x, full[k]? = some x := ⟨_, List.getElem?_eq_getElem hkl⟩
      have hf : full = full.take k ++ sv :: full.drop (k + 1) := by
        obtain ⟨hlt, he⟩ := List.getElem?_eq_some_iff.1 hsv
        rw [← he, ← List.drop_eq_getElem_cons hlt, List.take_append_drop]
      have htk : full.take (k + 1) = full.take k ++ [sv] := by
        obtain ⟨hlt, he⟩ := List.getElem?_eq_some_iff.1 hsv
        rw [← he, List.take_succ_eq_append_getElem hlt]
      have hin9 : inP lq sv = true := HG.out.mem sv (by rw [hf]; simp)
      have hci := cp_all HW.out HWP.out HG.out HO.out HR.out (full.take k) _ hf
      have hcm := cp_make HW.out HWP.out HG.out HO.out HR.out hf
      rw [← htk] at hcm
      obtain ⟨l2, own2, hc2⟩ : ∃ l2 own2, cpF lq (full.take (k + 1)) lp [] = (l2, own2) := ⟨_, _, rfl⟩
      rw [HC.out] at hci
      rw [HC.out, hc2] at hcm
      dsimp only at hci hcm
      obtain ⟨cv, hcv⟩ : ∃ z, getO own2 sv = z := ⟨_, rfl⟩
      rw [hcv] at hcm
      obtain ⟨hmk9, how⟩ := hcm
      obtain ⟨i, ⟨⟨x1, x2, x3, x4, x5, x6, x7⟩, x8, x9⟩, rfl, hi9, hgt, he9⟩ := entP_in hin9
      have hE9 := (HW.out.wf i _ hgt).lt
      simp only at hE9
      replace hmk9 : makeE l1 ⟨x1, x2, x3, x4, x5, getO own x6, getO own x7⟩ = (l2, cv, 0) := by
        rw [← hmk9]; unfold cpN; rw [nodeQ_some hgt]
      have hk0 : (getO own 0) = 0 := getO_no (fun hm => by
        rw [hci.keys] at hm
        have := HG.out.mem 0 (List.mem_of_mem_take hm)
        rw [inP_0] at this; cases this)
      have hnm : ¬ (i : Int) + 1 ∈ own.map Prod.fst := by
        rw [hci.keys]
        have hnd := HG.out.nd
        rw [hf] at hnd
        exact fun hm => (List.nodup_append.1 hnd).2.2 _ hm _ (by simp) rfl
      have HE : Hid ((full.map (Value.int .i64))[k]? = some (.int .i64 ((i : Int) + 1))) := Lib.hid (by rw [List.getElem?_map, hsv]; rfl)
      have HNE := Lib.hid (nodesV_at hgt)
      have HL2 := Lib.hid (show i * 7 + 7 ≤ (rowsN (lq.map En.n)).length by rw [nodesV_len]; omega)
      have HLL : Hid (l1.length ≤ 65536) := Lib.hid (by have h1 := hci.len; have h2 := HG.out.len; have h3 := HR.out; have h4 : (full.take k).length ≤ full.length := by rw [List.length_take]; omega
                                                        omega)
      have HOK := Lib.hid hci.wf.ok
      have HLT : Hid (i + 1 < (toR own (lq.length + 1)).length) := Lib.hid (by rw [toR_len]; omega)
      have HC2 := Lib.hid hc2
      have HNM := Lib.hid hnm
      have HOW := Lib.hid how
      have hcap : N ≤ cw := by have h5 := H.le (i := 1) rfl; dsimp only at h5; rw [List.length_map, HN.out] at h5; exact h5
      obtain ⟨ab, hab⟩ := H.some_of (i := 1) rfl (by dsimp only; rw [List.length_map]; omega)
      have hab : aw = some ab := hab
      subst hab
      have hl9 := HLS.out
      have hi6 : (i : Int) ≤ 65535 := by omega
      have hw64 : wrap64 (i : Int) = i := by unfold wrap64; omega
      have hz0 := hk0
      clear hsv hf htk hin9 hci hgt he9 hc2 how hnm hk0 hcv hkl HO HG HWP
      rcases (show x6 = 0 ∨ ∃ ka : Nat, x6 = (ka : Int) + 1 by rcases (show x6 = 0 ∨ 1 ≤ x6 by omega) with h | h; exact .inl h; exact .inr ⟨(x6 - 1).toNat, by omega⟩) with rfl | ⟨ka, rfl⟩
      · rcases (show x7 = 0 ∨ ∃ kb : Nat, x7 = (kb : Int) + 1 by rcases (show x7 = 0 ∨ 1 ≤ x7 by omega) with h | h; exact .inl h; exact .inr ⟨(x7 - 1).toNat, by omega⟩) with rfl | ⟨kb, rfl⟩
        · rw [hz0] at hmk9
          clear hE9 hl9
          have HMK : Hid (makeE l1 ⟨x1, x2, x3, x4, x5, 0, 0⟩ = (l2, cv, 0)) := Lib.hid hmk9
          clear hmk9 hz0
          go_wp2_with (first
              | ((with_reducible refine gLd ?_); refine eLd H rfl rfl ?_; first | (refine kLd (iq + 6) g1 rfl T22 rfl ?_) | (refine kLd 1 rfl rfl T28 HE.out ?_) | (refine kLdA (jq + 6) g2 rfl T33 HL2.out HNE.out ?_; (try simp only [Nd.cells])) | (refine kLd 0 rfl rfl T28 rfl ?_) | (refine kLdA 0 rfl rfl T33 (Nat.le_of_ble_eq_true rfl) (by simp only [List.drop_zero, List.take_succ_cons, List.take_zero]; rfl) ?_) | (refine kLd 2 rfl rfl T28 HE.out ?_))
              | ((with_reducible refine gAl ?_); refine al H Z33 rfl rfl ?_; clear H; intro b12 w1 H)
              | ((with_reducible refine gSt ?_); first | (refine eSt H rfl rfl ⟨.agg (List.toArray _), rfl, ?_⟩; refine kStA 0 rfl rfl T33 rfl rfl (Nat.le_of_ble_eq_true rfl) ?_; clear H; intro w1 H; simp only [List.set_cons_zero, List.set_cons_succ] at H; (try simp only [lay, LS1, Nat.reduceAdd] at H)) | (refine eSt H rfl rfl ⟨.int .i64 _, rfl, ?_⟩; (first | (refine kSt 0 rfl rfl T28 rfl (Nat.le_of_ble_eq_true rfl) ?_) | (refine kSt 1 rfl rfl T28 rfl HLT.out ?_)); clear H; intro w1 H; simp only [List.set_cons_zero, List.set_cons_succ] at H))
              | (go_at_call 17; (refine (rMake_spec (n := ⟨x1, x2, x3, x4, x5, 0, 0⟩) (Hp.swap (A := [_, _, _]) (B := [_, _, _, _]) H) HLL.out HOK.out HMK.out).mono ?_; rintro e w1 ⟨b, s, d, cb, cs, cd, rfl, H1⟩; clear H; have H := Hp.swap (A := [_, _, _, _]) (B := [_, _, _]) H1; clear H1; simp only [List.cons_append, List.nil_append] at H))
              | ((with_reducible refine gLd ?_); refine eLd H rfl rfl ?_; first | ((repeat ((with_reducible refine gEx ?_); first | (refine kLd 0 rfl rfl (by exact TU _ rfl) rfl ?_) | (refine kLdA 0 rfl rfl (by exact TU _ rfl) (Nat.le_of_ble_eq_true rfl) (by simp only [Nd.cells, Nd.zero, LS2]; rfl) ?_) | (refine nxL ?_))); fail_if_success (with_reducible refine gEx ?_)))
              | ((with_reducible refine gSt ?_); (first | (refine eSt H rfl rfl ⟨.int _ _, rfl, ?_⟩) | (refine eSt H rfl rfl ⟨.bool _, rfl, ?_⟩) | (refine eSt H rfl rfl ⟨.slice _ _ _, rfl, ?_⟩) | (refine eSt H rfl rfl ⟨.pointer _, rfl, ?_⟩) | (refine eSt H rfl rfl ⟨.string _, rfl, ?_⟩) | (refine eSt H rfl rfl ⟨.agg (List.toArray _), rfl, ?_⟩)); (first | ((repeat ((with_reducible refine gES ?_); first | (refine kSt 0 rfl rfl (by exact TU _ rfl) rfl (Nat.le_of_ble_eq_true rfl) ?_) | (refine kStA 0 rfl rfl (by exact TU _ rfl) rfl rfl (Nat.le_of_ble_eq_true rfl) ?_) | (refine nxS ?_))); fail_if_success (with_reducible refine gES ?_))); clear H; intro w1 H; simp only [List.set_cons_zero, List.set_cons_succ] at H; (try simp only [lay, LS1, Nat.reduceAdd] at H))
              | ((with_reducible refine gBx ?_); refine bxA H rfl rfl rfl ?_; clear H; intro b1 w1 H)
              | ((with_reducible refine gEq ?_); (first | (refine wl_cmp rfl rfl rfl rfl ?_) | (refine wl_scmp rfl rfl rfl rfl ?_)); intro rb hrb; cases rb <;> (first | (exfalso; simp at hrb; done) | ((try simp only [CS1, gt_iff_lt, ge_iff_le, ne_eq, Decidable.not_not] at hrb); (try subst hrb); (try (exfalso; omega)))))
              | ((with_reducible refine EndQ.intro ?_ ?_); (· kernel_rfl))
              | ((with_reducible refine gRg ?_); refine wp_region_text rfl (by decide +kernel) ?_; replace H := H.drew))
          
          go_roundg (gk - 1)
          case measure => have := HKG.out; omega
          case rel => exact ⟨k + 1, b, s, d, cb, cs, cd, l2, own2, by go_num, by have := HKG.out; omega, HC2, eTo_set H HNM.out HOW.out⟩
        · rw [hz0] at hmk9
          obtain ⟨gb, hgb⟩ : ∃ z, getO own ((kb : Int) + 1) = z := ⟨_, rfl⟩
          have HKB : Hid ((toR own (lq.length + 1))[kb + 1]? = some (.int .i64 gb)) := Lib.hid (by rw [toR_at (by omega), ← hgb]; rfl)
          rw [hgb] at hmk9
          have hkb6 : (kb : Int) ≤ 65535 := by omega
          have hkb9 : (kb : Int) + 1 ≤ i := by omega
          clear hgb
          clear hE9 hl9
          have HMK : Hid (makeE l1 ⟨x1, x2, x3, x4, x5, 0, gb⟩ = (l2, cv, 0)) := Lib.hid hmk9
          clear hmk9 hz0
          go_wp2_with (first
              | ((with_reducible refine gLd ?_); refine eLd H rfl rfl ?_; first | (refine kLd (iq + 6) g1 rfl T22 rfl ?_) | (refine kLd 1 rfl rfl T28 HE.out ?_) | (refine kLdA (jq + 6) g2 rfl T33 HL2.out HNE.out ?_; (try simp only [Nd.cells])) | (refine kLd 0 rfl rfl T28 rfl ?_) | (refine kLd 1 rfl rfl T28 HKB.out ?_) | (refine kLdA 0 rfl rfl T33 (Nat.le_of_ble_eq_true rfl) (by simp only [List.drop_zero, List.take_succ_cons, List.take_zero]; rfl) ?_) | (refine kLd 2 rfl rfl T28 HE.out ?_))
              | ((with_reducible refine gAl ?_); refine al H Z33 rfl rfl ?_; clear H; intro b12 w1 H)
              | ((with_reducible refine gSt ?_); first | (refine eSt H rfl rfl ⟨.agg (List.toArray _), rfl, ?_⟩; refine kStA 0 rfl rfl T33 rfl rfl (Nat.le_of_ble_eq_true rfl) ?_; clear H; intro w1 H; simp only [List.set_cons_zero, List.set_cons_succ] at H; (try simp only [lay, LS1, Nat.reduceAdd] at H)) | (refine eSt H rfl rfl ⟨.int .i64 _, rfl, ?_⟩; (first | (refine kSt 0 rfl rfl T28 rfl (Nat.le_of_ble_eq_true rfl) ?_) | (refine kSt 1 rfl rfl T28 rfl HLT.out ?_)); clear H; intro w1 H; simp only [List.set_cons_zero, List.set_cons_succ] at H))
              | (go_at_call 17; (refine (rMake_spec (n := ⟨x1, x2, x3, x4, x5, 0, gb⟩) (Hp.swap (A := [_, _, _]) (B := [_, _, _, _]) H) HLL.out HOK.out HMK.out).mono ?_; rintro e w1 ⟨b, s, d, cb, cs, cd, rfl, H1⟩; clear H; have H := Hp.swap (A := [_, _, _, _]) (B := [_, _, _]) H1; clear H1; simp only [List.cons_append, List.nil_append] at H))
              | ((with_reducible refine gLd ?_); refine eLd H rfl rfl ?_; first | ((repeat ((with_reducible refine gEx ?_); first | (refine kLd 0 rfl rfl (by exact TU _ rfl) rfl ?_) | (refine kLdA 0 rfl rfl (by exact TU _ rfl) (Nat.le_of_ble_eq_true rfl) (by simp only [Nd.cells, Nd.zero, LS2]; rfl) ?_) | (refine nxL ?_))); fail_if_success (with_reducible refine gEx ?_)))
              | ((with_reducible refine gSt ?_); (first | (refine eSt H rfl rfl ⟨.int _ _, rfl, ?_⟩) | (refine eSt H rfl rfl ⟨.bool _, rfl, ?_⟩) | (refine eSt H rfl rfl ⟨.slice _ _ _, rfl, ?_⟩) | (refine eSt H rfl rfl ⟨.pointer _, rfl, ?_⟩) | (refine eSt H rfl rfl ⟨.string _, rfl, ?_⟩) | (refine eSt H rfl rfl ⟨.agg (List.toArray _), rfl, ?_⟩)); (first | ((repeat ((with_reducible refine gES ?_); first | (refine kSt 0 rfl rfl (by exact TU _ rfl) rfl (Nat.le_of_ble_eq_true rfl) ?_) | (refine kStA 0 rfl rfl (by exact TU _ rfl) rfl rfl (Nat.le_of_ble_eq_true rfl) ?_) | (refine nxS ?_))); fail_if_success (with_reducible refine gES ?_))); clear H; intro w1 H; simp only [List.set_cons_zero, List.set_cons_succ] at H; (try simp only [lay, LS1, Nat.reduceAdd] at H))
              | ((with_reducible refine gBx ?_); refine bxA H rfl rfl rfl ?_; clear H; intro b1 w1 H)
              | ((with_reducible refine gEq ?_); (first | (refine wl_cmp rfl rfl rfl rfl ?_) | (refine wl_scmp rfl rfl rfl rfl ?_)); intro rb hrb; cases rb <;> (first | (exfalso; simp at hrb; done) | ((try simp only [CS1, gt_iff_lt, ge_iff_le, ne_eq, Decidable.not_not] at hrb); (try subst hrb); (try (exfalso; omega)))))
              | ((with_reducible refine EndQ.intro ?_ ?_); (· kernel_rfl))
              | ((with_reducible refine gRg ?_); refine wp_region_text rfl (by decide +kernel) ?_; replace H := H.drew))
          
          go_roundg (gk - 1)
          case measure => have := HKG.out; omega
          case rel => exact ⟨k + 1, b, s, d, cb, cs, cd, l2, own2, by go_num, by have := HKG.out; omega, HC2, eTo_set H HNM.out HOW.out⟩
      · rcases (show x7 = 0 ∨ ∃ kb : Nat, x7 = (kb : Int) + 1 by rcases (show x7 = 0 ∨ 1 ≤ x7 by omega) with h | h; exact .inl h; exact .inr ⟨(x7 - 1).toNat, by omega⟩) with rfl | ⟨kb, rfl⟩
        · rw [hz0] at hmk9
          obtain ⟨ga, hga⟩ : ∃ z, getO own ((ka : Int) + 1) = z := ⟨_, rfl⟩
          have HKA : Hid ((toR own (lq.length + 1))[ka + 1]? = some (.int .i64 ga)) := Lib.hid (by rw [toR_at (by omega), ← hga]; rfl)
          rw [hga] at hmk9
          have hka6 : (ka : Int) ≤ 65535 := by omega
          have hka9 : (ka : Int) + 1 ≤ i := by omega
          clear hga
          clear hE9 hl9
          have HMK : Hid (makeE l1 ⟨x1, x2, x3, x4, x5, ga, 0⟩ = (l2, cv, 0)) := Lib.hid hmk9
          clear hmk9 hz0
          go_wp2_with (first
              | ((with_reducible refine gLd ?_); refine eLd H rfl rfl ?_; first | (refine kLd (iq + 6) g1 rfl T22 rfl ?_) | (refine kLd 1 rfl rfl T28 HE.out ?_) | (refine kLdA (jq + 6) g2 rfl T33 HL2.out HNE.out ?_; (try simp only [Nd.cells])) | (refine kLd 0 rfl rfl T28 rfl ?_) | (refine kLd 1 rfl rfl T28 HKA.out ?_) | (refine kLdA 0 rfl rfl T33 (Nat.le_of_ble_eq_true rfl) (by simp only [List.drop_zero, List.take_succ_cons, List.take_zero]; rfl) ?_) | (refine kLd 2 rfl rfl T28 HE.out ?_))
              | ((with_reducible refine gAl ?_); refine al H Z33 rfl rfl ?_; clear H; intro b12 w1 H)
              | ((with_reducible refine gSt ?_); first | (refine eSt H rfl rfl ⟨.agg (List.toArray _), rfl, ?_⟩; refine kStA 0 rfl rfl T33 rfl rfl (Nat.le_of_ble_eq_true rfl) ?_; clear H; intro w1 H; simp only [List.set_cons_zero, List.set_cons_succ] at H; (try simp only [lay, LS1, Nat.reduceAdd] at H)) | (refine eSt H rfl rfl ⟨.int .i64 _, rfl, ?_⟩; (first | (refine kSt 0 rfl rfl T28 rfl (Nat.le_of_ble_eq_true rfl) ?_) | (refine kSt 1 rfl rfl T28 rfl HLT.out ?_)); clear H; intro w1 H; simp only [List.set_cons_zero, List.set_cons_succ] at H))
              | (go_at_call 17; (refine (rMake_spec (n := ⟨x1, x2, x3, x4, x5, ga, 0⟩) (Hp.swap (A := [_, _, _]) (B := [_, _, _, _]) H) HLL.out HOK.out HMK.out).mono ?_; rintro e w1 ⟨b, s, d, cb, cs, cd, rfl, H1⟩; clear H; have H := Hp.swap (A := [_, _, _, _]) (B := [_, _, _]) H1; clear H1; simp only [List.cons_append, List.nil_append] at H))
              | ((with_reducible refine gLd ?_); refine eLd H rfl rfl ?_; first | ((repeat ((with_reducible refine gEx ?_); first | (refine kLd 0 rfl rfl (by exact TU _ rfl) rfl ?_) | (refine kLdA 0 rfl rfl (by exact TU _ rfl) (Nat.le_of_ble_eq_true rfl) (by simp only [Nd.cells, Nd.zero, LS2]; rfl) ?_) | (refine nxL ?_))); fail_if_success (with_reducible refine gEx ?_)))
              | ((with_reducible refine gSt ?_); (first | (refine eSt H rfl rfl ⟨.int _ _, rfl, ?_⟩) | (refine eSt H rfl rfl ⟨.bool _, rfl, ?_⟩) | (refine eSt H rfl rfl ⟨.slice _ _ _, rfl, ?_⟩) | (refine eSt H rfl rfl ⟨.pointer _, rfl, ?_⟩) | (refine eSt H rfl rfl ⟨.string _, rfl, ?_⟩) | (refine eSt H rfl rfl ⟨.agg (List.toArray _), rfl, ?_⟩)); (first | ((repeat ((with_reducible refine gES ?_); first | (refine kSt 0 rfl rfl (by exact TU _ rfl) rfl (Nat.le_of_ble_eq_true rfl) ?_) | (refine kStA 0 rfl rfl (by exact TU _ rfl) rfl rfl (Nat.le_of_ble_eq_true rfl) ?_) | (refine nxS ?_))); fail_if_success (with_reducible refine gES ?_))); clear H; intro w1 H; simp only [List.set_cons_zero, List.set_cons_succ] at H; (try simp only [lay, LS1, Nat.reduceAdd] at H))
              | ((with_reducible refine gBx ?_); refine bxA H rfl rfl rfl ?_; clear H; intro b1 w1 H)
              | ((with_reducible refine gEq ?_); (first | (refine wl_cmp rfl rfl rfl rfl ?_) | (refine wl_scmp rfl rfl rfl rfl ?_)); intro rb hrb; cases rb <;> (first | (exfalso; simp at hrb; done) | ((try simp only [CS1, gt_iff_lt, ge_iff_le, ne_eq, Decidable.not_not] at hrb); (try subst hrb); (try (exfalso; omega)))))
              | ((with_reducible refine EndQ.intro ?_ ?_); (· kernel_rfl))
              | ((with_reducible refine gRg ?_); refine wp_region_text rfl (by decide +kernel) ?_; replace H := H.drew))
          
          go_roundg (gk - 1)
          case measure => have := HKG.out; omega
          case rel => exact ⟨k + 1, b, s, d, cb, cs, cd, l2, own2, by go_num, by have := HKG.out; omega, HC2, eTo_set H HNM.out HOW.out⟩
        · obtain ⟨ga, hga⟩ : ∃ z, getO own ((ka : Int) + 1) = z := ⟨_, rfl⟩
          have HKA : Hid ((toR own (lq.length + 1))[ka + 1]? = some (.int .i64 ga)) := Lib.hid (by rw [toR_at (by omega), ← hga]; rfl)
          rw [hga] at hmk9
          obtain ⟨gb, hgb⟩ : ∃ z, getO own ((kb : Int) + 1) = z := ⟨_, rfl⟩
          have HKB : Hid ((toR own (lq.length + 1))[kb + 1]? = some (.int .i64 gb)) := Lib.hid (by rw [toR_at (by omega), ← hgb]; rfl)
          rw [hgb] at hmk9
          have hka6 : (ka : Int) ≤ 65535 := by omega
          have hka9 : (ka : Int) + 1 ≤ i := by omega
          clear hga
          have hkb6 : (kb : Int) ≤ 65535 := by omega
          have hkb9 : (kb : Int) + 1 ≤ i := by omega
          clear hgb
          clear hE9 hl9
          have HMK : Hid (makeE l1 ⟨x1, x2, x3, x4, x5, ga, gb⟩ = (l2, cv, 0)) := Lib.hid hmk9
          clear hmk9 hz0
          go_wp2_with (first
              | ((with_reducible refine gLd ?_); refine eLd H rfl rfl ?_; first | (refine kLd (iq + 6) g1 rfl T22 rfl ?_) | (refine kLd 1 rfl rfl T28 HE.out ?_) | (refine kLdA (jq + 6) g2 rfl T33 HL2.out HNE.out ?_; (try simp only [Nd.cells])) | (refine kLd 0 rfl rfl T28 rfl ?_) | (refine kLd 1 rfl rfl T28 HKA.out ?_) | (refine kLd 1 rfl rfl T28 HKB.out ?_) | (refine kLdA 0 rfl rfl T33 (Nat.le_of_ble_eq_true rfl) (by simp only [List.drop_zero, List.take_succ_cons, List.take_zero]; rfl) ?_) | (refine kLd 2 rfl rfl T28 HE.out ?_))
              | ((with_reducible refine gAl ?_); refine al H Z33 rfl rfl ?_; clear H; intro b12 w1 H)
              | ((with_reducible refine gSt ?_); first | (refine eSt H rfl rfl ⟨.agg (List.toArray _), rfl, ?_⟩; refine kStA 0 rfl rfl T33 rfl rfl (Nat.le_of_ble_eq_true rfl) ?_; clear H; intro w1 H; simp only [List.set_cons_zero, List.set_cons_succ] at H; (try simp only [lay, LS1, Nat.reduceAdd] at H)) | (refine eSt H rfl rfl ⟨.int .i64 _, rfl, ?_⟩; (first | (refine kSt 0 rfl rfl T28 rfl (Nat.le_of_ble_eq_true rfl) ?_) | (refine kSt 1 rfl rfl T28 rfl HLT.out ?_)); clear H; intro w1 H; simp only [List.set_cons_zero, List.set_cons_succ] at H))
              | (go_at_call 17; (refine (rMake_spec (n := ⟨x1, x2, x3, x4, x5, ga, gb⟩) (Hp.swap (A := [_, _, _]) (B := [_, _, _, _]) H) HLL.out HOK.out HMK.out).mono ?_; rintro e w1 ⟨b, s, d, cb, cs, cd, rfl, H1⟩; clear H; have H := Hp.swap (A := [_, _, _, _]) (B := [_, _, _]) H1; clear H1; simp only [List.cons_append, List.nil_append] at H))
              | ((with_reducible refine gLd ?_); refine eLd H rfl rfl ?_; first | ((repeat ((with_reducible refine gEx ?_); first | (refine kLd 0 rfl rfl (by exact TU _ rfl) rfl ?_) | (refine kLdA 0 rfl rfl (by exact TU _ rfl) (Nat.le_of_ble_eq_true rfl) (by simp only [Nd.cells, Nd.zero, LS2]; rfl) ?_) | (refine nxL ?_))); fail_if_success (with_reducible refine gEx ?_)))
              | ((with_reducible refine gSt ?_); (first | (refine eSt H rfl rfl ⟨.int _ _, rfl, ?_⟩) | (refine eSt H rfl rfl ⟨.bool _, rfl, ?_⟩) | (refine eSt H rfl rfl ⟨.slice _ _ _, rfl, ?_⟩) | (refine eSt H rfl rfl ⟨.pointer _, rfl, ?_⟩) | (refine eSt H rfl rfl ⟨.string _, rfl, ?_⟩) | (refine eSt H rfl rfl ⟨.agg (List.toArray _), rfl, ?_⟩)); (first | ((repeat ((with_reducible refine gES ?_); first | (refine kSt 0 rfl rfl (by exact TU _ rfl) rfl (Nat.le_of_ble_eq_true rfl) ?_) | (refine kStA 0 rfl rfl (by exact TU _ rfl) rfl rfl (Nat.le_of_ble_eq_true rfl) ?_) | (refine nxS ?_))); fail_if_success (with_reducible refine gES ?_))); clear H; intro w1 H; simp only [List.set_cons_zero, List.set_cons_succ] at H; (try simp only [lay, LS1, Nat.reduceAdd] at H))
              | ((with_reducible refine gBx ?_); refine bxA H rfl rfl rfl ?_; clear H; intro b1 w1 H)
              | ((with_reducible refine gEq ?_); (first | (refine wl_cmp rfl rfl rfl rfl ?_) | (refine wl_scmp rfl rfl rfl rfl ?_)); intro rb hrb; cases rb <;> (first | (exfalso; simp at hrb; done) | ((try simp only [CS1, gt_iff_lt, ge_iff_le, ne_eq, Decidable.not_not] at hrb); (try subst hrb); (try (exfalso; omega)))))
              | ((with_reducible refine EndQ.intro ?_ ?_); (· kernel_rfl))
              | ((with_reducible refine gRg ?_); refine wp_region_text rfl (by decide +kernel) ?_; replace H := H.drew))
          
          go_roundg (gk - 1)
          case measure => have := HKG.out; omega
          case rel => exact ⟨k + 1, b, s, d, cb, cs, cd, l2, own2, by go_num, by have := HKG.out; omega, HC2, eTo_set H HNM.out HOW.out⟩
    · obtain rfl : N = k := by omega
      have hC := HC.out
      rw [List.take_of_length_le (by rw [HN.out]; exact Nat.le_refl _)] at hC
      have hkb : t ∈ full := HTM.out
      obtain ⟨j, hj⟩ : ∃ j : Nat, t = (j : Int) + 1 := ⟨(t - 1).toNat, by have := inP_bd HIN.out; omega⟩
      have hjl : j < lq.length := by have := inP_bd HIN.out; omega
      obtain ⟨rv, hrv⟩ : ∃ z, getO own t = z := ⟨_, rfl⟩
      have HCF := Lib.hid hC
      have HRV := Lib.hid hrv
      subst hj
      have HRT : Hid ((toR own (lq.length + 1))[j + 1]? = some (.int .i64 rv)) := Lib.hid (by rw [toR_at (by omega), ← hrv]; rfl)
      have hl9 := HLS.out
      have hj6 : (j : Int) ≤ 65535 := by omega
      clear hC hkb hrv hl9 HC HTM
      go_wp2_with (first
    | ((with_reducible refine gLd ?_); refine eLd H rfl rfl ?_; refine kLd 0 rfl rfl T28 HRT.out ?_)
    | ((with_reducible refine gLd ?_); refine eLd H rfl rfl ?_; first | ((repeat ((with_reducible refine gEx ?_); first | (refine kLd 0 rfl rfl (by exact TU _ rfl) rfl ?_) | (refine kLdA 0 rfl rfl (by exact TU _ rfl) (Nat.le_of_ble_eq_true rfl) (by simp only [Nd.cells, Nd.zero, LS2]; rfl) ?_) | (refine nxL ?_))); fail_if_success (with_reducible refine gEx ?_)))
    | ((with_reducible refine gSt ?_); (first | (refine eSt H rfl rfl ⟨.int _ _, rfl, ?_⟩) | (refine eSt H rfl rfl ⟨.bool _, rfl, ?_⟩) | (refine eSt H rfl rfl ⟨.slice _ _ _, rfl, ?_⟩) | (refine eSt H rfl rfl ⟨.pointer _, rfl, ?_⟩) | (refine eSt H rfl rfl ⟨.string _, rfl, ?_⟩) | (refine eSt H rfl rfl ⟨.agg (List.toArray _), rfl, ?_⟩)); (first | ((repeat ((with_reducible refine gES ?_); first | (refine kSt 0 rfl rfl (by exact TU _ rfl) rfl (Nat.le_of_ble_eq_true rfl) ?_) | (refine kStA 0 rfl rfl (by exact TU _ rfl) rfl rfl (Nat.le_of_ble_eq_true rfl) ?_) | (refine nxS ?_))); fail_if_success (with_reducible refine gES ?_))); clear H; intro w1 H; simp only [List.set_cons_zero, List.set_cons_succ] at H; (try simp only [lay, LS1, Nat.reduceAdd] at H))
    | ((with_reducible refine gBx ?_); refine bxA H rfl rfl rfl ?_; clear H; intro b1 w1 H)
    | ((with_reducible refine gEq ?_); (first | (refine wl_cmp rfl rfl rfl rfl ?_) | (refine wl_scmp rfl rfl rfl rfl ?_)); intro rb hrb; cases rb <;> (first | (exfalso; simp at hrb; done) | ((try simp only [CS1, gt_iff_lt, ge_iff_le, ne_eq, Decidable.not_not] at hrb); (try subst hrb); (try (exfalso; omega)))))
    | ((with_reducible refine EndQ.intro ?_ ?_); (· kernel_rfl))
    | ((with_reducible refine gRg ?_); refine wp_region_text rfl (by decide +kernel) ?_; replace H := H.drew))
      go_ret2
      refine ⟨b, s, d, cb, cs, cd, ?_, ?_⟩
      · rw [HFU.out, HCF.out, HRV.out]; rfl
      · rw [HFU.out, HCF.out]; exact H.drop.drop
end Go.Proofs.Ytebecelhcpljaaa
