/- Layer 5: the order of terms, as plain data. No program in sight. -/
import Derived.Test.YtebecelhcpljaaaPlain2
set_option linter.unusedVariables false
set_option linter.unusedSimpArgs false
namespace Go.Gx.Trm
open Go Go.Gx
def nodeQ (l : List En) (t : Int) : Nd := match entP l t with | some e => e.n | none => Nd.zero
theorem bl_irr : ∀ l : List UInt8, Op.bytesLess l l = false
  | [] => rfl
  | a :: l => by simp [Op.bytesLess, bl_irr l]
theorem bl_tr : ∀ a b c : List UInt8, Op.bytesLess a b = true → Op.bytesLess b c = true → Op.bytesLess a c = true
  | _, [], _, h, _ => by simp [Op.bytesLess] at h
  | _, _ :: _, [], _, h => by simp [Op.bytesLess] at h
  | [], _ :: _, _ :: _, _, _ => rfl
  | x :: a, y :: b, z :: c, h, k => by
    simp only [Op.bytesLess, Bool.or_eq_true, Bool.and_eq_true, decide_eq_true_eq, beq_iff_eq] at *
    rcases h with h | ⟨rfl, h⟩
    · rcases k with k | ⟨rfl, k⟩
      · exact .inl (UInt8.lt_trans h k)
      · exact .inl h
    · rcases k with k | ⟨rfl, k⟩
      · exact .inl k
      · exact .inr ⟨rfl, bl_tr a b c h k⟩
theorem bl_tri : ∀ a b : List UInt8, Op.bytesLess a b = false → Op.bytesLess b a = false → a = b
  | [], [], _, _ => rfl
  | [], _ :: _, h, _ => by simp [Op.bytesLess] at h
  | _ :: _, [], _, h => by simp [Op.bytesLess] at h
  | x :: a, y :: b, h, k => by
    simp only [Op.bytesLess, Bool.or_eq_false_iff, decide_eq_false_iff_not, Bool.and_eq_false_iff, beq_eq_false_iff_ne, ne_eq] at h k
    have e : x = y := UInt8.le_antisymm (UInt8.not_lt.1 k.1) (UInt8.not_lt.1 h.1)
    subst e
    rcases h.2 with h2 | h2
    · exact absurd rfl h2
    · rcases k.2 with k2 | k2
      · exact absurd rfl k2
      · rw [bl_tri a b h2 k2]
structure IsC {α : Type} (c : α → α → Int) : Prop where
  anti : ∀ a b, c b a = - c a b
  tr : ∀ a b d, c a b ≤ 0 → c b d ≤ 0 → c a d ≤ 0
  trs : ∀ a b d, c a b ≤ 0 → c b d ≤ 0 → c a b < 0 ∨ c b d < 0 → c a d < 0
theorem IsC.rfl {α : Type} {c : α → α → Int} (h : IsC c) (a : α) : c a a = 0 := by have := h.anti a a; omega
theorem IsC.comap {α β : Type} {c : α → α → Int} (h : IsC c) (f : β → α) : IsC (fun a b => c (f a) (f b)) := ⟨fun a b => h.anti _ _, fun a b d => h.tr _ _ _, fun a b d => h.trs _ _ _⟩
def lexC {α : Type} (c d : α → α → Int) (a b : α) : Int := if c a b = 0 then d a b else c a b
theorem IsC.zero {α : Type} {c : α → α → Int} (h : IsC c) {a b e : α} (h1 : c a b = 0) (h2 : c b e = 0) : c a e = 0 := by
  have h3 := h.tr a b e (by omega) (by omega)
  have h4 := h.tr e b a (by rw [h.anti b e]; omega) (by rw [h.anti a b]; omega)
  rw [h.anti a e] at h4
  omega
theorem IsC.lex {α : Type} {c d : α → α → Int} (h : IsC c) (k : IsC d) : IsC (lexC c d) := by
  refine ⟨fun a b => ?_, fun a b e h1 h2 => ?_, fun a b e h1 h2 h3 => ?_⟩
  · unfold lexC
    rw [h.anti a b, k.anti a b]
    by_cases h0 : c a b = 0
    · rw [if_pos (by omega), if_pos h0]
    · rw [if_neg (by omega), if_neg h0]
  · unfold lexC at *
    have t1 := h.tr a b e
    have t2 := h.trs a b e
    by_cases c1 : c a b = 0 <;> by_cases c2 : c b e = 0
    · rw [if_pos c1] at h1; rw [if_pos c2] at h2
      rw [if_pos (h.zero c1 c2)]
      exact k.tr a b e h1 h2
    · rw [if_neg c2] at h2
      have := t2 (by omega) (by omega) (.inr (by omega))
      rw [if_neg (by omega)]; omega
    · rw [if_neg c1] at h1
      have := t2 (by omega) (by omega) (.inl (by omega))
      rw [if_neg (by omega)]; omega
    · rw [if_neg c1] at h1; rw [if_neg c2] at h2
      have := t2 (by omega) (by omega) (.inl (by omega))
      rw [if_neg (by omega)]; omega
  · unfold lexC at *
    have t2 := h.trs a b e
    by_cases c1 : c a b = 0 <;> by_cases c2 : c b e = 0
    · rw [if_pos c1] at h1 h3; rw [if_pos c2] at h2 h3
      rw [if_pos (h.zero c1 c2)]
      exact k.trs a b e h1 h2 h3
    · rw [if_neg c2] at h2
      have := t2 (by omega) (by omega) (.inr (by omega))
      rw [if_neg (by omega)]; omega
    · rw [if_neg c1] at h1
      have := t2 (by omega) (by omega) (.inl (by omega))
      rw [if_neg (by omega)]; omega
    · rw [if_neg c1] at h1; rw [if_neg c2] at h2
      have := t2 (by omega) (by omega) (.inl (by omega))
      rw [if_neg (by omega)]; omega
def cmpI (x y : Int) : Int := if x < y then -1 else if y < x then 1 else 0
theorem cmpI_ok : IsC cmpI := by
  refine ⟨fun a b => ?_, fun a b d h1 h2 => ?_, fun a b d h1 h2 h3 => ?_⟩ <;> unfold cmpI at * <;> (repeat' split at *) <;> omega
theorem cmpI_zero {x y : Int} (h : cmpI x y = 0) : x = y := by
  unfold cmpI at h
  repeat' split at h
  all_goals omega
def cmpS (s t : ByteArray) : Int := if Op.bytesLess s.toList t.toList = true then -1 else if Op.bytesLess t.toList s.toList = true then 1 else 0
theorem cmpS_ok : IsC cmpS := by
  have asym : ∀ a b : List UInt8, Op.bytesLess a b = true → Op.bytesLess b a = false := fun a b h => by
    cases h2 : Op.bytesLess b a with
    | false => rfl
    | true => have := bl_tr a b a h h2; rw [bl_irr] at this; cases this
  have eqs : ∀ a b : List UInt8, Op.bytesLess a b = false → Op.bytesLess b a = false → a = b := bl_tri
  refine ⟨fun a b => ?_, fun a b d h1 h2 => ?_, fun a b d h1 h2 h3 => ?_⟩
  · unfold cmpS
    cases h1 : Op.bytesLess a.toList b.toList <;> cases h2 : Op.bytesLess b.toList a.toList <;> simp
    have := asym _ _ h1
    rw [h2] at this; cases this
  · unfold cmpS at *
    cases e1 : Op.bytesLess a.toList b.toList <;> cases e2 : Op.bytesLess b.toList a.toList <;> cases e3 : Op.bytesLess b.toList d.toList <;> cases e4 : Op.bytesLess d.toList b.toList <;> simp [e1, e2, e3, e4] at h1 h2
    · rw [eqs _ _ e1 e2, eqs _ _ e3 e4]; simp [bl_irr]
    · rw [eqs _ _ e1 e2, e3]; simp
    · rw [eqs _ _ e1 e2, e3]; simp
    · rw [← eqs _ _ e3 e4, e1]; simp
    · rw [bl_tr _ _ _ e1 e3]; simp
    · rw [bl_tr _ _ _ e1 e3]; simp
    all_goals (have h9 := asym _ _ e1; rw [e2] at h9; cases h9)
  · unfold cmpS at *
    cases e1 : Op.bytesLess a.toList b.toList <;> cases e2 : Op.bytesLess b.toList a.toList <;> cases e3 : Op.bytesLess b.toList d.toList <;> cases e4 : Op.bytesLess d.toList b.toList <;> simp [e1, e2, e3, e4] at h1 h2 h3
    · rw [eqs _ _ e1 e2, e3]; simp
    · rw [eqs _ _ e1 e2, e3]; simp
    · rw [← eqs _ _ e3 e4, e1]; simp
    · rw [bl_tr _ _ _ e1 e3]; simp
    · rw [bl_tr _ _ _ e1 e3]; simp
    all_goals (have h9 := asym _ _ e1; rw [e2] at h9; cases h9)
theorem cmpS_zero {s t : ByteArray} (h : cmpS s t = 0) : s = t := by
  unfold cmpS at h
  cases e1 : Op.bytesLess s.toList t.toList <;> cases e2 : Op.bytesLess t.toList s.toList <;> simp [e1, e2] at h
  have := bl_tri _ _ e1 e2
  exact sEq_iff.1 (by unfold sEq; rw [beq_iff_eq]; exact this)
def b2i (b : Bool) : Int := if b then 1 else 0
def headC : Nd → Nd → Int := lexC (fun x y => cmpI x.kind y.kind) (lexC (fun x y => cmpI x.frm y.frm) (lexC (fun x y => cmpI x.dst y.dst) (lexC (fun x y => cmpI x.num y.num) (fun x y => cmpS x.text y.text))))
theorem headC_ok : IsC headC := (cmpI_ok.comap Nd.kind).lex ((cmpI_ok.comap Nd.frm).lex ((cmpI_ok.comap Nd.dst).lex ((cmpI_ok.comap Nd.num).lex (cmpS_ok.comap Nd.text))))
theorem lexC_zero {α : Type} {c d : α → α → Int} {a b : α} (h : lexC c d a b = 0) : c a b = 0 ∧ d a b = 0 := by
  unfold lexC at h
  split at h
  · rename_i h0; exact ⟨h0, h⟩
  · rename_i h0; exact absurd h h0
def cmpF (l : List En) : Nat → Int → Int → Int
  | 0 => fun a b => cmpI (b2i (inP l a)) (b2i (inP l b))
  | f + 1 => lexC (fun a b => cmpI (b2i (inP l a)) (b2i (inP l b))) (lexC (fun a b => headC (nodeQ l a) (nodeQ l b)) (lexC (fun a b => cmpF l f (nodeQ l a).a (nodeQ l b).a) (fun a b => cmpF l f (nodeQ l a).b (nodeQ l b).b)))
theorem cmpF_ok (l : List En) : ∀ f, IsC (cmpF l f)
  | 0 => by unfold cmpF; exact cmpI_ok.comap (fun a => b2i (inP l a))
  | f + 1 => by
    unfold cmpF
    exact (cmpI_ok.comap (fun a => b2i (inP l a))).lex ((headC_ok.comap (nodeQ l)).lex (((cmpF_ok l f).comap (fun a => (nodeQ l a).a)).lex ((cmpF_ok l f).comap (fun a => (nodeQ l a).b))))
theorem nodeQ_some {l : List En} {i : Nat} {e : En} (h : l[i]? = some e) : nodeQ l ((i : Int) + 1) = e.n := by simp [nodeQ, entP_i h]
theorem nodeQ_no {l : List En} {t : Int} (h : inP l t = false) : nodeQ l t = Nd.zero := by simp [nodeQ, entP_no h]
/-- alike means the same -/
theorem cmpF_zero {l : List En} (hw : wfP l) : ∀ (f : Nat) (a b : Int), inP l a = true → inP l b = true → a.toNat ≤ f → cmpF l f a b = 0 → a = b := by
  intro f
  induction f with
  | zero => intro a b ha _ hf _; have := inP_bd ha; omega
  | succ f ih =>
    intro a b ha hb hf h
    unfold cmpF at h
    obtain ⟨_, h⟩ := lexC_zero h
    obtain ⟨h1, h⟩ := lexC_zero h
    obtain ⟨h2, h3⟩ := lexC_zero h
    obtain ⟨i, e, rfl, hi, hgi, _⟩ := entP_in ha
    obtain ⟨j, e', rfl, hj, hgj, _⟩ := entP_in hb
    simp only [nodeQ_some hgi, nodeQ_some hgj] at h1 h2 h3
    have hE := hw.wf i e hgi
    have hE' := hw.wf j e' hgj
    unfold headC at h1
    obtain ⟨k1, h1⟩ := lexC_zero h1
    obtain ⟨k2, h1⟩ := lexC_zero h1
    obtain ⟨k3, h1⟩ := lexC_zero h1
    obtain ⟨k4, k5⟩ := lexC_zero h1
    have k1 := cmpI_zero k1; have k2 := cmpI_zero k2; have k3 := cmpI_zero k3; have k4 := cmpI_zero k4; have k5 := cmpS_zero k5
    have hp := plain_kids hE.sh; have hp' := plain_kids hE'.sh
    have hlt := hE.lt; have hlt' := hE'.lt
    have hin : ∀ {t : Int} {i : Nat}, i < l.length → 1 ≤ t → t ≤ i → inP l t = true := fun h h1 h2 => by unfold inP; simp; omega
    have hkn := kidsN_le e.n.kind
    have ka : e.n.a = e'.n.a := by
      by_cases h0 : kidsN e.n.kind = 0
      · rw [hp.1 h0, hp'.1 (by rw [← k1]; exact h0)]
      · have a1 := hE.a1 (by omega); have a2 := hE'.a1 (by rw [← k1]; omega)
        exact ih _ _ (hin hi a1.1 a1.2) (hin hj a2.1 a2.2) (by omega) h2
    have kb : e.n.b = e'.n.b := by
      by_cases h0 : kidsN e.n.kind ≤ 1
      · rw [hp.2 h0, hp'.2 (by rw [← k1]; exact h0)]
      · have a1 := hE.b1 (by omega); have a2 := hE'.b1 (by rw [← k1]; omega)
        exact ih _ _ (hin hi a1.1 a1.2) (hin hj a2.1 a2.2) (by omega) h3
    have hn : e.n = e'.n := by
      cases he : e.n; cases he' : e'.n
      rw [he, he'] at k1 k2 k3 k4 k5 ka kb
      simp only at k1 k2 k3 k4 k5 ka kb
      subst k1 k2 k3 k4 k5 ka kb
      rfl
    have f1 := hE.fi; have f2 := hE'.fi
    rw [hn, f2] at f1
    simp only [Option.some.injEq] at f1
    omega
/-- the first that is not zero -/
def orE : List Int → Int
  | [] => 0
  | z :: zs => if z = 0 then orE zs else z
theorem headC_or (x y : Nd) : headC x y = orE [cmpI x.kind y.kind, cmpI x.frm y.frm, cmpI x.dst y.dst, cmpI x.num y.num, cmpS x.text y.text] := by
  unfold headC lexC orE
  simp only [orE]
  repeat' split
  all_goals simp_all
end Go.Gx.Trm
