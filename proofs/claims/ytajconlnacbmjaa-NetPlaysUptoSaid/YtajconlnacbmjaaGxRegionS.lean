/-
  A region that draws its order and holds loads beside calls, walked in the order of its text: one condition S on the world, under which each load yields what it yields, and which each other operation keeps. Generic: no program in sight.
-/
import Derived.Test.YtajconlnacbmjaaGxRegion
import Derived.Test.YtajconlnacbmjaaGxHeap
import Derived.OrdersHeld
set_option linter.unusedVariables false
set_option linter.unusedSimpArgs false
namespace Go.Gx
def swapS (P : Program) (ops : Array Oper) (y x : Oper) : Bool :=
  y.apart ops x && x.apart ops y && (pureB P y.op || pureB P x.op || loadB y.op || loadB x.op)
def chkWithS (P : Program) (ops : Array Oper) (anc : List (List Nat)) : Bool :=
  ancOk ops anc &&
  ((List.range ops.size).all fun j => match ops[j]? with
    | some o => !selB o.op && (o.after.all fun e => !Region.binds .any e || decide (e.on < j)) &&
      ((List.range j).all fun i => (anc.getD j []).contains i || (match ops[i]? with | some oi => swapS P ops oi o | none => false)) &&
      (!pureB P o.op || (List.range ops.size).all fun i => (anc.getD j []).contains i || (match ops[i]? with | some oi => (match oi.dst with | some d => !(plainSlots o).contains d | none => true) | none => false))
    | none => false)
def chkS (P : Program) (ops : Array Oper) : Bool := chkWithS P ops (ancs ops.toList)
/-- a load yields v in every world of S -/
def YS (P : Program) (ops : Array Oper) (S : World → Prop) (o : Oper) (v : Value) (a : Act) : Prop :=
  (Region.wanted o (yielded ops a.tmps) = true ∧ ∀ u, S u → (execOp a.eval o).run P u = .ok (.value v) u) ∨ (Region.wanted o (yielded ops a.tmps) = false ∧ v = undef)
def twO (P : Program) (ops : Array Oper) (Q : Exit → Act → World → Prop) (S : World → Prop) (i : Nat) (K : Act → World → Prop) (a : Act) (w : World) : Prop :=
  match ops[i]? with
  | none => False
  | some o => if loadB o.op then ∃ v, YS P ops S o v a ∧ K (a.put o.dst v) w else wpOp P ops Q i (fun a' w' => S w' ∧ K a' w') a w
def tws (P : Program) (ops : Array Oper) (Q : Exit → Act → World → Prop) (S : World → Prop) : List Nat → Act → World → Prop
  | [], a, w => Q .normal a w
  | i :: s, a, w => twO P ops Q S i (tws P ops Q S s) a w
section
variable {P : Program} {ops : Array Oper} {Q : Exit → Act → World → Prop} {S : World → Prop}
theorem twO_load {i : Nat} {o : Oper} (hi : ops[i]? = some o) (hl : loadB o.op = true) {K : Act → World → Prop} {a : Act} {w : World} : twO P ops Q S i K a w ↔ ∃ v, YS P ops S o v a ∧ K (a.put o.dst v) w := by
  unfold twO; simp only [hi, hl, if_true]
theorem twO_other {i : Nat} {o : Oper} (hi : ops[i]? = some o) (hl : loadB o.op = false) {K : Act → World → Prop} {a : Act} {w : World} : twO P ops Q S i K a w ↔ wpOp P ops Q i (fun a' w' => S w' ∧ K a' w') a w := by
  unfold twO; simp [hi, hl]
/-- S holds wherever the walk goes on. -/
theorem twO_mono {i : Nat} {K K' : Act → World → Prop} {a : Act} {w : World} (hw : S w) (h : ∀ a w, S w → K a w → K' a w) (hh : twO P ops Q S i K a w) : twO P ops Q S i K' a w := by
  cases ho : ops[i]? with
  | none => unfold twO at hh; simp only [ho] at hh
  | some o =>
    cases hl : loadB o.op with
    | true => obtain ⟨v, hy, hk⟩ := (twO_load ho hl).1 hh; exact (twO_load ho hl).2 ⟨v, hy, h _ _ hw hk⟩
    | false => exact (twO_other ho hl).2 (wpOp_mono (fun a w hk => ⟨hk.1, h _ _ hk.1 hk.2⟩) ((twO_other ho hl).1 hh))
theorem YS.move {x y : Oper} (hs : selB x.op = false) (hap : x.apart ops y = true) {v u : Value} {a a' : Act} (ht : a'.tmps = (a.put y.dst u).tmps) : YS P ops S x v a' ↔ YS P ops S x v a := by
  have hsel : ∀ cs b, x.op ≠ .select cs b := fun cs b e => by simp [e, selB] at hs
  obtain ⟨_, _, h3⟩ := Oper.apart_spec hap
  have e1 : execOp a'.eval x = execOp a.eval x := by rw [eval_of_tmps ht]; exact execOp_put x hsel a y.dst u h3
  have e2 : Region.wanted x (yielded ops a'.tmps) = Region.wanted x (yielded ops a.tmps) := by rw [ht]; exact wanted_put x a y.dst u h3
  unfold YS
  rw [e1, e2]
theorem YS.uniq {x : Oper} {v u : Value} {a : Act} {w : World} (hw : S w) (h1 : YS P ops S x v a) (h2 : YS P ops S x u a) : v = u := by
  rcases h1 with ⟨a1, b1⟩ | ⟨a1, b1⟩ <;> rcases h2 with ⟨a2, b2⟩ | ⟨a2, b2⟩
  · have := (b1 w hw).symm.trans (b2 w hw); simpa using this
  · rw [a1] at a2; cases a2
  · rw [a1] at a2; cases a2
  · rw [b1, b2]
theorem YS.wpOp {i : Nat} {o : Oper} {v : Value} {a : Act} {w : World} (hi : ops[i]? = some o) (hw : S w) (hy : YS P ops S o v a) {K : Act → World → Prop} (h : K (a.put o.dst v) w) : wpOp P ops Q i K a w := by
  unfold Go.wpOp
  simp only [hi]
  rcases hy with ⟨hw', hv⟩ | ⟨hw', rfl⟩
  · simp only [hw', if_true, Oper.wp, hv w hw, Oper.upon]; exact .inl h
  · simp only [hw', Bool.false_eq_true, if_false]; exact h
theorem tws_wpOp {i : Nat} {o : Oper} (hi : ops[i]? = some o) {s : List Nat} {a : Act} {w : World} (hw : S w) (h : tws P ops Q S (i :: s) a w) : wpOp P ops Q i (fun a w => S w ∧ tws P ops Q S s a w) a w := by
  have h' : twO P ops Q S i (tws P ops Q S s) a w := h
  cases hl : loadB o.op with
  | true => obtain ⟨v, hy, hk⟩ := (twO_load hi hl).1 h'; exact hy.wpOp hi hw ⟨hw, hk⟩
  | false => exact (twO_other hi hl).1 h'
/-- an operation, out of the frame in which x's slot is filled already -/
theorem wpOp_back (hQ : ∀ e a w, Q e a w → e = .normal) {j : Nat} {x y : Oper} (hj : ops[j]? = some y) (hap : x.apart ops y = true) (hsy : selB y.op = false) {K : Act → World → Prop} {v : Value} {a : Act} {w : World}
    (h : wpOp P ops Q j K (a.put x.dst v) w) : wpOp P ops Q j (fun a1 w1 => (∃ u, a1.tmps = (a.put y.dst u).tmps) ∧ K (a1.put x.dst v) w1) a w := by
  have hsel : ∀ cs b, y.op ≠ .select cs b := fun cs b e => by simp [e, selB] at hsy
  obtain ⟨h1, h2, h3⟩ := Oper.apart_spec hap
  unfold wpOp at *
  simp only [hj] at *
  rw [wanted_put y a x.dst v h1] at h
  split
  · rename_i hw
    simp only [hw, if_true] at h
    rcases h with h | ⟨_, h⟩
    · refine .inl ?_
      unfold Oper.wp at *
      rw [execOp_put y hsel a x.dst v h1] at h
      generalize (execOp a.eval y).run P w = r at *
      cases r with
      | ok n w' =>
        cases n <;> simp only [Oper.upon] at h ⊢
        case value u => exact ⟨⟨u, rfl⟩, by rw [← Act.put_comm a v u h2]; exact h⟩
        case skip => exact ⟨⟨undef, rfl⟩, by rw [← Act.put_comm a v undef h2]; exact h⟩
        case defer d =>
          refine ⟨⟨undef, by cases y.dst <;> rfl⟩, ?_⟩
          rw [← Act.put_comm _ v undef h2, ← Act.put_defers]
          exact h
        case enter f args =>
          refine Calls.mono h fun e w'' he => ?_
          cases e with
          | returned u => exact ⟨⟨u, rfl⟩, by rw [← Act.put_comm a v u h2]; exact he⟩
          | panicked c => cases hQ _ _ _ he
          | outgrown => exact he
        case row row args => exact Rows.mono h fun u w'' he => ⟨⟨u, rfl⟩, by rw [← Act.put_comm a v u h2]; exact he⟩
      | halt x w' =>
        cases x <;> simp only [Oper.upon] at h ⊢
        case panic u => cases hQ _ _ _ h
    · exact absurd h (out_false hQ)
  · rename_i hw
    simp only [hw] at h
    exact ⟨⟨undef, rfl⟩, by rw [← Act.put_comm a v undef h2]; exact h⟩

theorem tws_end (hQ : ∀ e a w, Q e a w → e = .normal) {t : Nat} : ∀ (l : List Nat) (a : Act) (w : World), (∀ k ∈ l, ∃ o, ops[k]? = some o ∧ o.dst ≠ some t) →
    tws P ops Q S l a w → ∃ a' w', Q .normal a' w' ∧ a'.tmps.getD t undef = a.tmps.getD t undef
  | [], a, w, _, h => ⟨a, w, h, rfl⟩
  | k :: l, a, w, hk, h => by
    obtain ⟨o, ho, hd⟩ := hk k (.head _)
    have h' : twO P ops Q S k (tws P ops Q S l) a w := h
    have keep : ∀ v, (a.put o.dst v).tmps.getD t undef = a.tmps.getD t undef := by
      intro v
      cases hd' : o.dst with
      | none => rfl
      | some d =>
        have hne : d ≠ t := fun e => hd (by rw [hd', e])
        simp [Act.put, Array.getElem?_setIfInBounds_ne hne]
    cases hl : loadB o.op with
    | true =>
      obtain ⟨v, _, h1⟩ := (twO_load ho hl).1 h'
      obtain ⟨a', w', hq, e⟩ := tws_end hQ l _ w (fun k' hk' => hk k' (.tail _ hk')) h1
      exact ⟨a', w', hq, e.trans (keep v)⟩
    | false =>
      obtain ⟨v, a1, w1, ht, _, h1⟩ := wpOp_exists hQ ho ((twO_other ho hl).1 h')
      obtain ⟨a', w', hq, e⟩ := tws_end hQ l a1 w1 (fun k' hk' => hk k' (.tail _ hk')) h1
      exact ⟨a', w', hq, e.trans (by rw [ht]; exact keep v)⟩

theorem wlxS_of (hQ : ∀ e a w, Q e a w → e = .normal) (hg : ∀ a w, Q .normal a w → goodEnd P ops a = true) {i : Nat} {o : Oper} (hi : ops[i]? = some o) (hp : pureB P o.op = true) {l : List Nat} {a : Act} {w : World}
    (hc : Clear ops o l) (h : tws P ops Q S l a w) : ∀ a1 : Act, (∀ t ∈ plainSlots o, a1.tmps.getD t undef = a.tmps.getD t undef) → WLx P (execOp a1.eval o) := by
  intro a1 ha
  refine WLx.pureOp hp (fun t ht => ?_) (fun v => rfl)
  obtain ⟨a', w', hq, e⟩ := tws_end hQ (t := t) l a w (fun k hk => by obtain ⟨o', ho', hd⟩ := hc k hk; exact ⟨o', ho', fun e => hd t e ht⟩) h
  have hgood := hg _ _ hq
  unfold goodEnd at hgood
  have hm : o ∈ ops.toList := by rw [Array.mem_toList_iff]; exact Array.mem_of_getElem? hi
  have := List.all_eq_true.1 hgood o hm
  simp only [hp, Bool.not_true, Bool.false_or, List.all_eq_true] at this
  have h2 := this t ht
  show plainV (a1.tmps.getD t undef) = true
  rw [ha t ht, ← e]; exact h2

theorem swap_S (hQ : ∀ e a w, Q e a w → e = .normal) (hg : ∀ a w, Q .normal a w → goodEnd P ops a = true) (hs : ∀ (j : Nat) (o : Oper), ops[j]? = some o → selB o.op = false)
    {i j : Nat} {x y : Oper} (hi : ops[i]? = some x) (hj : ops[j]? = some y) (hsw : swapS P ops y x = true) {l : List Nat}
    (hcx : pureB P x.op = true → Clear ops x (j :: i :: l)) (hcy : pureB P y.op = true → Clear ops y (j :: i :: l)) {a : Act} {w : World} (hw : S w)
    (h : tws P ops Q S (j :: i :: l) a w) : tws P ops Q S (i :: j :: l) a w := by
  unfold swapS at hsw
  simp only [Bool.and_eq_true, Bool.or_eq_true] at hsw
  obtain ⟨⟨hyx, hxy⟩, hk⟩ := hsw
  obtain ⟨g1, g2, g3⟩ := Oper.apart_spec hyx
  obtain ⟨f1, f2, f3⟩ := Oper.apart_spec hxy
  generalize hKdef : tws P ops Q S l = K at *
  have h0 : twO P ops Q S j (twO P ops Q S i K) a w := by rw [← hKdef]; exact h
  have goal : twO P ops Q S i (twO P ops Q S j K) a w → tws P ops Q S (i :: j :: l) a w := by rw [← hKdef]; exact id
  apply goal
  cases hly : loadB y.op with
  | true =>
    obtain ⟨v, hy, h1⟩ := (twO_load hj hly).1 h0
    cases hlx : loadB x.op with
    | true =>
      obtain ⟨u, hx, h2⟩ := (twO_load hi hlx).1 h1
      refine (twO_load hi hlx).2 ⟨u, (YS.move (sel_of hs hi) hxy rfl).1 hx, (twO_load hj hly).2 ⟨v, (YS.move (sel_of hs hj) hyx rfl).2 hy, ?_⟩⟩
      rw [Act.put_comm a u v f2]; exact h2
    | false =>
      refine (twO_other hi hlx).2 (wpOp_mono (fun a1 w1 hh => ?_) (wpOp_back hQ hi hyx (sel_of hs hi) ((twO_other hi hlx).1 h1)))
      obtain ⟨⟨u, hu⟩, hS1, hK⟩ := hh
      exact ⟨hS1, (twO_load hj hly).2 ⟨v, (YS.move (sel_of hs hj) hyx hu).2 hy, hK⟩⟩
  | false =>
    have h1 := (twO_other hj hly).1 h0
    cases hlx : loadB x.op with
    | true =>
      obtain ⟨u', a1, w1, ht, _, h2⟩ := wpOp_exists hQ hj h1
      obtain ⟨u, hx1, _⟩ := (twO_load hi hlx).1 h2
      have hx : YS P ops S x u a := (YS.move (sel_of hs hi) hxy ht).1 hx1
      refine (twO_load hi hlx).2 ⟨u, hx, (twO_other hj hly).2 ?_⟩
      refine wpOp_frame hQ hj hxy (sel_of hs hj) (fun a2 w2 u2 ht2 hh => ?_) h1
      obtain ⟨hS2, hh2⟩ := hh
      obtain ⟨u3, hx3, hK⟩ := (twO_load hi hlx).1 hh2
      have : u3 = u := YS.uniq hw ((YS.move (sel_of hs hi) hxy ht2).1 hx3) hx
      subst this
      exact ⟨hS2, hK⟩
    | false =>
      have h2 : wpOp P ops Q j (wpOp P ops Q i (fun a' w' => S w' ∧ K a' w')) a w := wpOp_mono (fun a1 w1 hh => (twO_other hi hlx).1 hh.2) h1
      have hy0 : ∀ a1 : Act, (∀ t ∈ plainSlots y, a1.tmps.getD t undef = a.tmps.getD t undef) → pureB P y.op = true → WLx P (execOp a1.eval y) := fun a1 ha hp => wlxS_of hQ hg hj hp (hcy hp) h a1 ha
      have hkeep : ∀ (o : Oper) (d : Option Tmp) (u : Value) (a1 : Act), a1.tmps = (a.put d u).tmps → (∀ e, d = some e → e ∉ plainSlots o) → ∀ t ∈ plainSlots o, a1.tmps.getD t undef = a.tmps.getD t undef := by
        intro o d u a1 ht hd t htp
        rw [ht]
        cases hd' : d with
        | none => rfl
        | some e =>
          have hne : e ≠ t := fun h => hd e hd' (h ▸ htp)
          simp [Act.put, Array.getElem?_setIfInBounds_ne hne]
      have hdst : ∀ (o z : Oper) (k : Nat), ops[k]? = some z → k ∈ j :: i :: l → Clear ops o (j :: i :: l) → ∀ e, z.dst = some e → e ∉ plainSlots o := by
        intro o z k hz hm hc e he
        obtain ⟨o', ho', hd'⟩ := hc k hm
        rw [hz] at ho'; cases ho'
        exact hd' e he
      rcases hk with ((hk | hk) | hk) | hk
      · -- y is pure
        have h3 := swap_pureL hQ hi hj hyx (sel_of hs hi) (sel_of hs hj) (hy0 a (fun _ _ => rfl) hk) h2
        refine (twO_other hi hlx).2 ?_
        -- the world behind x is that behind y
        have h4 : wpOp P ops Q i (fun a1 w1 => (∃ u, a1.tmps = (a.put x.dst u).tmps) ∧ wpOp P ops Q j (fun a' w' => S w' ∧ K a' w') a1 w1) a w := by
          have := wpOp_back (v := undef) (x := { dst := none, op := .move (.const undef), type := 0, pos := "", after := #[], guard := none }) hQ hi (by simp [Oper.apart, Oper.looksAt, Op.operands]; cases x.dst <;> simp) (sel_of hs hi) (K := wpOp P ops Q j (fun a' w' => S w' ∧ K a' w')) (a := a) (w := w) h3
          exact this
        refine wpOp_mono (fun a1 w1 hh => ?_) h4
        obtain ⟨⟨u, hu⟩, h5⟩ := hh
        obtain ⟨v, hyv, hS1, hK1⟩ := wpOp_pure hQ hj (hy0 a1 (hkeep y x.dst u a1 hu (hdst y x i hi (.tail _ (.head _)) (hcy hk))) hk) h5
        exact ⟨hS1, (twO_other hj hly).2 (hyv.wpOp hj ⟨hS1, hK1⟩)⟩
      · -- x is pure
        have hx0 : ∀ (a1 : Act) (u : Value), a1.tmps = (a.put y.dst u).tmps → WLx P (execOp a1.eval x) := fun a1 u ht =>
          wlxS_of hQ hg hi hk (hcx hk) h a1 (hkeep x y.dst u a1 ht (hdst x y j hj (.head _) (hcx hk)))
        have h3 := swap_pureR hQ hi hj hxy (sel_of hs hi) (sel_of hs hj) hx0 h2
        obtain ⟨v, hyx', hh⟩ := wpOp_pure hQ hi (wlxS_of hQ hg hi hk (hcx hk) h a fun _ _ => rfl) h3
        exact (twO_other hi hlx).2 (hyx'.wpOp hi ⟨hw, (twO_other hj hly).2 hh⟩)
      · rw [hly] at hk; cases hk
      · rw [hlx] at hk; cases hk

theorem bubbleS (hQ : ∀ e a w, Q e a w → e = .normal) (hg : ∀ a w, Q .normal a w → goodEnd P ops a = true) (hs : ∀ (j : Nat) (o : Oper), ops[j]? = some o → selB o.op = false)
    {i : Nat} {x : Oper} (hi : ops[i]? = some x) (q : List Nat) : ∀ (p : List Nat),
    (∀ j ∈ p, ∃ y, ops[j]? = some y ∧ swapS P ops y x = true) →
    (pureB P x.op = true → Clear ops x (p ++ i :: q)) →
    (∀ p1 j p2, p = p1 ++ j :: p2 → ∀ y, ops[j]? = some y → pureB P y.op = true → Clear ops y (j :: i :: (p2 ++ q))) →
    ∀ a w, S w → tws P ops Q S (p ++ i :: q) a w → tws P ops Q S (i :: (p ++ q)) a w
  | [], _, _, _, a, w, _, h => h
  | j :: p, hp, hcx, hcy, a, w, hw, h => by
    obtain ⟨y, hj, hsw⟩ := hp j (.head _)
    have h1 : tws P ops Q S (j :: i :: (p ++ q)) a w := by
      have h' : twO P ops Q S j (tws P ops Q S (p ++ i :: q)) a w := h
      exact twO_mono hw (fun a w hS hh => bubbleS hQ hg hs hi q p (fun k hk => hp k (.tail _ hk)) (fun hx k hk => hcx hx k (.tail _ hk)) (fun p1 k p2 e => hcy (j :: p1) k p2 (by rw [e]; rfl)) a w hS hh) h'
    refine swap_S hQ hg hs hi hj hsw (fun hx k hk => ?_) (fun hy => hcy [] j p rfl y hj hy) hw h1
    have : k ∈ (j :: p) ++ i :: q := by simp at hk ⊢; rcases hk with h | h | h | h <;> simp [h]
    exact hcx hx k this

theorem mainS {anc : List (List Nat)} (hchk : chkWithS P ops anc = true) (hQ : ∀ e a w, Q e a w → e = .normal) (hg : ∀ a w, Q .normal a w → goodEnd P ops a = true) :
    ∀ (fuel : Nat) (listed : Array Bool) (a : Act) (w : World), (rest ops listed).length = fuel → Inv ops listed → S w → tws P ops Q S (rest ops listed) a w → wpAny P .any ops Q fuel listed a w := by
  unfold chkWithS at hchk
  rw [Bool.and_eq_true] at hchk
  obtain ⟨hanc, hall⟩ := hchk
  have hall : ∀ j, j < ops.size → ∃ o, ops[j]? = some o ∧ selB o.op = false ∧ (∀ e ∈ o.after, Region.binds .any e = true → e.on < j) ∧
      (∀ i, i < j → (i ∈ anc.getD j []) ∨ ∃ oi, ops[i]? = some oi ∧ swapS P ops oi o = true) ∧
      (pureB P o.op = true → ∀ i, i < ops.size → i ∈ anc.getD j [] ∨ ∃ oi, ops[i]? = some oi ∧ ∀ d, oi.dst = some d → d ∉ plainSlots o) := by
    intro j hj
    have := List.all_eq_true.1 hall j (List.mem_range.2 hj)
    cases ho : ops[j]? with
    | none => simp [ho] at this
    | some o =>
      simp only [ho, Bool.and_eq_true, Bool.not_eq_true'] at this
      obtain ⟨⟨⟨h1, h2⟩, h3⟩, h4⟩ := this
      refine ⟨o, rfl, h1, fun e he hb => ?_, fun i hi => ?_, fun hp i hi => ?_⟩
      · have := Array.all_eq_true_iff_forall_mem.1 h2 e he
        simpa [hb] using this
      · have := List.all_eq_true.1 h3 i (List.mem_range.2 hi)
        rw [Bool.or_eq_true] at this
        rcases this with h | h
        · exact .inl (List.contains_iff_mem.1 h)
        · cases hoi : ops[i]? with
          | none => simp [hoi] at h
          | some oi => simp only [hoi] at h; exact .inr ⟨oi, rfl, h⟩
      · rw [hp] at h4
        simp only [Bool.not_true, Bool.false_or] at h4
        have := List.all_eq_true.1 h4 i (List.mem_range.2 hi)
        rw [Bool.or_eq_true] at this
        rcases this with h | h
        · exact .inl (List.contains_iff_mem.1 h)
        · cases hoi : ops[i]? with
          | none => simp [hoi] at h
          | some oi =>
            simp only [hoi] at h
            refine .inr ⟨oi, rfl, fun d hd => ?_⟩
            simp only [hd, Bool.not_eq_true'] at h
            intro hm
            rw [List.contains_iff_mem.2 hm] at h
            cases h
  have hs : ∀ (j : Nat) (o : Oper), ops[j]? = some o → selB o.op = false := fun j o ho => by
    obtain ⟨o', ho', h1, _⟩ := hall j (Array.getElem?_eq_some_iff.1 ho).1
    rw [ho] at ho'; cases ho'; exact h1
  intro fuel
  induction fuel with
  | zero =>
    intro listed a w hl inv hSw h
    have hnil : rest ops listed = [] := List.eq_nil_of_length_eq_zero hl
    rw [hnil] at h
    refine ⟨?_, h⟩
    refine List.eq_nil_iff_forall_not_mem.2 fun i hi => ?_
    obtain ⟨h0, o, ho, _⟩ := mem_ready.1 hi
    have : i ∈ rest ops listed := mem_rest.2 ⟨(Array.getElem?_eq_some_iff.1 ho).1, h0⟩
    rw [hnil] at this; cases this
  | succ fuel ih =>
    intro listed a w hl inv hSw h
    have hfirst : Region.ready .any ops listed ≠ [] := by
      cases hr : rest ops listed with
      | nil => rw [hr] at hl; cases hl
      | cons i s =>
        have hi : i ∈ rest ops listed := by rw [hr]; exact .head _
        obtain ⟨hlt, h0⟩ := mem_rest.1 hi
        obtain ⟨o, ho, _, he, _⟩ := hall i hlt
        have hmin : ∀ k ∈ rest ops listed, i ≤ k := by
          have hsorted : (rest ops listed).Pairwise (· < ·) := List.Pairwise.filter _ List.pairwise_lt_range
          rw [hr] at hsorted ⊢
          intro k hk
          rcases List.mem_cons.1 hk with rfl | hk
          · exact Nat.le_refl _
          · exact Nat.le_of_lt (List.rel_of_pairwise_cons hsorted hk)
        have : i ∈ Region.ready .any ops listed := mem_ready.2 ⟨h0, o, ho, fun e hm hb => by
          have hlt' := he e hm hb
          cases hd : listed.getD e.on false with
          | true => rfl
          | false =>
            have hin : e.on ∈ rest ops listed := mem_rest.2 ⟨by omega, getD_in (by rw [inv.size]; omega) hd⟩
            have := hmin _ hin
            omega⟩
        exact List.ne_nil_of_mem this
    refine ⟨fun e => absurd e hfirst, fun i hi => ?_⟩
    obtain ⟨h0, x, hx, hpre⟩ := mem_ready.1 hi
    have hlt : i < ops.size := (Array.getElem?_eq_some_iff.1 hx).1
    have hmem : i ∈ rest ops listed := mem_rest.2 ⟨hlt, h0⟩
    obtain ⟨p, q, hpq⟩ := List.append_of_mem hmem
    have hsorted : (rest ops listed).Pairwise (· < ·) := List.Pairwise.filter _ List.pairwise_lt_range
    rw [hpq] at hsorted h
    have hplt : ∀ j ∈ p, j < i := fun j hj => (List.pairwise_append.1 hsorted).2.2 j hj i (.head _)
    have hancl : ∀ k ∈ anc.getD i [], listed.getD k false = true := anc_listed hanc inv i i (Nat.le_refl _) hlt (fun oj hoj e he hb => by rw [hx] at hoj; cases hoj; exact hpre e he hb)
    have hin : ∀ k, k ∈ p ++ i :: q → k < ops.size ∧ listed.getD k true = false := fun k hk => mem_rest.1 (hpq ▸ hk)
    have hno : ∀ k, k ∈ p ++ i :: q → k ∉ anc.getD i [] := fun k hk hk' => by
      have h1 := hancl k hk'
      have h2 := (hin k hk).2
      rw [getD_both h2] at h1; cases h1
    obtain ⟨x', hx', _, _, hpair, hplain⟩ := hall i hlt
    rw [hx] at hx'; cases hx'
    have ancLt : ∀ j, j < ops.size → ∀ k ∈ anc.getD j [], k < j := by
      intro j
      induction j using Nat.strongRecOn with
      | _ j ihj =>
        intro hj k hk
        have h1 := List.all_eq_true.1 (List.all_eq_true.1 hanc j (List.mem_range.2 hj)) k hk
        cases ho : ops[j]? with
        | none => simp [ho] at h1
        | some o =>
          simp only [ho] at h1
          obtain ⟨e, he, h2⟩ := Array.any_eq_true'.1 h1
          simp only [Bool.and_eq_true, Bool.or_eq_true, beq_iff_eq, decide_eq_true_eq, List.contains_iff_mem] at h2
          obtain ⟨⟨_, hlt'⟩, h3⟩ := h2
          rcases h3 with h3 | h3
          · omega
          · have := ihj e.on hlt' (by omega) k h3; omega
    have hbub := bubbleS (S := S) hQ hg hs hx q p
      (fun j hj => by
        rcases hpair j (hplt j hj) with hh | ⟨oi, hoi, hsw⟩
        · exact absurd hh (hno j (List.mem_append_left _ hj))
        · exact ⟨oi, hoi, hsw⟩)
      (fun hp k hk => by
        rcases hplain hp k (hin k hk).1 with hh | hh
        · exact absurd hh (hno k hk)
        · exact hh)
      (fun p1 j p2 e y hy hp k hk => by
        have hjm : j ∈ p ++ i :: q := by rw [e]; simp
        obtain ⟨y', hy', _, _, _, hplain'⟩ := hall j (hin j hjm).1
        rw [hy] at hy'; cases hy'
        have hkm : k ∈ p ++ i :: q := by rw [e]; simp at hk ⊢; rcases hk with h | h | h | h <;> simp [h]
        rcases hplain' hp k (hin k hkm).1 with hh | hh
        · have h1 := ancLt j (hin j hjm).1 k hh
          have h2 : j ≤ k := by
            rcases List.mem_cons.1 hk with rfl | hk
            · exact Nat.le_refl _
            · rcases List.mem_cons.1 hk with rfl | hk
              · exact Nat.le_of_lt (hplt j (by rw [e]; simp))
              · rw [e, List.append_assoc] at hsorted
                have h3 := (List.pairwise_append.1 hsorted).2.1
                rw [List.cons_append] at h3
                refine Nat.le_of_lt (List.rel_of_pairwise_cons h3 ?_)
                rcases List.mem_append.1 hk with hk | hk
                · exact List.mem_append_left _ hk
                · exact List.mem_append_right _ (.tail _ hk)
          omega
        · exact hh) a w hSw h
    refine wpOp_mono (fun a1 w1 hh1 => ?_) (tws_wpOp hx hSw hbub)
    obtain ⟨hS1, h1⟩ := hh1
    have hrest : rest ops (listed.setIfInBounds i true) = p ++ q := by
      have hnd : i ∉ p ∧ i ∉ q := by
        refine ⟨fun hh => ?_, fun hh => ?_⟩
        · exact absurd (hplt i hh) (Nat.lt_irrefl _)
        · have := List.rel_of_pairwise_cons (List.pairwise_append.1 hsorted).2.1 hh
          exact absurd this (Nat.lt_irrefl _)
      have e : rest ops (listed.setIfInBounds i true) = (rest ops listed).filter fun k => k != i := by
        unfold rest
        rw [List.filter_filter]
        refine List.filter_congr fun k hk => ?_
        by_cases hki : k = i
        · subst hki
          have : (listed.setIfInBounds k true).getD k true = true := by
            have : k < listed.size := by rw [inv.size]; exact hlt
            simp [this]
          rw [this]; simp
        · rw [getD_set_ne true (Ne.symm hki)]
          simp [hki]
      rw [e, hpq, List.filter_append, List.filter_cons]
      simp only [bne_self_eq_false, Bool.false_eq_true, if_false]
      rw [List.filter_eq_self.2 fun k hk => by simp; rintro rfl; exact hnd.1 hk, List.filter_eq_self.2 fun k hk => by simp; rintro rfl; exact hnd.2 hk]
    refine ih _ _ _ ?_ ⟨by simp [inv.size], fun j oj hoj hj e he hbe => ?_⟩ hS1 (hrest ▸ h1)
    · rw [hrest]
      rw [hpq] at hl
      simp at hl ⊢
      omega
    · by_cases hji : j = i
      · subst hji; rw [hx] at hoj; cases hoj; exact getD_set_true (hpre e he hbe)
      · rw [getD_set_ne false (Ne.symm hji)] at hj
        exact getD_set_true (inv.closed j oj hoj hj e he hbe)


/-- the walk over the list of operations -/
def twL (P : Program) (ops : Array Oper) (Q : Exit → Act → World → Prop) (S : World → Prop) : List Oper → Act → World → Prop
  | [], a, w => Q .normal a w
  | o :: s, a, w => if loadB o.op then ∃ v, YS P ops S o v a ∧ twL P ops Q S s (a.put o.dst v) w
    else if Region.wanted o (yielded ops a.tmps) then o.wp P a w (fun a' w' => S w' ∧ twL P ops Q S s a' w') Q else S w ∧ twL P ops Q S s (a.put o.dst undef) w
theorem tws_of_twL (hop : ∀ w : World, True) (l : List Oper) : ∀ k, (∀ j, l[j]? = ops[k + j]?) → ∀ a w, twL P ops Q S l a w → tws P ops Q S (List.range' k l.length) a w := by
  induction l with
  | nil => intro k _ a w h; exact h
  | cons o l ih =>
    intro k hk a w h
    have h0 : ops[k]? = some o := by simpa using (hk 0).symm
    have ih' := ih (k + 1) (fun j => by have := hk (j + 1); simpa [Nat.add_assoc, Nat.add_comm 1 j] using this)
    simp only [List.length_cons, List.range'_succ]
    show twO P ops Q S k (tws P ops Q S (List.range' (k + 1) l.length)) a w
    unfold twL at h
    cases hl : loadB o.op with
    | true =>
      rw [if_pos hl] at h
      obtain ⟨v, hy, hh⟩ := h
      exact (twO_load h0 hl).2 ⟨v, hy, ih' _ _ hh⟩
    | false =>
      rw [if_neg (by simp [hl])] at h
      refine (twO_other h0 hl).2 ?_
      unfold wpOp
      simp only [h0]
      split
      · rename_i hw
        rw [if_pos hw] at h
        exact .inl (Oper.wp_mono (fun a w hh => ⟨hh.1, ih' _ _ hh.2⟩) h)
      · rename_i hw
        rw [if_neg hw] at h
        exact ⟨h.1, ih' _ _ h.2⟩

/-- A REGION THAT DRAWS ITS ORDER, LOADS BESIDE CALLS, WALKED IN THE ORDER OF ITS TEXT. -/
theorem wp_region_S (S : World → Prop) {id : Nat} {l : List Oper} {a : Act} {w : World} (hm : P.follows .mixedOrders = true) (hchk : chkS P l.toArray = true) (hS : S w.drew)
    (h : twL P l.toArray (EndQ P l.toArray Q) S l a w.drew) : (Code.region id l.toArray true).wp P Q a w := by
  have key : (Code.region id l.toArray true).wp P (EndQ P l.toArray Q) a w := by
    refine wp_region_any hm ?_
    have hh : tws P l.toArray (EndQ P l.toArray Q) S (List.range l.toArray.size) a w.drew := by
      rw [List.range_eq_range', ← Array.length_toList]
      exact tws_of_twL (fun _ => trivial) l.toArray.toList 0 (by simp) _ _ h
    have hr := rest_all (ops := l.toArray)
    refine mainS hchk (fun e a w hq => by cases e <;> first | rfl | exact hq.elim) (fun a w hq => hq.1) _ _ _ _ (by rw [hr]; simp) ⟨by simp, fun j oj _ hj => ?_⟩ hS (by rw [hr]; exact hh)
    rw [getD_replicate_false] at hj; cases hj
  exact Code.wp_mono (fun e a w hq => by cases e <;> first | exact hq.2 | exact hq.elim) key

/-! ### Steps -/
section
variable {a : Act} {w : World} {s : List Oper}
theorem twL_nil (h : Q .normal a w) : twL P ops Q S [] a w := h
theorem twL_ld {w0 : World} {D : Nat → Prop} {L : List Ent} {b o : Nat} {dst : Option Tmp} {t ty : TypeId} {ad : Operand} {pos : String} {af : Array Edge} {g : Option (Nat × Bool)} (hS : ∀ u, S u → Hp w0 D L u)
    (hw : Region.wanted ⟨dst, .load t ad, ty, pos, af, g⟩ (yielded ops a.tmps) = true) (hx : a.eval ad = .pointer (some ⟨b, o, none⟩))
    (k : ∃ (i : Nat) (x : Ent) (agg : Bool) (n : Nat) (v : Value), L[i]? = some x ∧ x.a = some b ∧ tI P t = some (agg, n) ∧ pick agg n x.xs o = some v ∧ twL P ops Q S s (a.put dst v) w) : twL P ops Q S (⟨dst, .load t ad, ty, pos, af, g⟩ :: s) a w := by
  obtain ⟨i, x, agg, n, v, hi, hb, ht, hv, k⟩ := k
  unfold twL
  rw [if_pos (show loadB (Op.load t ad) = true from rfl)]
  exact ⟨v, .inl ⟨hw, fun u hu => by simp only [execOp, hx, Instr.loadAt, Instr.sureAddr, Sem.run_bind, Sem.run_pure, Result.andThen_ok, (hS u hu).load hi hb ht hv]⟩, k⟩
theorem twL_ldskip {dst : Option Tmp} {t ty : TypeId} {ad : Operand} {pos : String} {af : Array Edge} {g : Option (Nat × Bool)}
    (hw : Region.wanted ⟨dst, .load t ad, ty, pos, af, g⟩ (yielded ops a.tmps) = false) (k : twL P ops Q S s (a.put dst undef) w) : twL P ops Q S (⟨dst, .load t ad, ty, pos, af, g⟩ :: s) a w := by
  unfold twL
  rw [if_pos (show loadB (Op.load t ad) = true from rfl)]
  exact ⟨undef, .inr ⟨hw, rfl⟩, k⟩
/-- any operation but a load -/
theorem twL_op {o : Oper} (hl : loadB o.op = false) (hw : Region.wanted o (yielded ops a.tmps) = true) (h : ∀ K : Act → World → Prop, (∀ a w, S w → twL P ops Q S s a w → K a w) → o.wp P a w K Q) : twL P ops Q S (o :: s) a w := by
  unfold twL
  rw [if_neg (by simp [hl]), if_pos hw]
  exact h _ fun a w h1 h2 => ⟨h1, h2⟩
theorem twL_skip {o : Oper} (hl : loadB o.op = false) (hw : Region.wanted o (yielded ops a.tmps) = false) (hS : S w) (k : twL P ops Q S s (a.put o.dst undef) w) : twL P ops Q S (o :: s) a w := by
  unfold twL
  rw [if_neg (by simp [hl]), if_neg (by simp [hw])]
  exact ⟨hS, k⟩
end

/-! ### A region whose effects stand in no order: each order is walked -/
def NQ (Q : Exit → Act → World → Prop) : Exit → Act → World → Prop
  | .normal, a, w => Q .normal a w
  | _, _, _ => False
theorem wp_region_B (S : World → Prop) {id : Nat} {ops : Array Oper} {a : Act} {w : World} (hm : P.follows .mixedOrders = true)
    (h : wpAnyH P .any ops (NQ Q) S ops.size (Array.replicate ops.size false) a w.drew) : (Code.region id ops true).wp P Q a w :=
  Code.wp_mono (fun e a w hq => by cases e <;> first | exact hq | exact hq.elim) (wp_region_held hm h)
section
variable {fuel : Nat} {listed : Array Bool} {a : Act} {w : World}
/-- an operation that yields in every world of S is taken -/
theorem bTake (i : Nat) {o : Oper} {v : Value} (hi : ops[i]? = some o) (hf : (Region.noSelect ops && Region.free .any ops listed i && (Region.ready .any ops listed).contains i) = true)
    (hS : S w) (hw : Region.wanted o (yielded ops a.tmps) = true) (hv : ∀ u, S u → (execOp a.eval o).run P u = .ok (.value v) u)
    (h : wpAnyH P .any ops (NQ Q) S fuel (listed.setIfInBounds i true) (a.put o.dst v) w) : wpAnyH P .any ops (NQ Q) S (fuel + 1) listed a w := by
  simp only [Bool.and_eq_true] at hf
  exact wpAnyH_take hi hf.1.1 hf.1.2 hf.2 (fun c a w h => h.elim) (.inl ⟨hw, hv⟩) hS h
theorem bTakeSkip (i : Nat) {o : Oper} (hi : ops[i]? = some o) (hf : (Region.noSelect ops && Region.free .any ops listed i && (Region.ready .any ops listed).contains i) = true)
    (hS : S w) (hw : Region.wanted o (yielded ops a.tmps) = false)
    (h : wpAnyH P .any ops (NQ Q) S fuel (listed.setIfInBounds i true) (a.put o.dst undef) w) : wpAnyH P .any ops (NQ Q) S (fuel + 1) listed a w := by
  simp only [Bool.and_eq_true] at hf
  exact wpAnyH_take hi hf.1.1 hf.1.2 hf.2 (fun c a w h => h.elim) (.inr ⟨hw, rfl⟩) hS h
/-- one operation alone may come up -/
theorem bOne (i : Nat) {o : Oper} (hr : Region.ready .any ops listed = [i]) (hi : ops[i]? = some o) (hw : Region.wanted o (yielded ops a.tmps) = true)
    (h : ∀ K : Act → World → Prop, (∀ a w, S w → wpAnyH P .any ops (NQ Q) S fuel (listed.setIfInBounds i true) a w → K a w) → o.wp P a w K (NQ Q)) : wpAnyH P .any ops (NQ Q) S (fuel + 1) listed a w := by
  refine wpAnyH_all hr (by simp) fun j hj => ?_
  obtain rfl : j = i := by simpa using hj
  unfold wpOp
  simp only [hi, hw, if_true]
  exact .inl (h _ fun a w h1 h2 => ⟨h1, h2⟩)
/-- two may come up -/
theorem bTwo (i j : Nat) {o o' : Oper} (hr : Region.ready .any ops listed = [i, j]) (hi : ops[i]? = some o) (hj : ops[j]? = some o') (hw : Region.wanted o (yielded ops a.tmps) = true) (hw' : Region.wanted o' (yielded ops a.tmps) = true)
    (h : ∀ K : Act → World → Prop, (∀ a w, S w → wpAnyH P .any ops (NQ Q) S fuel (listed.setIfInBounds i true) a w → K a w) → o.wp P a w K (NQ Q))
    (h' : ∀ K : Act → World → Prop, (∀ a w, S w → wpAnyH P .any ops (NQ Q) S fuel (listed.setIfInBounds j true) a w → K a w) → o'.wp P a w K (NQ Q)) : wpAnyH P .any ops (NQ Q) S (fuel + 1) listed a w := by
  refine wpAnyH_all hr (by simp) fun k hk => ?_
  have : k = i ∨ k = j := by simpa using hk
  rcases this with rfl | rfl
  · unfold wpOp
    simp only [hi, hw, if_true]
    exact .inl (h _ fun a w h1 h2 => ⟨h1, h2⟩)
  · unfold wpOp
    simp only [hj, hw', if_true]
    exact .inl (h' _ fun a w h1 h2 => ⟨h1, h2⟩)
theorem bDone (hr : Region.ready .any ops listed = []) (h : Q .normal a w) : wpAnyH P .any ops (NQ Q) S fuel listed a w := wpAnyH_done (Q := NQ Q) hr h fuel
end
/-- a piece of code, by what holds behind it -/
theorem wp_post (Post : Act → World → Prop) {c : Code} {a : Act} {w : World} (h : c.wp P (fun e a w => e = .normal ∧ Post a w) a w) (k : ∀ a w, Post a w → Q .normal a w) : c.wp P Q a w :=
  Code.wp_mono (fun e a w hq => by obtain ⟨rfl, hp⟩ := hq; exact k a w hp) h
/-- the same; the frame behind it, but for one new block, is found by the walk -/
theorem wp_postF {F : Nat → Act} (Post : Nat → World → Prop) {c : Code} {a : Act} {w : World} (h : c.wp P (fun e a' w' => e = .normal ∧ ∃ b, a' = F b ∧ Post b w') a w) (k : ∀ b w', Post b w' → Q .normal (F b) w') : c.wp P Q a w :=
  Code.wp_mono (fun e a w hq => by obtain ⟨rfl, b, rfl, hp⟩ := hq; exact k b w hp) h
theorem run_index {t ty : TypeId} {vx vi v : Value} {dst : Option Tmp} {x i : Operand} {pos : String} {af : Array Edge} {g : Option (Nat × Bool)} {a : Act} {w : World} (hx : a.eval x = vx) (hi : a.eval i = vi) (hr : (Instr.index t vx vi).run P w = .ok v w) :
    (execOp a.eval ⟨dst, .index t x i, ty, pos, af, g⟩).run P w = .ok (.value v) w := by simp [execOp, hx, hi, hr]
end
end Go.Gx
