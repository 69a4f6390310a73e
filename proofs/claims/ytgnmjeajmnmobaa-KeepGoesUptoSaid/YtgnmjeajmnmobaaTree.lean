/-
  Trees of keys in order: what put, drop, first, level make of them, as lists; that they stay balanced; how deep they are. Plain Lean: no program in sight.
-/
set_option linter.unusedVariables false
set_option linter.unusedSimpArgs false
set_option linter.unusedSectionVars false
namespace Go.Gx.Kp
class KeyOrd (κ : Type) where
  lt : κ → κ → Bool
  irr : ∀ a, lt a a = false
  tr : ∀ a b c, lt a b = true → lt b c = true → lt a c = true
  tri : ∀ a b, lt a b = false → lt b a = false → a = b
open KeyOrd
theorem lt_asymm {κ : Type} [KeyOrd κ] {a b : κ} (h : lt a b = true) : lt b a = false := by
  cases hb : lt b a with
  | false => rfl
  | true => have := tr a b a h hb; rw [irr] at this; cases this
inductive T (κ ν : Type) where
  | nil : T κ ν
  | node (k : κ) (v : ν) (b a : T κ ν) : T κ ν
variable {κ ν : Type}
def T.size : T κ ν → Nat
  | .nil => 0
  | .node _ _ b a => b.size + a.size + 1
def T.depth : T κ ν → Nat
  | .nil => 0
  | .node _ _ b a => max b.depth a.depth + 1
def T.list : T κ ν → List (κ × ν)
  | .nil => []
  | .node k v b a => b.list ++ (k, v) :: a.list
theorem T.list_length : ∀ t : T κ ν, t.list.length = t.size
  | .nil => rfl
  | .node k v b a => by simp [T.list, T.size, T.list_length b, T.list_length a]; omega
def level (k : κ) (v : ν) (b a : T κ ν) : T κ ν :=
  if a.depth + 1 < b.depth then
    match b with
    | .nil => .node k v b a
    | .node bk bv bb ba =>
      if ba.depth ≤ bb.depth then .node bk bv bb (.node k v ba a)
      else match ba with
        | .nil => .node k v b a
        | .node jk jv jb ja => .node jk jv (.node bk bv bb jb) (.node k v ja a)
  else if b.depth + 1 < a.depth then
    match a with
    | .nil => .node k v b a
    | .node ak av ab aa =>
      if ab.depth ≤ aa.depth then .node ak av (.node k v b ab) aa
      else match ab with
        | .nil => .node k v b a
        | .node jk jv jb ja => .node jk jv (.node k v b jb) (.node ak av ja aa)
  else .node k v b a
theorem level_list (k : κ) (v : ν) (b a : T κ ν) : (level k v b a).list = b.list ++ (k, v) :: a.list := by
  unfold level
  repeat' split
  all_goals simp_all [T.list]
theorem level_size (k : κ) (v : ν) (b a : T κ ν) : (level k v b a).size = b.size + a.size + 1 := by
  rw [← T.list_length, level_list]; simp [T.list_length]; omega
/-- balanced -/
def Bal : T κ ν → Prop
  | .nil => True
  | .node _ _ b a => Bal b ∧ Bal a ∧ b.depth ≤ a.depth + 1 ∧ a.depth ≤ b.depth + 1
theorem level_bal {k : κ} {v : ν} {b a : T κ ν} (hb : Bal b) (ha : Bal a) (h1 : b.depth ≤ a.depth + 2) (h2 : a.depth ≤ b.depth + 2) :
    Bal (level k v b a) ∧ (level k v b a).depth ≤ max b.depth a.depth + 1 ∧ max b.depth a.depth ≤ (level k v b a).depth := by
  unfold level
  repeat' split
  all_goals simp only [Bal, T.depth] at *
  all_goals (try (refine ⟨⟨?_, ?_, ?_, ?_⟩, ?_, ?_⟩))
  all_goals (first | omega | (simp only [Bal, T.depth] at *; omega) | (refine ⟨?_, ?_, ?_, ?_⟩ <;> first | omega | (simp_all; done)) | simp_all)
theorem level_even {k : κ} {v : ν} {b a : T κ ν} (h1 : b.depth ≤ a.depth + 1) (h2 : a.depth ≤ b.depth + 1) : level k v b a = .node k v b a := by
  unfold level
  rw [if_neg (by omega), if_neg (by omega)]
section
variable [KeyOrd κ]
def put : T κ ν → κ → ν → T κ ν
  | .nil, k, v => .node k v .nil .nil
  | .node j u b a, k, v => if lt k j then level j u (put b k v) a else if lt j k then level j u b (put a k v) else .node k v b a
theorem put_bal : ∀ (t : T κ ν) (k : κ) (v : ν), Bal t → Bal (put t k v) ∧ t.depth ≤ (put t k v).depth ∧ (put t k v).depth ≤ t.depth + 1
  | .nil, k, v, _ => by simp [put, Bal, T.depth]
  | .node j u b a, k, v, h => by
    obtain ⟨hb, ha, h1, h2⟩ := h
    have ib := put_bal b k v hb
    have ia := put_bal a k v ha
    unfold put
    split
    · have hl := level_bal (k := j) (v := u) ib.1 ha (by omega) (by omega)
      refine ⟨hl.1, ?_, ?_⟩
      · simp only [T.depth]
        by_cases hc : (put b k v).depth ≤ a.depth + 1
        · rw [level_even hc (by omega)]; simp only [T.depth]; omega
        · omega
      · simp only [T.depth]
        by_cases hc : (put b k v).depth ≤ a.depth + 1
        · rw [level_even hc (by omega)]; simp only [T.depth]; omega
        · omega
    · split
      · have hl := level_bal (k := j) (v := u) hb ia.1 (by omega) (by omega)
        refine ⟨hl.1, ?_, ?_⟩
        · simp only [T.depth]
          by_cases hc : (put a k v).depth ≤ b.depth + 1
          · rw [level_even (by omega) hc]; simp only [T.depth]; omega
          · omega
        · simp only [T.depth]
          by_cases hc : (put a k v).depth ≤ b.depth + 1
          · rw [level_even (by omega) hc]; simp only [T.depth]; omega
          · omega
      · exact ⟨⟨hb, ha, h1, h2⟩, by simp [T.depth], by simp [T.depth]⟩
def firstKV : κ → ν → T κ ν → T κ ν → (κ × ν) × T κ ν
  | k, v, .nil, a => ((k, v), a)
  | k, v, .node bk bv bb ba, a => ((firstKV bk bv bb ba).1, level k v (firstKV bk bv bb ba).2 a)
theorem firstKV_list : ∀ (b : T κ ν) (k : κ) (v : ν) (a : T κ ν), (firstKV k v b a).1 :: (firstKV k v b a).2.list = b.list ++ (k, v) :: a.list
  | .nil, k, v, a => rfl
  | .node bk bv bb ba, k, v, a => by
    have := firstKV_list bb bk bv ba
    simp only [firstKV, level_list, T.list]
    rw [← List.cons_append, this]
theorem firstKV_bal : ∀ (b : T κ ν) (k : κ) (v : ν) (a : T κ ν), Bal (.node k v b a) → Bal (firstKV k v b a).2 ∧ (firstKV k v b a).2.depth ≤ max b.depth a.depth + 1 ∧ max b.depth a.depth ≤ (firstKV k v b a).2.depth
  | .nil, k, v, a, h => by
    obtain ⟨hb, ha, h1, h2⟩ := h
    simp only [firstKV, T.depth] at *
    refine ⟨ha, by omega, by omega⟩
  | .node bk bv bb ba, k, v, a, h => by
    obtain ⟨hb, ha, h1, h2⟩ := h
    obtain ⟨g1, g2, g3⟩ := firstKV_bal bb bk bv ba hb
    simp only [firstKV]
    have hd : (T.node bk bv bb ba).depth = max bb.depth ba.depth + 1 := rfl
    have hl := level_bal (k := k) (v := v) g1 ha (by omega) (by omega)
    refine ⟨hl.1, by omega, ?_⟩
    by_cases hc : a.depth ≤ (firstKV bk bv bb ba).2.depth + 1
    · rw [level_even (by omega) hc]; simp only [T.depth]; omega
    · omega
def drop : T κ ν → κ → T κ ν
  | .nil, _ => .nil
  | .node j u b a, k => if lt k j then level j u (drop b k) a else if lt j k then level j u b (drop a k) else
    match a with
    | .nil => b
    | .node ak av ab aa => level (firstKV ak av ab aa).1.1 (firstKV ak av ab aa).1.2 b (firstKV ak av ab aa).2
theorem drop_bal : ∀ (t : T κ ν) (k : κ), Bal t → Bal (drop t k) ∧ (drop t k).depth ≤ t.depth ∧ t.depth ≤ (drop t k).depth + 1
  | .nil, k, _ => by simp [drop, Bal, T.depth]
  | .node j u b a, k, h => by
    obtain ⟨hb, ha, h1, h2⟩ := h
    have ib := drop_bal b k hb
    have ia := drop_bal a k ha
    unfold drop
    split
    · have hl := level_bal (k := j) (v := u) ib.1 ha (by omega) (by omega)
      refine ⟨hl.1, ?_, ?_⟩
      · simp only [T.depth]; omega
      · simp only [T.depth]
        by_cases hc : a.depth ≤ (drop b k).depth + 1
        · rw [level_even (by omega) hc]; simp only [T.depth]; omega
        · omega
    · split
      · have hl := level_bal (k := j) (v := u) hb ia.1 (by omega) (by omega)
        refine ⟨hl.1, ?_, ?_⟩
        · simp only [T.depth]; omega
        · simp only [T.depth]
          by_cases hc : b.depth ≤ (drop a k).depth + 1
          · rw [level_even hc (by omega)]; simp only [T.depth]; omega
          · omega
      · split
        · simp only [T.depth] at *
          exact ⟨hb, by omega, by omega⟩
        · rename_i ak av ab aa
          obtain ⟨g1, g2, g3⟩ := firstKV_bal ab ak av aa ha
          have hd : (T.node ak av ab aa).depth = max ab.depth aa.depth + 1 := rfl
          have hl := level_bal (k := (firstKV ak av ab aa).1.1) (v := (firstKV ak av ab aa).1.2) hb g1 (by omega) (by omega)
          refine ⟨hl.1, ?_, ?_⟩
          · simp only [T.depth] at *; omega
          · have hd2 : (T.node j u b (.node ak av ab aa)).depth = max b.depth (T.node ak av ab aa).depth + 1 := rfl
            by_cases hc : b.depth ≤ (firstKV ak av ab aa).2.depth + 1
            · rw [level_even hc (by omega)]
              have hd3 : (T.node (firstKV ak av ab aa).1.1 (firstKV ak av ab aa).1.2 b (firstKV ak av ab aa).2).depth = max b.depth (firstKV ak av ab aa).2.depth + 1 := rfl
              omega
            · omega
/-- keys rise -/
def Srt (l : List (κ × ν)) : Prop := l.Pairwise (fun x y => lt x.1 y.1 = true)
def ins : List (κ × ν) → κ → ν → List (κ × ν)
  | [], k, v => [(k, v)]
  | x :: l, k, v => if lt k x.1 then (k, v) :: x :: l else if lt x.1 k then x :: ins l k v else (k, v) :: l
theorem ins_left {j k : κ} {u v : ν} (h : lt k j = true) (l2 : List (κ × ν)) : ∀ l1 : List (κ × ν), ins (l1 ++ (j, u) :: l2) k v = ins l1 k v ++ (j, u) :: l2
  | [] => by simp [ins, h]
  | x :: l1 => by simp only [ins, List.cons_append]; rw [ins_left h l2 l1]; split <;> (try split) <;> simp
theorem ins_right {j k : κ} {u v : ν} (h : lt j k = true) (l2 : List (κ × ν)) : ∀ l1 : List (κ × ν), (∀ x ∈ l1, lt x.1 j = true) → ins (l1 ++ (j, u) :: l2) k v = l1 ++ (j, u) :: ins l2 k v
  | [], _ => by simp [ins, h, lt_asymm h]
  | x :: l1, hx => by
    have h1 : lt x.1 k = true := tr _ _ _ (hx x (by simp)) h
    simp only [ins, List.cons_append]
    rw [ins_right h l2 l1 (fun y hy => hx y (by simp [hy])), if_neg (by rw [lt_asymm h1]; simp), if_pos h1]
theorem ins_mid {k : κ} {u v : ν} (l2 : List (κ × ν)) : ∀ l1 : List (κ × ν), (∀ x ∈ l1, lt x.1 k = true) → ins (l1 ++ (k, u) :: l2) k v = l1 ++ (k, v) :: l2
  | [], _ => by simp [ins, irr]
  | x :: l1, hx => by
    have h1 : lt x.1 k = true := hx x (by simp)
    simp only [ins, List.cons_append]
    rw [ins_mid l2 l1 (fun y hy => hx y (by simp [hy])), if_neg (by rw [lt_asymm h1]; simp), if_pos h1]
theorem srt_node {k : κ} {v : ν} {l1 l2 : List (κ × ν)} (h : Srt (l1 ++ (k, v) :: l2)) : Srt l1 ∧ Srt l2 ∧ (∀ x ∈ l1, lt x.1 k = true) ∧ (∀ x ∈ l2, lt k x.1 = true) ∧ (∀ x ∈ l1, ∀ y ∈ l2, lt x.1 y.1 = true) := by
  unfold Srt at *
  rw [List.pairwise_append, List.pairwise_cons] at h
  refine ⟨h.1, h.2.1.2, fun x hx => h.2.2 x hx (k, v) (by simp), fun x hx => h.2.1.1 x hx, fun x hx y hy => h.2.2 x hx y (by simp [hy])⟩
theorem put_list : ∀ (t : T κ ν) (k : κ) (v : ν), Srt t.list → (put t k v).list = ins t.list k v
  | .nil, k, v, _ => rfl
  | .node j u b a, k, v, h => by
    obtain ⟨hb, ha, h1, h2, _⟩ := srt_node (show Srt (b.list ++ (j, u) :: a.list) from h)
    unfold put
    by_cases c1 : lt k j = true
    · rw [if_pos c1, level_list, put_list b k v hb, T.list, ins_left c1]
    · rw [if_neg c1]
      by_cases c2 : lt j k = true
      · rw [if_pos c2, level_list, put_list a k v ha, T.list, ins_right c2 _ _ h1]
      · rw [if_neg c2]
        have := tri k j (by simpa using c1) (by simpa using c2)
        subst this
        rw [T.list, T.list, ins_mid _ _ h1]
theorem ins_mem {l : List (κ × ν)} {k : κ} {v : ν} : ∀ {x : κ × ν}, x ∈ ins l k v → x = (k, v) ∨ x ∈ l := by
  induction l with
  | nil => intro x hx; simp [ins] at hx; exact .inl hx
  | cons y l ih =>
    intro x hx
    unfold ins at hx
    split at hx
    · simp at hx; rcases hx with h | h | h <;> simp [h]
    · split at hx
      · simp at hx
        rcases hx with h | h
        · simp [h]
        · rcases ih h with h | h <;> simp [h]
      · simp at hx; rcases hx with h | h <;> simp [h]
theorem ins_srt {k : κ} {v : ν} : ∀ {l : List (κ × ν)}, Srt l → Srt (ins l k v)
  | [], _ => by simp [ins, Srt]
  | x :: l, h => by
    unfold Srt at h
    rw [List.pairwise_cons] at h
    unfold ins
    split
    · rename_i c
      unfold Srt
      rw [List.pairwise_cons, List.pairwise_cons]
      exact ⟨fun y hy => by
        rcases List.mem_cons.1 hy with rfl | hy
        · exact c
        · exact tr _ _ _ c (h.1 y hy), h⟩
    · split
      · rename_i c1 c2
        unfold Srt
        rw [List.pairwise_cons]
        refine ⟨fun y hy => ?_, ins_srt (l := l) h.2⟩
        rcases ins_mem hy with rfl | hy
        · exact c2
        · exact h.1 y hy
      · rename_i c1 c2
        have := tri k x.1 (by simpa using c1) (by simpa using c2)
        unfold Srt
        rw [List.pairwise_cons]
        exact ⟨fun y hy => by rw [this]; exact h.1 y hy, h.2⟩
def del (l : List (κ × ν)) (k : κ) : List (κ × ν) := l.filter fun x => lt x.1 k || lt k x.1
theorem del_all {l : List (κ × ν)} {k : κ} (h : ∀ x ∈ l, lt x.1 k = true ∨ lt k x.1 = true) : del l k = l := by
  unfold del
  rw [List.filter_eq_self]
  intro x hx
  rcases h x hx with h | h <;> simp [h]
theorem drop_list : ∀ (t : T κ ν) (k : κ), Srt t.list → (drop t k).list = del t.list k
  | .nil, k, _ => rfl
  | .node j u b a, k, h => by
    obtain ⟨hb, ha, h1, h2, _⟩ := srt_node (show Srt (b.list ++ (j, u) :: a.list) from h)
    have hd : del (T.node j u b a).list k = del b.list k ++ (if lt j k || lt k j then [(j, u)] else []) ++ del a.list k := by
      simp only [T.list, del, List.filter_append, List.filter_cons]
      split <;> simp
    rw [hd]
    unfold drop
    by_cases c1 : lt k j = true
    · rw [if_pos c1, level_list, drop_list b k hb, if_pos (by simp [c1]), del_all (l := a.list) (fun x hx => .inr (tr _ _ _ c1 (h2 x hx)))]
      simp
    · rw [if_neg c1]
      by_cases c2 : lt j k = true
      · rw [if_pos c2, level_list, drop_list a k ha, if_pos (by simp [c2]), del_all (l := b.list) (fun x hx => .inl (tr _ _ _ (h1 x hx) c2))]
        simp
      · rw [if_neg c2]
        have := tri k j (by simpa using c1) (by simpa using c2)
        subst this
        rw [irr, del_all (l := b.list) (fun x hx => .inl (h1 x hx)), del_all (l := a.list) (fun x hx => .inr (h2 x hx))]
        cases a with
        | nil => simp [T.list]
        | node ak av ab aa =>
          simp only []
          rw [level_list]
          have := firstKV_list ab ak av aa
          simp only [T.list, Bool.or_self, Bool.false_eq_true, if_false, List.append_nil]
          rw [← this]
theorem del_srt {k : κ} {l : List (κ × ν)} (h : Srt l) : Srt (del l k) := List.Pairwise.filter _ h
/-! looking -/
def rank (l : List (κ × ν)) (k : κ) : Nat := (l.takeWhile fun x => lt x.1 k).length
def lget (l : List (κ × ν)) (k : κ) : Option ν := match l[rank l k]? with
  | some x => if lt k x.1 then none else some x.2
  | none => none
theorem rank_le (l : List (κ × ν)) (k : κ) : rank l k ≤ l.length := by
  unfold rank
  exact (List.takeWhile_sublist _).length_le
theorem rank_all {l : List (κ × ν)} {k : κ} (h : ∀ x ∈ l, lt x.1 k = true) : ∀ l2, rank (l ++ l2) k = l.length + rank l2 k := by
  intro l2
  unfold rank
  induction l with
  | nil => simp
  | cons x l ih =>
    rw [List.cons_append, List.takeWhile_cons, if_pos (h x (by simp))]
    simp only [List.length_cons, ih (fun y hy => h y (by simp [hy]))]
    omega
theorem rank_stop {l : List (κ × ν)} {k : κ} {x : κ × ν} (hx : lt x.1 k = false) (l2 : List (κ × ν)) : rank (l ++ x :: l2) k = rank l k := by
  unfold rank
  induction l with
  | nil => simp [List.takeWhile_cons, hx]
  | cons y l ih =>
    rw [List.cons_append, List.takeWhile_cons, List.takeWhile_cons]
    split
    · simp [ih]
    · rfl
def trank : T κ ν → κ → Nat
  | .nil, _ => 0
  | .node j u b a, k => if lt j k then b.size + 1 + trank a k else trank b k
theorem trank_eq : ∀ (t : T κ ν) (k : κ), Srt t.list → trank t k = rank t.list k
  | .nil, k, _ => rfl
  | .node j u b a, k, h => by
    obtain ⟨hb, ha, h1, h2, _⟩ := srt_node (show Srt (b.list ++ (j, u) :: a.list) from h)
    unfold trank
    rw [T.list]
    split
    · rename_i c
      rw [rank_all (fun x hx => tr _ _ _ (h1 x hx) c), show ((j, u) :: a.list) = [(j, u)] ++ a.list from rfl, rank_all (by simp [c]), trank_eq a k ha, T.list_length]
      simp only [List.length_cons, List.length_nil]
      omega
    · rename_i c
      rw [rank_stop (by simpa using c), trank_eq b k hb]
def tget : T κ ν → κ → Option ν
  | .nil, _ => none
  | .node j u b a, k => if lt k j then tget b k else if lt j k then tget a k else some u
theorem tget_eq : ∀ (t : T κ ν) (k : κ), Srt t.list → tget t k = lget t.list k
  | .nil, k, _ => by simp [tget, lget, T.list]
  | .node j u b a, k, h => by
    obtain ⟨hb, ha, h1, h2, _⟩ := srt_node (show Srt (b.list ++ (j, u) :: a.list) from h)
    unfold tget
    rw [T.list]
    by_cases c1 : lt k j = true
    · rw [if_pos c1, tget_eq b k hb]
      unfold lget
      rw [rank_stop (by exact lt_asymm c1)]
      by_cases hr : rank b.list k < b.list.length
      · rw [List.getElem?_append_left hr]
      · have := rank_le b.list k
        have e : rank b.list k = b.list.length := by omega
        rw [e, List.getElem?_append_right (Nat.le_refl _)]
        simp [c1]
    · rw [if_neg c1]
      by_cases c2 : lt j k = true
      · rw [if_pos c2, tget_eq a k ha]
        unfold lget
        rw [rank_all (fun x hx => tr _ _ _ (h1 x hx) c2), show ((j, u) :: a.list) = [(j, u)] ++ a.list from rfl, rank_all (l := [(j, u)]) (by simp [c2]),
          List.getElem?_append_right (by omega), List.getElem?_append_right (by simp)]
        simp
      · rw [if_neg c2]
        have := tri k j (by simpa using c1) (by simpa using c2)
        subst this
        unfold lget
        rw [rank_all h1]
        have : rank ((k, u) :: a.list) k = 0 := by simp [rank, List.takeWhile_cons, irr]
        rw [this, List.getElem?_append_right (by simp)]
        simp [irr]
def tat : T κ ν → Nat → Option (κ × ν)
  | .nil, _ => none
  | .node j u b a, i => if i < b.size then tat b i else if b.size < i then tat a (i - b.size - 1) else some (j, u)
theorem tat_eq : ∀ (t : T κ ν) (i : Nat), tat t i = t.list[i]?
  | .nil, i => by simp [tat, T.list]
  | .node j u b a, i => by
    unfold tat
    rw [T.list]
    split
    · rename_i c
      rw [List.getElem?_append_left (by rw [T.list_length]; exact c), tat_eq b]
    · split
      · rename_i c1 c2
        rw [List.getElem?_append_right (by rw [T.list_length]; omega), T.list_length, tat_eq a, show i - b.size = (i - b.size - 1) + 1 by omega, List.getElem?_cons_succ]
        simp
      · rename_i c1 c2
        have : i = b.size := by omega
        subst this
        rw [List.getElem?_append_right (by rw [T.list_length]; omega), T.list_length]
        simp
end
/-! how deep -/
theorem bal_size : ∀ (n : Nat) (t : T κ ν), Bal t → t.depth = n → 2 ^ (n / 2) ≤ t.size + 1
  | 0, t, _, _ => by simp
  | 1, .node k v b a, _, _ => by simp
  | n + 2, .node k v b a, h, hd => by
    obtain ⟨hb, ha, h1, h2⟩ := h
    simp only [T.depth, T.size] at *
    have e : (n + 2) / 2 = n / 2 + 1 := by omega
    rw [e, Nat.pow_succ]
    rcases Nat.le_total b.depth a.depth with hc | hc
    · have ia := bal_size (n + 1) a ha (by omega)
      have i2 : 2 ^ (n / 2) ≤ 2 ^ ((n + 1) / 2) := Nat.pow_le_pow_right (by omega) (by omega)
      have hbn : b.depth = n ∨ b.depth = n + 1 := by omega
      have ib : 2 ^ (n / 2) ≤ b.size + 1 := by
        rcases hbn with e1 | e1
        · exact bal_size n b hb e1
        · have := bal_size (n + 1) b hb e1; omega
      omega
    · have ib := bal_size (n + 1) b hb (by omega)
      have i2 : 2 ^ (n / 2) ≤ 2 ^ ((n + 1) / 2) := Nat.pow_le_pow_right (by omega) (by omega)
      have han : a.depth = n ∨ a.depth = n + 1 := by omega
      have ia : 2 ^ (n / 2) ≤ a.size + 1 := by
        rcases han with e1 | e1
        · exact bal_size n a ha e1
        · have := bal_size (n + 1) a ha e1; omega
      omega
/-- the number of bits -/
def bits (n : Nat) : Nat := if n = 0 then 0 else bits (n / 2) + 1
termination_by n
decreasing_by omega
theorem bits_lt (n : Nat) : n < 2 ^ bits n := by
  induction n using Nat.strongRecOn with
  | _ n ih =>
    unfold bits
    split
    · omega
    · have := ih (n / 2) (by omega)
      rw [Nat.pow_succ]
      omega
theorem bal_depth {t : T κ ν} (h : Bal t) : t.depth ≤ 2 * bits t.size + 2 := by
  have h1 := bal_size t.depth t h rfl
  have h2 := bits_lt t.size
  have h3 : 2 ^ (t.depth / 2) ≤ 2 ^ bits t.size := by omega
  have h4 := (Nat.pow_le_pow_iff_right (by omega : 1 < 2)).1 h3
  omega
end Go.Gx.Kp
