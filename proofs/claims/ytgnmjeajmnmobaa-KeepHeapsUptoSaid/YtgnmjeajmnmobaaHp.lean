/-
  A heap in a list: what pushing and popping make of it. Plain Lean: no program in sight.
-/
set_option linter.unusedVariables false
set_option linter.unusedSimpArgs false
set_option linter.unusedSectionVars false
namespace Go.Gx.Kp
section
variable {β : Type} (le : β → β → Prop)
def sw (f : Nat → β) (i j : Nat) : Nat → β := fun x => if x = i then f j else if x = j then f i else f x
def HeapF (n : Nat) (f : Nat → β) : Prop := ∀ j, 0 < j → j < n → le (f ((j - 1) / 2)) (f j)
def UpI (n : Nat) (f : Nat → β) (i : Nat) : Prop := (∀ j, 0 < j → j < n → j ≠ i → le (f ((j - 1) / 2)) (f j)) ∧ (∀ j, 0 < j → j < n → (j - 1) / 2 = i → 0 < i → le (f ((i - 1) / 2)) (f j))
def DownI (n : Nat) (f : Nat → β) (i : Nat) : Prop := (∀ j, 0 < j → j < n → (j - 1) / 2 ≠ i → le (f ((j - 1) / 2)) (f j)) ∧ (∀ j, 0 < j → j < n → (j - 1) / 2 = i → 0 < i → le (f ((i - 1) / 2)) (f j))
variable {le}
theorem UpI.step {n : Nat} {f : Nat → β} {i : Nat} (tr : ∀ a b c, le a b → le b c → le a c) (h : UpI le n f i) (hi : 0 < i) (hin : i < n) (hle : le (f i) (f ((i - 1) / 2))) : UpI le n (sw f i ((i - 1) / 2)) ((i - 1) / 2) := by
  obtain ⟨h1, h2⟩ := h
  obtain ⟨p, hp⟩ : ∃ p, (i - 1) / 2 = p := ⟨_, rfl⟩
  rw [hp] at h2 hle ⊢
  have hpi : p < i := by omega
  refine ⟨fun j hj hjn hne => ?_, fun j hj hjn hjp hp0 => ?_⟩
  · by_cases e1 : j = i
    · subst e1
      have a1 : sw f j p ((j - 1) / 2) = f j := by rw [hp]; simp [sw, show ¬ p = j by omega]
      have a2 : sw f j p j = f p := by simp [sw]
      rw [a1, a2]; exact hle
    · have a2 : sw f i p j = f j := by simp [sw, e1, hne]
      rw [a2]
      by_cases e2 : (j - 1) / 2 = i
      · have a1 : sw f i p ((j - 1) / 2) = f p := by rw [e2]; simp [sw]
        rw [a1]; exact h2 j hj hjn e2 hi
      · by_cases e3 : (j - 1) / 2 = p
        · have a1 : sw f i p ((j - 1) / 2) = f i := by rw [e3]; simp [sw, show ¬ p = i by omega]
          rw [a1]
          have := h1 j hj hjn e1
          rw [e3] at this
          exact tr _ _ _ hle this
        · have a1 : sw f i p ((j - 1) / 2) = f ((j - 1) / 2) := by simp [sw, e2, e3]
          rw [a1]; exact h1 j hj hjn e1
  · have a1 : sw f i p ((p - 1) / 2) = f ((p - 1) / 2) := by simp [sw, show ¬ (p - 1) / 2 = i by omega, show ¬ (p - 1) / 2 = p by omega]
    rw [a1]
    have hpp := h1 p hp0 (by omega) (by omega)
    by_cases e1 : j = i
    · subst e1
      have a2 : sw f j p j = f p := by simp [sw]
      rw [a2]; exact hpp
    · have a2 : sw f i p j = f j := by simp [sw, e1, show ¬ j = p by omega]
      rw [a2]
      have := h1 j hj hjn e1
      rw [hjp] at this
      exact tr _ _ _ hpp this
theorem UpI.stop {n : Nat} {f : Nat → β} {i : Nat} (h : UpI le n f i) (hd : 0 < i → le (f ((i - 1) / 2)) (f i)) : HeapF le n f := fun j hj hjn => by
  by_cases e : j = i
  · subst e; exact hd hj
  · exact h.1 j hj hjn e
theorem UpI.start {n : Nat} {f : Nat → β} (h : HeapF le n f) : UpI le (n + 1) f n :=
  ⟨fun j hj hjn hne => h j hj (by omega), fun j hj hjn hjp hp => by omega⟩
theorem DownI.step {n : Nat} {f : Nat → β} {i k : Nat} (tr : ∀ a b c, le a b → le b c → le a c) (h : DownI le n f i) (hk0 : 0 < k) (hkn : k < n) (hk : (k - 1) / 2 = i) (hmin : ∀ j, 0 < j → j < n → (j - 1) / 2 = i → le (f k) (f j)) (hle : le (f k) (f i)) :
    DownI le n (sw f i k) k := by
  obtain ⟨h1, h2⟩ := h
  have hik : i < k := by omega
  refine ⟨fun j hj hjn hne => ?_, fun j hj hjn hjp _ => ?_⟩
  · by_cases e1 : (j - 1) / 2 = i
    · have a1 : sw f i k ((j - 1) / 2) = f k := by rw [e1]; simp [sw]
      rw [a1]
      by_cases e2 : j = k
      · have a2 : sw f i k j = f i := by simp [sw, e2, show ¬ k = i by omega]
        rw [a2]; exact hle
      · have a2 : sw f i k j = f j := by simp [sw, e2, show ¬ j = i by omega]
        rw [a2]; exact hmin j hj hjn e1
    · have a1 : sw f i k ((j - 1) / 2) = f ((j - 1) / 2) := by simp [sw, e1, hne]
      rw [a1]
      by_cases e2 : j = i
      · have a2 : sw f i k j = f k := by simp [sw, e2]
        rw [a2, e2]; exact h2 k hk0 hkn hk (by omega)
      · by_cases e3 : j = k
        · rw [e3] at e1; exact absurd hk e1
        · have a2 : sw f i k j = f j := by simp [sw, e2, e3]
          rw [a2]; exact h1 j hj hjn e1
  · have a1 : sw f i k ((k - 1) / 2) = f k := by rw [hk]; simp [sw]
    have a2 : sw f i k j = f j := by simp [sw, show ¬ j = i by omega, show ¬ j = k by omega]
    rw [a1, a2]
    have := h1 j hj hjn (by omega)
    rwa [hjp] at this
theorem DownI.stop {n : Nat} {f : Nat → β} {i : Nat} (h : DownI le n f i) (hd : ∀ j, 0 < j → j < n → (j - 1) / 2 = i → le (f i) (f j)) : HeapF le n f := fun j hj hjn => by
  by_cases e : (j - 1) / 2 = i
  · rw [e]; exact hd j hj hjn e
  · exact h.1 j hj hjn e
theorem HeapF.root {n : Nat} {f : Nat → β} (rf : ∀ a, le a a) (tr : ∀ a b c, le a b → le b c → le a c) (h : HeapF le n f) : ∀ j, j < n → le (f 0) (f j) := by
  intro j
  induction j using Nat.strongRecOn with
  | _ j ih =>
    intro hj
    by_cases e : j = 0
    · rw [e]; exact rf _
    · exact tr _ _ _ (ih ((j - 1) / 2) (by omega) (by omega)) (h j (by omega) hj)
end
/-! the same of lists -/
section
variable {β : Type} (d : β) (ah : β → β → Bool)
def fl (l : List β) : Nat → β := fun i => l[i]?.getD d
def swapL (l : List β) (i j : Nat) : List β := (l.set i (fl d l j)).set j (fl d l i)
def up (l : List β) (i : Nat) : List β :=
  if 0 < i ∧ ah (fl d l i) (fl d l ((i - 1) / 2)) = true then up (swapL d l i ((i - 1) / 2)) ((i - 1) / 2) else l
termination_by i
decreasing_by omega
def small (n : Nat) (l : List β) (i : Nat) : Nat := if 2 * i + 1 + 1 < n ∧ ah (fl d l (2 * i + 1 + 1)) (fl d l (2 * i + 1)) = true then 2 * i + 1 + 1 else 2 * i + 1
theorem small_gt (n : Nat) (l : List β) (i : Nat) : i < small d ah n l i := by unfold small; split <;> omega
def down (n : Nat) (l : List β) (i : Nat) : List β :=
  if 2 * i + 1 < n ∧ ah (fl d l (small d ah n l i)) (fl d l i) = true then down n (swapL d l i (small d ah n l i)) (small d ah n l i) else l
termination_by n - i
decreasing_by have := small_gt d ah n l i; omega
variable {d ah}
theorem fl_get {l : List β} {i : Nat} {x : β} (h : l[i]? = some x) : fl d l i = x := by simp [fl, h]
theorem swap_len (l : List β) (i j : Nat) : (swapL d l i j).length = l.length := by simp [swapL]
theorem fl_swap {l : List β} {i j : Nat} (hi : i < l.length) (hj : j < l.length) (hij : i ≠ j) : fl d (swapL d l i j) = sw (fl d l) i j := by
  funext x
  unfold swapL sw
  generalize hu : fl d l j = u
  generalize hv : fl d l i = v
  unfold fl
  rw [List.getElem?_set, List.getElem?_set]
  by_cases h1 : x = i
  · subst h1
    rw [if_neg (by omega), if_pos rfl, if_pos (by simpa using hi), if_pos rfl]
    rfl
  · by_cases h2 : x = j
    · subst h2
      rw [if_pos rfl, if_pos (by simpa using hj), if_neg h1, if_pos rfl]
      rfl
    · rw [if_neg (by omega), if_neg (by omega), if_neg h1, if_neg h2]
theorem swap_perm {l : List β} {i j : Nat} (hi : i < l.length) (hj : j < l.length) : (swapL d l i j).Perm l := by
  unfold swapL
  rw [fl_get (List.getElem?_eq_getElem hi), fl_get (List.getElem?_eq_getElem hj)]
  exact List.set_set_perm hi hj
theorem up_perm (l : List β) (i : Nat) (hi : i < l.length) : (up d ah l i).Perm l := by
  induction i using Nat.strongRecOn generalizing l with
  | _ i ih =>
    unfold up
    split
    · exact (ih ((i - 1) / 2) (by omega) _ (by rw [swap_len]; omega)).trans (swap_perm hi (by omega))
    · exact List.Perm.refl _
theorem small_le {n : Nat} {l : List β} {i : Nat} (h : 2 * i + 1 < n) : small d ah n l i < n ∧ (small d ah n l i - 1) / 2 = i := by unfold small; split <;> omega
theorem down_perm (n : Nat) (l : List β) (hn : n ≤ l.length) (i : Nat) : (down d ah n l i).Perm l := by
  induction h : n - i using Nat.strongRecOn generalizing l i with
  | _ m ih =>
    unfold down
    split
    · rename_i hc
      have h1 := small_le (d := d) (ah := ah) (l := l) hc.1
      have h2 := small_gt d ah n l i
      exact (ih (n - small d ah n l i) (by omega) _ (by rw [swap_len]; exact hn) _ rfl).trans (swap_perm (by omega) (by omega))
    · exact List.Perm.refl _
theorem down_keep (n : Nat) (l : List β) (hn : n ≤ l.length) (i : Nat) : ∀ j, n ≤ j → (down d ah n l i)[j]? = l[j]? := by
  induction h : n - i using Nat.strongRecOn generalizing l i with
  | _ m ih =>
    intro j hj
    unfold down
    split
    · rename_i hc
      have h1 := small_le (d := d) (ah := ah) (l := l) hc.1
      have h2 := small_gt d ah n l i
      rw [ih (n - small d ah n l i) (by omega) _ (by rw [swap_len]; exact hn) _ rfl j hj]
      unfold swapL
      rw [List.getElem?_set_ne (by omega), List.getElem?_set_ne (by omega)]
    · rfl
variable {le : β → β → Prop}
theorem up_heap (hle : ∀ a b, le a b ↔ ah b a = false) (tr : ∀ a b c, le a b → le b c → le a c) (tot : ∀ a b, ah a b = true → le a b) (l : List β) (i : Nat) (hi : i < l.length) (h : UpI le l.length (fl d l) i) : HeapF le l.length (fl d (up d ah l i)) := by
  induction i using Nat.strongRecOn generalizing l with
  | _ i ih =>
    unfold up
    split
    · rename_i hc
      have := ih ((i - 1) / 2) (by omega) (swapL d l i ((i - 1) / 2)) (by rw [swap_len]; omega) (by
        rw [swap_len, fl_swap hi (by omega) (by omega)]
        exact h.step tr hc.1 hi (tot _ _ hc.2))
      rwa [swap_len] at this
    · rename_i hc
      refine h.stop fun h0 => (hle _ _).2 ?_
      cases hb : ah (fl d l i) (fl d l ((i - 1) / 2)) with
      | false => rfl
      | true => exact absurd ⟨h0, hb⟩ hc
theorem down_heap (hle : ∀ a b, le a b ↔ ah b a = false) (tr : ∀ a b c, le a b → le b c → le a c) (tot : ∀ a b, ah a b = true → le a b) (rf : ∀ a, le a a) (n : Nat) (l : List β) (hn : n ≤ l.length) (i : Nat) (h : DownI le n (fl d l) i) :
    HeapF le n (fl d (down d ah n l i)) := by
  induction hm : n - i using Nat.strongRecOn generalizing l i with
  | _ m ih =>
    have hmin : 2 * i + 1 < n → ∀ j, 0 < j → j < n → (j - 1) / 2 = i → le (fl d l (small d ah n l i)) (fl d l j) := by
      intro h0 j hj hjn hji
      have hj2 : j = 2 * i + 1 ∨ j = 2 * i + 1 + 1 := by omega
      unfold small
      split
      · rename_i hc
        rcases hj2 with rfl | rfl
        · exact tot _ _ hc.2
        · exact rf _
      · rename_i hc
        rcases hj2 with rfl | rfl
        · exact rf _
        · refine (hle _ _).2 ?_
          cases hb : ah (fl d l (2 * i + 1 + 1)) (fl d l (2 * i + 1)) with
          | false => rfl
          | true => exact absurd ⟨hjn, hb⟩ hc
    unfold down
    split
    · rename_i hc
      have h1 := small_le (d := d) (ah := ah) (l := l) hc.1
      have h2 := small_gt d ah n l i
      exact ih (n - small d ah n l i) (by omega) _ (by rw [swap_len]; exact hn) _ (by
        rw [fl_swap (by omega) (by omega) (by omega)]
        exact h.step tr (by omega) h1.1 h1.2 (hmin hc.1) (tot _ _ hc.2)) rfl
    · rename_i hc
      refine h.stop fun j hj hjn hji => ?_
      have h0 : 2 * i + 1 < n := by omega
      refine tr _ _ _ ?_ (hmin h0 j hj hjn hji)
      refine (hle _ _).2 ?_
      cases hb : ah (fl d l (small d ah n l i)) (fl d l i) with
      | false => rfl
      | true => exact absurd ⟨h0, hb⟩ hc
/-- push -/
def hpush (d : β) (ah : β → β → Bool) (l : List β) (x : β) : List β := up d ah (l ++ [x]) l.length
theorem hpush_perm (l : List β) (x : β) : (hpush d ah l x).Perm (l ++ [x]) := up_perm _ _ (by simp)
theorem hpush_heap (hle : ∀ a b, le a b ↔ ah b a = false) (tr : ∀ a b c, le a b → le b c → le a c) (tot : ∀ a b, ah a b = true → le a b) {l : List β} (x : β) (h : HeapF le l.length (fl d l)) : HeapF le (hpush d ah l x).length (fl d (hpush d ah l x)) := by
  have h1 : (hpush d ah l x).length = (l ++ [x]).length := (hpush_perm l x).length_eq
  rw [h1]
  refine up_heap hle tr tot _ _ (by simp) ?_
  have h2 : HeapF le l.length (fl d (l ++ [x])) := fun j hj hjn => by
    have := h j hj hjn
    unfold fl at *
    rw [List.getElem?_append_left (by omega), List.getElem?_append_left hjn]; exact this
  simpa using UpI.start h2
/-- what is left behind a pop: the last to the front, down -/
def hpop (d : β) (ah : β → β → Bool) (l : List β) (z : β) : List β := down d ah (l.length - 1) ((l.set 0 (fl d l (l.length - 1))).set (l.length - 1) z) 0
def hrest (d : β) (ah : β → β → Bool) (l : List β) (z : β) : List β := (hpop d ah l z).take (l.length - 1)
theorem hrest_perm {l : List β} (hl : 0 < l.length) (z : β) : (fl d l 0 :: hrest d ah l z).Perm l := by
  obtain ⟨m, hm⟩ : ∃ m, l.length = m + 1 := ⟨l.length - 1, by omega⟩
  have e : l.length - 1 = m := by omega
  unfold hrest hpop
  rw [e]
  generalize hX : (l.set 0 (fl d l m)).set m z = X
  have hXl : X.length = m + 1 := by rw [← hX]; simp [hm]
  have h1 : (down d ah m X 0).Perm X := down_perm _ _ (by omega) 0
  have h2 : (down d ah m X 0).length = m + 1 := by rw [h1.length_eq, hXl]
  have hz : X[m]? = some z := by rw [← hX, List.getElem?_set_self (by simp [hm])]
  have h3 : (down d ah m X 0)[m]? = some z := by rw [down_keep _ _ (by omega) _ _ (Nat.le_refl _), hz]
  have split : ∀ (Y : List β), Y.length = m + 1 → Y[m]? = some z → Y = Y.take m ++ [z] := by
    intro Y hY hz
    have : Y = Y.take (m + 1) := (List.take_of_length_le (by omega)).symm
    rw [List.take_add_one, hz] at this
    exact this
  have h4 := split _ h2 h3
  have h5 := split _ hXl hz
  have h6 : ((down d ah m X 0).take m).Perm (X.take m) := by
    have : ((down d ah m X 0).take m ++ [z]).Perm (X.take m ++ [z]) := by rw [← h4, ← h5]; exact h1
    exact (List.perm_append_right_iff [z]).1 this
  have h7 : X.take m = (l.set 0 (fl d l m)).take m := by rw [← hX, List.take_set_of_le (Nat.le_refl _)]
  refine (List.Perm.cons _ (h6.trans (by rw [h7]))).trans ?_
  cases m with
  | zero =>
    match l, hm with
    | [x], _ => simp [fl]
  | succ m =>
    match l, hm with
    | x :: l, hm =>
      have hm : l.length = m + 1 := by simpa using hm
      have hy : fl d (x :: l) (m + 1) = l[m] := by simp [fl, List.getElem?_eq_getElem (show m < l.length by omega)]
      have hx : fl d (x :: l) 0 = x := rfl
      rw [hy, hx]
      simp only [List.set_cons_zero, List.take_succ_cons]
      refine List.Perm.cons _ ?_
      have : l = l.take m ++ [l[m]] := by
        have h : l = l.take (m + 1) := (List.take_of_length_le (by omega)).symm
        rw [List.take_add_one, List.getElem?_eq_getElem (show m < l.length by omega)] at h
        exact h
      refine (List.perm_append_comm (l₁ := [l[m]]) (l₂ := l.take m)).trans ?_
      rw [← this]
theorem hrest_heap (hle : ∀ a b, le a b ↔ ah b a = false) (tr : ∀ a b c, le a b → le b c → le a c) (tot : ∀ a b, ah a b = true → le a b) (rf : ∀ a, le a a) {l : List β} (z : β) (hl : 0 < l.length) (h : HeapF le l.length (fl d l)) :
    HeapF le (hrest d ah l z).length (fl d (hrest d ah l z)) := by
  obtain ⟨m, hm⟩ : ∃ m, l.length = m + 1 := ⟨l.length - 1, by omega⟩
  have e : l.length - 1 = m := by omega
  unfold hrest hpop
  rw [e]
  generalize hX : (l.set 0 (fl d l m)).set m z = X
  have hXl : X.length = m + 1 := by rw [← hX]; simp [hm]
  have hX0 : ∀ j, 0 < j → j < m → fl d X j = fl d l j := fun j h0 hj => by
    unfold fl; rw [← hX, List.getElem?_set_ne (by omega), List.getElem?_set_ne (by omega)]
  have hd : DownI le m (fl d X) 0 := by
    refine ⟨fun j hj hjm hne => ?_, fun j _ _ _ h0 => by omega⟩
    rw [hX0 j hj hjm, hX0 _ (by omega) (by omega)]
    exact h j hj (by omega)
  have h1 := down_heap hle tr tot rf m X (by omega) 0 hd
  have h2 : (down d ah m X 0).length = m + 1 := by rw [(down_perm m X (by omega) 0).length_eq, hXl]
  intro j hj hjn
  have hjm : j < m := by rw [List.length_take] at hjn; omega
  have := h1 j hj hjm
  unfold fl at *
  rw [List.getElem?_take_of_lt hjm, List.getElem?_take_of_lt (by omega)]
  exact this
theorem hroot {l : List β} (rf : ∀ a, le a a) (tr : ∀ a b c, le a b → le b c → le a c) (h : HeapF le l.length (fl d l)) : ∀ x ∈ l, le (fl d l 0) x := by
  intro x hx
  obtain ⟨j, hj⟩ := List.getElem?_of_mem hx
  have := h.root rf tr j (List.getElem?_eq_some_iff.1 hj).1
  rwa [fl_get hj] at this
end
end Go.Gx.Kp
