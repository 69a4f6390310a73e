/-
  append of cells that are read wherever they stand: out of an entry, or out of memory that came in. Generic: no program in sight.
-/
import Derived.Test.YtebecelhcpljaaaGxOld
set_option linter.unusedVariables false
set_option linter.unusedSimpArgs false
namespace Go.Gx
section
variable {P : Program} {w0 w : World} {D : Nat → Prop} {L : List Ent} {ops : Array Oper} {Q : Exit → Act → World → Prop} {a : Act} {rest : List Oper}
/-- append: the row is entry i, what is appended stands in entry k. -/
theorem Hp.appendC (H : Hp w0 D L w) {i : Nat} {x : Ent} {src : Option Addr} {news : List Value} {e : TypeId} {z : Value} {sz bytes n cap m c : Nat} {t ty : TypeId} (ht : sI P t = some (e, z, sz, bytes)) (hsz : 0 < sz)
    (hi : L[i]? = some x) (hxe : x.e = e ∨ x.a = none) (hxl : x.xs.length = n * sz) (hxN : x.N = cap * sz) (hy0 : src = none → m = 0) (hnl : news.length = m * sz) (h1 : news.all (·.oneCell') = true) (hnews : ∀ a, src = some a → ∀ (j : Nat) (u : Value), news[j]? = some u → w.cell? (a.add j) = some u)
    (b1 : n + m ≤ maxLen) (b2 : (n + m) * bytes ≤ 140737488355328) :
    ∃ a' cap' w', (Builtin.append_ #[t, t] ty #[.slice (adr x.a 0) n cap, .slice (src) m c]).run P w = .ok (.slice (adr a' 0) (n + m) cap') w' ∧
      Hp w0 D (L.set i ⟨a', x.xs ++ news, e, cap' * sz⟩) w' ∧ (a' = none → n + m = 0) := by
  obtain ⟨hu, inf, hinf, hz, rfl, rfl, hzs⟩ := sI_spec ht
  have hsmall : n + m ≤ 9223372036854775807 := by simp only [maxLen] at b1; omega
  have hxle := H.le hi
  have hncap : n ≤ cap := by rw [hxl, hxN] at hxle; exact Nat.le_of_mul_le_mul_right hxle hsz
  have hone : ∀ u ∈ news, u.oneCell' = true := fun u hu => List.all_eq_true.1 h1 u hu
  have grow : ∀ (old : Nat), old < n + m → ∀ olds : List Value, olds = x.xs → Hp w0 D (L.set i ⟨some w.heap.size, x.xs ++ news, e, grownCap w (n + m) old e * inf.size⟩)
      (w.drew.alloc (.cells (olds.toArray ++ news.toArray ++ Builtin.zeroCells z.cells (grownCap w (n + m) old e - (n + m))) e)) := by
    intro old _ olds ho
    subst ho
    have hge := grownCap_ge w (n + m) old e
    have := H.drew.realloc hi (x.xs.toArray ++ news.toArray ++ Builtin.zeroCells z.cells (grownCap w (n + m) old e - (n + m))) e (x.xs ++ news) (by
      simp only [Array.toList_append]
      rw [List.take_append_of_le_length (by simp)]
      exact List.take_of_length_le (by simp))
    have hs : (x.xs.toArray ++ news.toArray ++ Builtin.zeroCells z.cells (grownCap w (n + m) old e - (n + m))).size = grownCap w (n + m) old e * inf.size := by
      simp only [Array.size_append, List.size_toArray, size_zeroCells, hzs, hxl, hnl, ← Nat.add_mul]
      congr 1
      omega
    rw [hs] at this
    exact this
  rcases hy : src with _ | sa
  · -- nothing to append
    have hm := hy0 hy
    subst hm
    refine ⟨x.a, cap, w, ?_, ?_, fun h => ?_⟩
    · rcases hxa : x.a with _ | b
      · simp [Builtin.append_, run_underlying hu, sizeOf, typeInfo, hinf, Builtin.lenOf, hncap, Builtin.firstCells]
      · simp [Builtin.append_, run_underlying hu, sizeOf, typeInfo, hinf, Builtin.lenOf, hncap, Builtin.firstCells, storeCells]
    · have e1 : news = [] := List.eq_nil_of_length_eq_zero (by omega)
      rw [e1, List.append_nil, ← hxN]
      rcases hxe with hxe | hxe
      · have : L.set i ⟨x.a, x.xs, e, x.N⟩ = L := by
          subst hxe
          exact set_self hi
        rw [this]; exact H
      · refine H.upd hi rfl rfl rfl (Nat.le_refl _) (fun _ _ _ => rfl) ?_ (.inl rfl)
        have := H.ents i x hi
        unfold Ent.at at *
        rw [hxe] at *
        exact this
    · have := H.ents i x hi
      unfold Ent.at at this
      rw [h] at this
      simp only [this.1, List.length_nil] at hxl
      have : n = 0 := by rcases Nat.mul_eq_zero.1 hxl.symm with h | h <;> omega
      omega
  · have hnews := hnews sa hy
    rcases hxa : x.a with _ | b
    · have hx0 := H.ents i x hi
      unfold Ent.at at hx0
      rw [hxa] at hx0
      have hn0 : n = 0 := by
        have h := hxl
        rw [hx0.1] at h
        rcases Nat.mul_eq_zero.1 h.symm with h | h <;> omega
      have hc0 : cap = 0 := by
        have h := hxN
        rw [hx0.2] at h
        rcases Nat.mul_eq_zero.1 h.symm with h | h <;> omega
      subst hn0; subst hc0
      by_cases hm : m = 0
      · subst hm
        refine ⟨none, 0, w, ?_, ?_, fun _ => rfl⟩
        · simp [Builtin.append_, run_underlying hu, sizeOf, typeInfo, hinf, Builtin.lenOf, Builtin.firstCells, loadCells, loadCellsFrom]
        · refine H.upd hi rfl rfl rfl (Nat.le_refl _) (fun _ _ _ => rfl) ?_ (.inl hxa.symm)
          have hn9 : news = [] := List.eq_nil_of_length_eq_zero (by omega)
          simp [Ent.at, hx0.1, hn9]
      · have hr := run_append_nil (P := P) w t ty e inf z hu hinf hz sa m c _ hnl hnews (by omega) (by omega) (by rw [Nat.zero_add] at b2; omega)
        have hg := grow 0 (by omega) [] hx0.1.symm
        refine ⟨some w.heap.size, grownCap w m 0 e, w.drew.alloc (.cells (news.toArray ++ Builtin.zeroCells z.cells (grownCap w m 0 e - m)) e), ?_, ?_, fun h => by cases h⟩
        · rw [Nat.zero_add]; exact hr
        · rw [Nat.zero_add] at hg
          simpa using hg
    · have hxe' : x.e = e := by rcases hxe with h | h; exact h; rw [hxa] at h; cases h
      obtain ⟨cur, hc, hcs, hcp⟩ := Ent.at_some (H.ents i x hi) hxa
      by_cases hroom : n + m ≤ cap
      · have hfit : n * inf.size + news.length ≤ cur.size := by rw [hnl, hcs, hxN, ← Nat.add_mul]; exact Nat.mul_le_mul_right _ hroom
        rw [hxe'] at hc
        have hr := run_append_room (P := P) w t ty e inf hu hinf b n cap cur hc sa m c _ hnl hnews hone hroom hfit
        refine ⟨some b, cap, _, hr, ?_, fun h => by cases h⟩
        have := H.setRow hi hxa (cur.toList.take (n * inf.size) ++ news ++ cur.toList.drop (n * inf.size + news.length)).toArray (x.xs ++ news) (by
            have hh : n * inf.size ≤ cur.size := by omega
            simp only [List.size_toArray, List.length_append, List.length_take, List.length_drop, Array.length_toList] at *
            omega) (by
            rw [← hxl, hcp]
            exact List.take_left' (by simp))
        rw [hxe', hxN] at this
        exact this
      · have hr := run_append_grow (P := P) w t ty e inf z hu hinf hz ⟨b, 0, none⟩ n cap x.xs hxl (fun j v hj => by rw [add_plain]; exact H.cell hi hxa (by simpa using hj)) sa m c _ hnl hnews (by omega) (by omega) (growslice_fits (by omega) b2)
        exact ⟨some w.heap.size, _, _, hr, grow cap (by omega) x.xs rfl, fun h => by cases h⟩

theorem wl_appendC (i : Nat) {x : Ent} {src : Option Addr} {news : List Value} {e : TypeId} {z : Value} {sz bytes n cap m c : Nat} {dst : Option Tmp} {s v : Operand} {t ty : TypeId} {pos : String} {af : Array Edge} {g : Option (Nat × Bool)}
    (hw : Region.wanted ⟨dst, .call { callee := .builtin .append, args := #[s, v], argTypes := #[t, t] }, ty, pos, af, g⟩ (yielded ops a.tmps) = true)
    (H : Hp w0 D L w) (hi : L[i]? = some x) (hs : a.eval s = .slice (adr x.a 0) n cap) (hv : a.eval v = .slice (src) m c) (ht : sI P t = some (e, z, sz, bytes)) (hsz : 0 < sz)
    (hxe : x.e = e ∨ x.a = none) (hxl : x.xs.length = n * sz) (hxN : x.N = cap * sz) (hy0 : src = none → m = 0) (hnl : news.length = m * sz) (h1 : news.all (·.oneCell') = true) (hnews : ∀ a, src = some a → ∀ (j : Nat) (u : Value), news[j]? = some u → w.cell? (a.add j) = some u)
    (b1 : n + m ≤ maxLen) (b2 : (n + m) * bytes ≤ 140737488355328)
    (kk : ∀ a' cap' w', Hp w0 D (L.set i ⟨a', x.xs ++ news, e, cap' * sz⟩) w' → (a' = none → n + m = 0) → wpList P ops Q rest (a.put dst (.slice (adr a' 0) (n + m) cap')) w') :
    wpList P ops Q (⟨dst, .call { callee := .builtin .append, args := #[s, v], argTypes := #[t, t] }, ty, pos, af, g⟩ :: rest) a w := by
  obtain ⟨a', cap', w', hr, H', h0⟩ := H.appendC (ty := ty) (c := c) ht hsz hi hxe hxl hxN hy0 hnl h1 hnews b1 b2
  refine wl_run hw ?_ (kk a' cap' w' H' h0)
  simp only [execOp, resolve, invoke, builtin, Sem.run_bind, Sem.run_pure, Result.andThen_ok, List.map_toArray, List.map_cons, List.map_nil, hs, hv, hr]


/-- the cells of a slice that came in, all of them -/
theorem Old.news {b o : Nat} {vs : List Value} (H : Hp w0 D L w) (hO : Old w0 D b o vs) : ∀ (a : Addr), (some ⟨b, o, none⟩ : Option Addr) = some a → ∀ (j : Nat) (u : Value), vs[j]? = some u → w.cell? (a.add j) = some u := by
  intro a ha j u hj
  cases ha
  rw [add_plain]
  exact H.old hO j u hj
end
end Go.Gx
