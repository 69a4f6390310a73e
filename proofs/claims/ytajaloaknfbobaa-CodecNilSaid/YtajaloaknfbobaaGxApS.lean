/-
  append of a string's bytes to a row of the call's own. Generic: no program in sight.
-/
import Derived.Test.YtajaloaknfbobaaGxAp
import Derived.Deep.AppendSrc
set_option linter.unusedVariables false
set_option linter.unusedSimpArgs false
namespace Go.Gx
section
variable {P : Program} {w0 w : World} {D : Nat → Prop} {L : List Ent} {ops : Array Oper} {Q : Exit → Act → World → Prop} {a : Act} {rest : List Oper}
theorem run_append_room_S (t tx ty e : TypeId) (i : TypeInfo) (ht : P.underlying t = some (.slice e)) (hi : P.info? e = some i)
    (g sLen sCap : Nat) (cur : Array Value) (hg : w.heap[g]? = some (.cells cur e (0, 0))) (x : Value) (m : Nat) (news : List Value) (hs : Src P i.size tx x m news w)
    (hroom : sLen + m ≤ sCap) (hfit : sLen * i.size + news.length ≤ cur.size) :
    (Builtin.append_ #[t, tx] ty #[.slice (some ⟨g, 0, none⟩) sLen sCap, x]).run P w =
      .ok (.slice (some ⟨g, 0, none⟩) (sLen + m) sCap) (w.setRow g (cur.toList.take (sLen * i.size) ++ news ++ cur.toList.drop (sLen * i.size + news.length)).toArray) := by
  have hst := run_storeCells_at P g (sLen * i.size) e news 0 cur w hg (by simpa using hfit) hs.one
  simp only [Nat.add_zero] at hst
  rcases hs.kind with ⟨e', hk⟩ | hk <;> simp [Builtin.append_, run_underlying ht, run_underlying hk, sizeOf, typeInfo, hi, hs.len, hroom, hs.cells, Addr.add_lit, hst]
theorem Hp.appendS (H : Hp w0 D L w) {i b : Nat} {x : Ent} {xv : Value} {news : List Value} {e : TypeId} {z : Value} {sz bytes n cap m : Nat} {t tx ty : TypeId} (ht : sI P t = some (e, z, sz, bytes)) (hsz : 0 < sz)
    (hi : L[i]? = some x) (hxa : x.a = some b) (hxe : x.e = e) (hxl : x.xs.length = n * sz) (hxN : x.N = cap * sz) (hs : Src P sz tx xv m news w)
    (b1 : n + m ≤ maxLen) (b2 : (n + m) * bytes ≤ 140737488355328) :
    ∃ a' cap' w', (Builtin.append_ #[t, tx] ty #[.slice (some ⟨b, 0, none⟩) n cap, xv]).run P w = .ok (.slice (some ⟨a', 0, none⟩) (n + m) cap') w' ∧
      Hp w0 D (L.set i ⟨some a', x.xs ++ news, e, cap' * sz⟩) w' := by
  obtain ⟨hu, inf, hinf, hz, rfl, rfl, hzs⟩ := sI_spec ht
  have hsmall : n + m ≤ 9223372036854775807 := by simp only [maxLen] at b1; omega
  have hxle := H.le hi
  have hncap : n ≤ cap := by rw [hxl, hxN] at hxle; exact Nat.le_of_mul_le_mul_right hxle hsz
  have hnl := hs.newsLen
  subst hxe
  obtain ⟨cur, hc, hcs, hcp⟩ := Ent.at_some (H.ents i x hi) hxa
  by_cases hroom : n + m ≤ cap
  · have hfit : n * inf.size + news.length ≤ cur.size := by rw [hnl, hcs, hxN, ← Nat.add_mul]; exact Nat.mul_le_mul_right _ hroom
    have hr := run_append_room_S (P := P) (w := w) t tx ty x.e inf hu hinf b n cap cur hc xv m news hs hroom hfit
    refine ⟨b, cap, _, hr, ?_⟩
    have := H.setRow hi hxa (cur.toList.take (n * inf.size) ++ news ++ cur.toList.drop (n * inf.size + news.length)).toArray (x.xs ++ news) (by
        have hh : n * inf.size ≤ cur.size := by omega
        simp only [List.size_toArray, List.length_append, List.length_take, List.length_drop, Array.length_toList] at *
        omega) (by
        rw [← hxl, hcp]
        exact List.take_left' (by simp))
    rw [hxN] at this
    exact this
  · have hold := run_firstCells_some (P := P) w.drew inf.size n ⟨b, 0, none⟩ n cap x.xs hxl (fun j v hj => by rw [add_plain]; exact H.drew.cell hi hxa (by simpa using hj))
    have hr := run_append_grow_src (P := P) w t tx ty x.e inf z hu hinf hz (some ⟨b, 0, none⟩) n cap x.xs (by simpa using hold) xv m news hs (by omega) (by omega) (growslice_fits (by omega) b2)
    refine ⟨w.heap.size, _, _, hr, ?_⟩
    have hge := grownCap_ge w (n + m) cap x.e
    have := H.drew.realloc hi ((x.xs ++ news).toArray ++ Builtin.zeroCells z.cells (grownCap w (n + m) cap x.e - (n + m))) x.e (x.xs ++ news) (by
      simp only [Array.toList_append]
      rw [List.take_append_of_le_length (by simp)]
      exact List.take_of_length_le (by simp))
    have hs2 : ((x.xs ++ news).toArray ++ Builtin.zeroCells z.cells (grownCap w (n + m) cap x.e - (n + m))).size = grownCap w (n + m) cap x.e * inf.size := by
      simp only [Array.size_append, List.size_toArray, List.length_append, size_zeroCells, hzs, hxl, hnl, ← Nat.add_mul]
      congr 1
      omega
    rw [hs2] at this
    exact this
theorem wl_appendS (i : Nat) {b : Nat} {x : Ent} {t' : ByteArray} {e : TypeId} {z : Value} {bytes n cap : Nat} {dst : Option Tmp} {s v : Operand} {t tx ty : TypeId} {pos : String} {af : Array Edge} {g : Option (Nat × Bool)}
    (hw : Region.wanted ⟨dst, .call { callee := .builtin .append, args := #[s, v], argTypes := #[t, tx] }, ty, pos, af, g⟩ (yielded ops a.tmps) = true)
    (H : Hp w0 D L w) (hi : L[i]? = some x) (hxa : x.a = some b) (hs : a.eval s = .slice (some ⟨b, 0, none⟩) n cap) (hv : a.eval v = .string t') (ht : sI P t = some (e, z, 1, bytes)) (hk : P.underlying tx = some .string)
    (hxe : x.e = e) (hxl : x.xs.length = n * 1) (hxN : x.N = cap * 1)
    (b1 : n + t'.size ≤ maxLen) (b2 : (n + t'.size) * bytes ≤ 140737488355328)
    (kk : ∀ a' cap' w', Hp w0 D (L.set i ⟨some a', x.xs ++ byteCells t', e, cap' * 1⟩) w' → wpList P ops Q rest (a.put dst (.slice (some ⟨a', 0, none⟩) (n + t'.size) cap')) w') :
    wpList P ops Q (⟨dst, .call { callee := .builtin .append, args := #[s, v], argTypes := #[t, tx] }, ty, pos, af, g⟩ :: rest) a w := by
  obtain ⟨a', cap', w', hr, H'⟩ := H.appendS (ty := ty) ht (by decide) hi hxa hxe hxl hxN (Src.ofString w hk t') b1 b2
  refine wl_run hw ?_ (kk a' cap' w' H')
  simp only [execOp, resolve, invoke, builtin, Sem.run_bind, Sem.run_pure, Result.andThen_ok, List.map_toArray, List.map_cons, List.map_nil, hs, hv, hr]
/-- append of cells that are read wherever they stand, to a row that is there -/
theorem wl_appendR (i : Nat) {b : Nat} {x : Ent} {src : Option Addr} {news : List Value} {e : TypeId} {z : Value} {sz bytes n cap m c : Nat} {dst : Option Tmp} {s v : Operand} {t ty : TypeId} {pos : String} {af : Array Edge} {g : Option (Nat × Bool)}
    (hw : Region.wanted ⟨dst, .call { callee := .builtin .append, args := #[s, v], argTypes := #[t, t] }, ty, pos, af, g⟩ (yielded ops a.tmps) = true)
    (H : Hp w0 D L w) (hi : L[i]? = some x) (hxa : x.a = some b) (hs : a.eval s = .slice (some ⟨b, 0, none⟩) n cap) (hv : a.eval v = .slice src m c) (ht : sI P t = some (e, z, sz, bytes)) (hsz : 0 < sz)
    (hxe : x.e = e) (hxl : x.xs.length = n * sz) (hxN : x.N = cap * sz) (hy0 : src = none → news = []) (hnl : news.length = m * sz) (h1 : news.all (·.oneCell') = true) (hnews : ∀ a, src = some a → ∀ (j : Nat) (u : Value), news[j]? = some u → w.cell? (a.add j) = some u)
    (b1 : n + m ≤ maxLen) (b2 : (n + m) * bytes ≤ 140737488355328)
    (kk : ∀ a' cap' w', Hp w0 D (L.set i ⟨some a', x.xs ++ news, e, cap' * sz⟩) w' → wpList P ops Q rest (a.put dst (.slice (some ⟨a', 0, none⟩) (n + m) cap')) w') :
    wpList P ops Q (⟨dst, .call { callee := .builtin .append, args := #[s, v], argTypes := #[t, t] }, ty, pos, af, g⟩ :: rest) a w := by
  obtain ⟨hu, inf, hinf, hz, rfl, rfl, hzs⟩ := sI_spec ht
  have hone : ∀ u ∈ news, u.oneCell' = true := fun u hu => List.all_eq_true.1 h1 u hu
  have hS : Src P inf.size t (.slice src m c) m news w := by
    cases hsr : src with
    | none =>
      have h0 := hy0 hsr
      subst h0
      have hm : m = 0 := by
        rcases Nat.mul_eq_zero.1 hnl.symm with h | h
        · exact h
        · omega
      subst hm
      exact Src.ofNil w hu c
    | some A => exact Src.ofSlice w hu A m c news hnl (hnews A hsr) hone
  obtain ⟨a', cap', w', hr, H'⟩ := H.appendS (ty := ty) ht hsz hi hxa hxe hxl hxN hS b1 b2
  refine wl_run hw ?_ (kk a' cap' w' H')
  simp only [execOp, resolve, invoke, builtin, Sem.run_bind, Sem.run_pure, Result.andThen_ok, List.map_toArray, List.map_cons, List.map_nil, hs, hv, hr]
end
end Go.Gx
