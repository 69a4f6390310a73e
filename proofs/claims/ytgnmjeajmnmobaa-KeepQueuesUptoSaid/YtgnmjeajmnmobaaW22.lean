/- What functions of layer 4 compute. -/
import Derived.Test.YtgnmjeajmnmobaaW21
import Derived.Test.YtgnmjeajmnmobaaGxSub
import Derived.Test.YtgnmjeajmnmobaaGxOpr
import Derived.WalkKit
import Derived.Lib.Hide
import Derived.Deep.LoopGhost
import Derived.WalkSpells
set_option linter.unusedVariables false
set_option linter.unusedSimpArgs false
namespace Go.Proofs.Ytgnmjeajmnmobaa
open Go.RowKit Go.Gx Go.Gx.Kp
set_option maxRecDepth 100000
abbrev QT := Option Nat × Option Nat × Nat
abbrev SV := Option Addr × Nat × Nat
theorem S38 : sI Try.prog 38 = some (44, .agg (List.toArray [.pointer none, .pointer none, .int .i64 0]), 3, 24) := by kernel_rfl
theorem S39 : sI Try.prog 39 = some (47, .slice none 0 0, 1, 24) := by kernel_rfl
def cellsQ : List QT → List Value
  | [] => []
  | x :: l => ptr x.1 :: ptr x.2.1 :: .int .i64 (x.2.2 : Int) :: cellsQ l
theorem cellsQ_len : ∀ l : List QT, (cellsQ l).length = l.length * 3
  | [] => rfl
  | x :: l => by simp only [cellsQ, List.length_cons, cellsQ_len l]; omega
theorem cellsQ_drop : ∀ {l : List QT} {j : Nat} {x : QT}, l[j]? = some x → ((cellsQ l).drop (j * 3)).take 3 = [ptr x.1, ptr x.2.1, .int .i64 (x.2.2 : Int)]
  | y :: l, 0, x, h => by simp at h; subst h; simp [cellsQ]
  | y :: l, j + 1, x, h => by
    have ih := cellsQ_drop (l := l) (j := j) (x := x) (by simpa using h)
    have e : (j + 1) * 3 = j * 3 + 1 + 1 + 1 := by omega
    rw [e]
    simp only [cellsQ, List.drop_succ_cons]
    exact ih
theorem cellsQ_pick {l : List QT} {j : Nat} {x : QT} (h : l[j]? = some x) : pick true 3 (cellsQ l) (j * 3) = some (qV x.1 x.2.1 x.2.2) := by
  have h1 := (List.getElem?_eq_some_iff.1 h).1
  simp only [pick, if_true, cellsQ_len]
  rw [if_pos (by omega), cellsQ_drop h]
theorem cellsQ_set : ∀ {l : List QT} {j : Nat} (x : QT), j < l.length → lay (cellsQ l) (j * 3) [ptr x.1, ptr x.2.1, .int .i64 (x.2.2 : Int)] = cellsQ (l.set j x)
  | [], j, x, h => by simp at h
  | y :: l, 0, x, h => by simp [cellsQ, lay]
  | y :: l, j + 1, x, h => by
    have ih := cellsQ_set (l := l) (j := j) x (by simpa using h)
    have e : (j + 1) * 3 = j * 3 + 1 + 1 + 1 := by omega
    rw [e]
    unfold lay at *
    simp only [cellsQ, List.set_cons_succ, List.take_succ_cons, List.cons_append]
    rw [← ih]
    simp only [List.length_cons, List.length_nil, Nat.zero_add, Nat.reduceAdd]
    rw [show j * 3 + 1 + 1 + 1 + 3 = (j * 3 + 3) + 1 + 1 + 1 by omega]
    simp only [List.drop_succ_cons]
theorem cellsQ_rep : ∀ n : Nat, (List.replicate n [Value.pointer none, .pointer none, .int .i64 0]).flatten = cellsQ (List.replicate n (none, none, 0))
  | 0 => rfl
  | n + 1 => by
    rw [List.replicate_succ, List.flatten_cons, cellsQ_rep n, List.replicate_succ]
    rfl
def svs (l : List SV) : List Value := l.map fun s => .slice s.1 s.2.1 s.2.2
theorem svs_len (l : List SV) : (svs l).length = l.length := by simp [svs]
theorem svs_get {l : List SV} {j : Nat} {x : SV} (h : l[j]? = some x) : (svs l)[j]? = some (.slice x.1 x.2.1 x.2.2) := by simp [svs, h]
theorem svs_set (l : List SV) (j : Nat) (x : Option Addr) (n c : Nat) : (svs l).set j (.slice x n c) = svs (l.set j (x, n, c)) := by simp [svs, List.map_set]
theorem svs_rep (n : Nat) : List.replicate n (Value.slice none 0 0) = svs (List.replicate n (none, 0, 0)) := by simp [svs]
theorem made3 (z0 z1 z2 : Value) : ∀ n : Nat, (madeCells #[z0, z1, z2] (n * 3)).toList = (List.replicate n [z0, z1, z2]).flatten
  | 0 => by simp [madeCells]
  | n + 1 => by
    have ih := made3 z0 z1 z2 n
    have h0 : n * 3 % 3 = 0 := by omega
    have h1 : (n * 3 + 1) % 3 = 1 := by omega
    have h2 : (n * 3 + 2) % 3 = 2 := by omega
    unfold madeCells at *
    rw [Array.toList_map, Array.toList_range] at *
    rw [Nat.succ_mul, List.range_add, List.map_append, ih, List.replicate_succ', List.flatten_append]
    congr 1
    simp [List.range_succ, h0, h1, h2]
section
variable {P : Program} {w0 w : World} {D : Nat → Prop} {L : List Ent} {ops : Array Oper} {Q : Exit → Act → World → Prop} {a : Act} {rest : List Oper} {K : Act → World → Prop}
theorem wl_make3 {t e ty : TypeId} {z0 z1 z2 : Value} {m n : Nat} {kl kc : IntKind} {dst : Option Tmp} {l c : Operand} {pos : String} {af : Array Edge} {g : Option (Nat × Bool)}
    (hw : Region.wanted ⟨dst, .makeSlice t l c, ty, pos, af, g⟩ (yielded ops a.tmps) = true) (hl : a.eval l = .int kl (n : Int)) (hc : a.eval c = .int kc (n : Int)) (H : Hp w0 D L w)
    (ht : sI P t = some (e, .agg (List.toArray [z0, z1, z2]), 3, m)) (hb : m * n ≤ 281474976710656) (h63 : n ≤ 9223372036854775807)
    (k : ∀ b w', Hp w0 D (⟨some b, (List.replicate n [z0, z1, z2]).flatten, e, n * 3⟩ :: L) w' → wpList P ops Q rest (a.put dst (.slice (some ⟨b, 0, none⟩) n n)) w') : wpList P ops Q (⟨dst, .makeSlice t l c, ty, pos, af, g⟩ :: rest) a w := by
  obtain ⟨hu, i, hi, hz, hs, rfl, _⟩ := sI_spec ht
  have hb' : (i.bytes : Int) * (n : Int) ≤ 281474976710656 := by
    have h : ((i.bytes * n : Nat) : Int) ≤ 281474976710656 := by omega
    rwa [Int.natCast_mul] at h
  have hr := run_make (P := P) w t e i _ hu hi hz kl kc n n (by omega) (Int.le_refl _) hb' (by omega)
  simp only [Int.toNat_natCast, hs] at hr
  have hcz : (Value.agg (List.toArray [z0, z1, z2])).cells = #[z0, z1, z2] := rfl
  rw [hcz] at hr
  have hH := H.alloc (madeCells #[z0, z1, z2] (n * 3)) e (List.replicate n [z0, z1, z2]).flatten (by rw [← made3]; exact List.take_of_length_le (Nat.le_refl _))
  rw [size_madeCells] at hH
  exact wl_run hw (by simp only [execOp, hl, hc, hr, Sem.run_bind, Sem.run_pure, Result.andThen_ok]) (k _ _ hH)
theorem wl_stQ (i j : Nat) {b o n N : Nat} {e : TypeId} {pf pb : Option Nat} {qs : List QT} {dst : Option Tmp} {t ty : TypeId} {ad va : Operand} {pos : String} {af : Array Edge} {g : Option (Nat × Bool)}
    (hw : Region.wanted ⟨dst, .store t ad va, ty, pos, af, g⟩ (yielded ops a.tmps) = true) (hx : a.eval ad = .pointer (some ⟨b, o, none⟩)) (hy : a.eval va = qV pf pb n) (H : Hp w0 D L w) (hi : L[i]? = some ⟨some b, cellsQ qs, e, N⟩) (ho : o = j * 3) (hj : j < qs.length) (ht : tI P t = some (true, 3))
    (k : ∀ w', Hp w0 D (L.set i ⟨some b, cellsQ (qs.set j (pf, pb, n)), e, N⟩) w' → wpList P ops Q rest (a.put dst undef) w') : wpList P ops Q (⟨dst, .store t ad va, ty, pos, af, g⟩ :: rest) a w := by
  subst ho
  refine wl_store i hw hx hy H hi rfl ht rfl rfl (by dsimp only; rw [cellsQ_len]; omega) fun w' H' => k w' ?_
  rwa [show lay (cellsQ qs) (j * 3) (qV pf pb n).cells.toList = cellsQ (qs.set j (pf, pb, n)) from cellsQ_set (pf, pb, n) hj] at H'
theorem wl_stS (i j : Nat) {b o n c N : Nat} {e : TypeId} {x : Option Addr} {ss : List SV} {dst : Option Tmp} {t ty : TypeId} {ad va : Operand} {pos : String} {af : Array Edge} {g : Option (Nat × Bool)}
    (hw : Region.wanted ⟨dst, .store t ad va, ty, pos, af, g⟩ (yielded ops a.tmps) = true) (hx : a.eval ad = .pointer (some ⟨b, o, none⟩)) (hy : a.eval va = .slice x n c) (H : Hp w0 D L w) (hi : L[i]? = some ⟨some b, svs ss, e, N⟩) (ho : o = j) (hj : j < ss.length) (ht : tI P t = some (false, 1))
    (k : ∀ w', Hp w0 D (L.set i ⟨some b, svs (ss.set j (x, n, c)), e, N⟩) w' → wpList P ops Q rest (a.put dst undef) w') : wpList P ops Q (⟨dst, .store t ad va, ty, pos, af, g⟩ :: rest) a w := by
  subst ho
  refine wl_store i hw hx hy H hi rfl ht rfl rfl (by dsimp only; rw [svs_len]; show o + 1 ≤ _; omega) fun w' H' => k w' ?_
  rwa [show lay (svs ss) o (Value.slice x n c).cells.toList = svs (ss.set o (x, n, c)) from by rw [← svs_set]; exact lay_one _ _ _ (by rw [svs_len]; exact hj)] at H'
theorem oStS (i j : Nat) {b o n c N : Nat} {e : TypeId} {x : Option Addr} {ss : List SV} {dst : Option Tmp} {t ty : TypeId} {ad va : Operand} {pos : String} {af : Array Edge} {g : Option (Nat × Bool)}
    (hx : a.eval ad = .pointer (some ⟨b, o, none⟩)) (hy : a.eval va = .slice x n c) (H : Hp w0 D L w) (hi : L[i]? = some ⟨some b, svs ss, e, N⟩) (ho : o = j) (hj : j < ss.length) (ht : tI P t = some (false, 1))
    (k : ∀ w', Hp w0 D (L.set i ⟨some b, svs (ss.set j (x, n, c)), e, N⟩) w' → K (a.put dst undef) w') : Oper.wp P ⟨dst, .store t ad va, ty, pos, af, g⟩ a w K Q := by
  subst ho
  refine oSt H hx ⟨_, hy, i, _, false, 1, _, hi, rfl, ht, rfl, rfl, by dsimp only; rw [svs_len]; omega, rfl, fun w' H' => k w' ?_⟩
  rwa [show lay (svs ss) o (Value.slice x n c).cells.toList = svs (ss.set o (x, n, c)) from by rw [← svs_set]; exact lay_one _ _ _ (by rw [svs_len]; exact hj)] at H'
end
/-- the first i + 1 queues and lists agree, the others are empty -/
def QI (w0 : World) (D : Nat → Prop) (Z : List Ent) (n i : Nat) (qs : List QT) (ss : List SV) (ls : List (List Int)) : Prop :=
  qs.length = n + 1 ∧ ss.length = n + 1 ∧ ls.length = n + 1 ∧ ∀ (j : Nat) q s t, qs[j]? = some q → ss[j]? = some s → ls[j]? = some t →
    Qu w0 D Z t (qV q.1 q.2.1 q.2.2) ∧ q.2.2 = t.length ∧ Rd w0 D Z s.1 (ints t) ∧ s.2.1 = t.length ∧ s.2.1 ≤ s.2.2 ∧ t.length ≤ i ∧ (i < j → t = [])
theorem QI.start {w0 : World} {D : Nat → Prop} {Z : List Ent} (n : Nat) : QI w0 D Z n 0 (List.replicate (n + 1) (none, none, 0)) (List.replicate (n + 1) (none, 0, 0)) (List.replicate (n + 1) []) := by
  refine ⟨by simp, by simp, by simp, fun j q s t h1 h2 h3 => ?_⟩
  have e1 := List.eq_of_mem_replicate (List.mem_of_getElem? h1)
  have e2 := List.eq_of_mem_replicate (List.mem_of_getElem? h2)
  have e3 := List.eq_of_mem_replicate (List.mem_of_getElem? h3)
  subst e1; subst e2; subst e3
  exact ⟨Qu.nil, rfl, .inl rfl, rfl, Nat.le_refl _, Nat.le_refl _, fun _ => rfl⟩
theorem QI.step {w0 : World} {D : Nat → Prop} {Z Z' : List Ent} {n i : Nat} {qs : List QT} {ss : List SV} {ls : List (List Int)} (h : QI w0 D Z n i qs ss ls) (x : Xt Z Z') (hi : i < n) {q : QT} {s : SV} {t : List Int}
    (hq : Qu w0 D Z' t (qV q.1 q.2.1 q.2.2)) (hn : q.2.2 = t.length) (hr : Rd w0 D Z' s.1 (ints t)) (hs : s.2.1 = t.length) (hc : s.2.1 ≤ s.2.2) (ht : t.length ≤ i + 1) :
    QI w0 D Z' n (i + 1) (qs.set (i + 1) q) (ss.set (i + 1) s) (ls.set (i + 1) t) := by
  obtain ⟨a1, a2, a3, h⟩ := h
  refine ⟨by simp [a1], by simp [a2], by simp [a3], fun j q' s' t' h1 h2 h3 => ?_⟩
  by_cases hj : i + 1 = j
  · subst hj
    rw [List.getElem?_set_self (by omega)] at h1 h2 h3
    cases h1; cases h2; cases h3
    exact ⟨hq, hn, hr, hs, hc, ht, fun h => absurd h (Nat.lt_irrefl _)⟩
  · rw [List.getElem?_set_ne hj] at h1 h2 h3
    obtain ⟨b1, b2, b3, b4, b5, b6, b7⟩ := h j q' s' t' h1 h2 h3
    exact ⟨b1.ext x, b2, b3.ext x, b4, b5, by omega, fun h => b7 (by omega)⟩
/-- a pop of the empty queue leaves the list as it was made -/
theorem QI.step0 {w0 : World} {D : Nat → Prop} {Z Z' : List Ent} {n i : Nat} {qs : List QT} {ss : List SV} {ls : List (List Int)} (h : QI w0 D Z n i qs ss ls) (x : Xt Z Z') (hi : i < n) {q : QT}
    (hq : Qu w0 D Z' [] (qV q.1 q.2.1 q.2.2)) (hn : q.2.2 = 0) : QI w0 D Z' n (i + 1) (qs.set (i + 1) q) ss ls := by
  obtain ⟨a1, a2, a3, h⟩ := h
  refine ⟨by simp [a1], a2, a3, fun j q' s' t' h1 h2 h3 => ?_⟩
  by_cases hj : i + 1 = j
  · subst hj
    obtain ⟨q0, hq0⟩ : ∃ q0, qs[i + 1]? = some q0 := ⟨_, List.getElem?_eq_getElem (by omega)⟩
    obtain ⟨b1, b2, b3, b4, b5, b6, b7⟩ := h (i + 1) q0 s' t' hq0 h2 h3
    have e := b7 (by omega)
    subst e
    rw [List.getElem?_set_self (by omega)] at h1
    cases h1
    exact ⟨hq, hn, b3.ext x, b4, b5, by simp, fun _ => rfl⟩
  · rw [List.getElem?_set_ne hj] at h1
    obtain ⟨b1, b2, b3, b4, b5, b6, b7⟩ := h j q' s' t' h1 h2 h3
    exact ⟨b1.ext x, b2, b3.ext x, b4, b5, by omega, fun h => b7 (by omega)⟩
theorem QI.at {w0 : World} {D : Nat → Prop} {Z : List Ent} {n i j : Nat} {qs : List QT} {ss : List SV} {ls : List (List Int)} (h : QI w0 D Z n i qs ss ls) (hj : j ≤ n) :
    ∃ (pf pb : Option Nat) (x : Option Addr) (c m : Nat) (t : List Int), qs[j]? = some (pf, pb, m) ∧ ss[j]? = some (x, m, c) ∧ ls[j]? = some t ∧ t.length = m ∧ Qu w0 D Z t (qV pf pb m) ∧ Rd w0 D Z x (ints t) ∧ m ≤ c ∧ m ≤ i := by
  obtain ⟨a1, a2, a3, h⟩ := h
  obtain ⟨⟨pf, pb, m⟩, hq⟩ : ∃ q, qs[j]? = some q := ⟨_, List.getElem?_eq_getElem (by omega)⟩
  obtain ⟨⟨x, m', c⟩, hs⟩ : ∃ q, ss[j]? = some q := ⟨_, List.getElem?_eq_getElem (by omega)⟩
  obtain ⟨t, ht⟩ : ∃ q, ls[j]? = some q := ⟨_, List.getElem?_eq_getElem (by omega)⟩
  obtain ⟨b1, b2, b3, b4, b5, b6, b7⟩ := h j _ _ _ hq hs ht
  dsimp only at b2 b4 b5
  have e : m' = m := by omega
  subst e
  exact ⟨pf, pb, x, c, m', t, hq, hs, ht, b4.symm, b1, b3, b5, by omega⟩
/-- a pop, and a push, their posts in parts -/
def PC (w0 : World) (D : Nat → Prop) (M Z : List Ent) (v : Int) (b : Bool) (r : List Int) (m : Nat) (e : Ending) (w' : World) : Prop :=
  ∃ (pf pb : Option Nat) (Z' : List Ent), e = .returned (.tuple #[.int .i64 v, qV pf pb m, .bool b]) ∧ Xt Z Z' ∧ Qu w0 D Z' r (qV pf pb m) ∧ Hp w0 D (M ++ Z') w'
theorem Pop_e {w0 w : World} {D : Nat → Prop} {M Z : List Ent} {pf pb : Option Nat} (H : Hp w0 D (M ++ Z) w) (hq : Qu w0 D Z [] (qV pf pb 0)) :
    Calls Try.prog 17 #[qV pf pb 0] w fun e w' => PC w0 D M Z 0 false [] 0 e w' := by
  refine (Pop_spec H hq (by simp)).mono ?_
  rintro e w1 ⟨qv, Z', rfl, hx, hq', H'⟩
  obtain ⟨F, B, pf, pb, rfl, h2, h3, h4⟩ := id hq'
  exact ⟨pf, pb, Z', rfl, hx, hq', H'⟩
theorem Pop_c {w0 w : World} {D : Nat → Prop} {M Z : List Ent} {pf pb : Option Nat} {v : Int} {r : List Int} {m : Nat} (H : Hp w0 D (M ++ Z) w) (hq : Qu w0 D Z (v :: r) (qV pf pb (m + 1))) (hr : r.length = m) (hs : m ≤ 100000) :
    Calls Try.prog 17 #[qV pf pb (m + 1)] w fun e w' => PC w0 D M Z v true r m e w' := by
  refine (Pop_spec H hq (by simp; omega)).mono ?_
  rintro e w1 ⟨qv, Z', rfl, hx, hq', H'⟩
  obtain ⟨F, B, pf, pb, rfl, h2, h3, h4⟩ := id hq'
  subst hr
  exact ⟨pf, pb, Z', rfl, hx, hq', H'⟩
def SC (w0 : World) (D : Nat → Prop) (M Z : List Ent) (l : List Int) (m : Nat) (e : Ending) (w' : World) : Prop :=
  ∃ (pf pb : Option Nat) (Z' : List Ent), e = .returned (qV pf pb m) ∧ Xt Z Z' ∧ Qu w0 D Z' l (qV pf pb m) ∧ Hp w0 D (M ++ Z') w'
theorem Push_c {w0 w : World} {D : Nat → Prop} {M Z : List Ent} {pf pb : Option Nat} {v : Int} {t : List Int} {m : Nat} (H : Hp w0 D (M ++ Z) w) (hq : Qu w0 D Z t (qV pf pb m)) (hr : t.length = m) (hs : m ≤ 100000) :
    Calls Try.prog 18 #[qV pf pb m, .int .i64 v] w fun e w' => SC w0 D M Z (t ++ [v]) (m + 1) e w' := by
  refine (QPush_spec H hq (by omega)).mono ?_
  rintro e w1 ⟨qv, Z', rfl, hx, hq', H'⟩
  obtain ⟨F, B, pf, pb, rfl, h2, h3, h4⟩ := id hq'
  have e : (t ++ [v]).length = m + 1 := by simp [hr]
  rw [e] at hq' ⊢
  exact ⟨pf, pb, Z', rfl, hx, hq', H'⟩
end Go.Proofs.Ytgnmjeajmnmobaa
