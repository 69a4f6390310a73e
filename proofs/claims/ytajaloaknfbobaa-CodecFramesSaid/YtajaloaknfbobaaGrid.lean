/- Layer 1: a list of rows of bytes that came in. No program in sight. -/
import Derived.Test.YtajaloaknfbobaaOpn
import Derived.Test.YtajaloaknfbobaaGxAgg
import Derived.SizedLaws
set_option linter.unusedVariables false
set_option linter.unusedSimpArgs false
namespace Go.Gx.Cod
open Go.Gx Go.RowKit Go.ChangeShapes Go.WideShapes Go.ChangeAt
abbrev RowA := Option Addr × Nat × List UInt8
abbrev cellA (r : RowA) : Value := .slice r.1 r.2.2.length r.2.1
section
variable {H : Type} {enc : TypeId × Value → H} {P : Program}
theorem oldRow_of_cells {W : World} {a' : Addr} {m len sz : Nat} {g : Nat → List Value} (hlm : len ≤ m) (hsz : 0 < sz) (hfc : ∀ i, i < m → W.cells? 0 (a'.add (i * sz)) sz = some (g i)) : OldRow W (some a') ((List.range len).map g) sz := by
  by_cases h0 : len = 0
  · left; subst h0; rfl
  · right
    obtain ⟨b, off, spot⟩ := a'
    have h1 := cells?_some (hfc 0 (by omega))
    have hlen0 : 0 < (g 0).length := by rw [h1.1]; exact hsz
    have hc0 : (g 0)[0]? = some ((g 0)[0]'hlen0) := List.getElem?_eq_getElem _
    have hcell := (h1.2 0 hsz).trans hc0
    have hspot : spot = none := by simpa [Addr.add] using World.cell?_spot hcell
    subst hspot
    have hlt := cell_lt hcell
    rw [add_plain, add_plain] at hlt
    refine ⟨b, off, rfl, hlt, fun i vs hi j v hj => ?_⟩
    rw [List.getElem?_map] at hi
    cases hr : (List.range len)[i]? with
    | none => rw [hr] at hi; cases hi
    | some i' =>
      rw [hr] at hi
      obtain ⟨hlt', e'⟩ := List.getElem?_eq_some_iff.1 hr
      simp only [List.length_range] at hlt'
      simp only [List.getElem_range] at e'
      subst e'
      simp only [Option.map_some, Option.some.injEq] at hi
      subst hi
      have h2 := cells?_some (hfc i (by omega))
      have hj' : j < sz := by have := (List.getElem?_eq_some_iff.1 hj).1; omega
      have := h2.2 j hj'
      rw [add_plain, add_plain] at this
      rw [this, hj]
theorem open_grid {W : World} {t e u : TypeId} {n : Nat} {r : Reach} {b0 : Nat} {v : Value} {d : DataW H} {p : List MemPlace} (ht : P.underlying t = some (.slice e)) (he : P.underlying e = some (.slice u)) (hs : shapes P n u = some [.i .u8]) (hce : P.cellsOf e = 1) (hcu : P.cellsOf u = 1)
    (hv : Value.okWide P W r b0 t v) (h : DataW.Trod enc P W 0 (fun _ => true) true t v d p) :
    ∃ (a : Option Addr) (c : Nat) (rs : List RowA), v = .slice a rs.length c ∧ rs.length ≤ c ∧ c ≤ maxLen ∧ OldRow W a (rs.map fun r => [cellA r]) 1 ∧
      ∀ r ∈ rs, (OldRow W r.1 (r.2.2.map fun b => [byteV b]) 1 ∧ r.2.2.length ≤ r.2.1 ∧ r.2.1 ≤ maxLen) ∧
        (r.2.2.length = 0 ∨ ∃ elems spare E S, d = .slice elems spare ∧ DataW.slice E S ∈ elems ∧ E.length = r.2.2.length) := by
  obtain ⟨a, len, cap, rfl⟩ := okWide_slice ht hv
  obtain ⟨fuel, hf⟩ := h
  rcases Deep.open_slice ht hf with ⟨hcs, hx⟩ | ⟨a', len', cap', m, k, Dt, Pl, hcs, hb, hl, hm, hmm, hx, hall⟩
  · simp [Value.cells] at hcs
    obtain ⟨rfl, rfl, rfl⟩ := hcs
    exact ⟨none, 0, [], rfl, Nat.le_refl _, Nat.zero_le _, .inl rfl, by simp⟩
  · simp [Value.cells] at hcs
    obtain ⟨rfl, rfl, rfl⟩ := hcs
    simp only [if_true] at hmm
    subst hmm
    rw [hce] at hall
    have hrow : ∀ i, i < m → ∃ q : RowA, W.cells? 0 (a'.add (i * 1)) 1 = some [cellA q] ∧ OldRow W q.1 (q.2.2.map fun b => [byteV b]) 1 ∧ q.2.2.length ≤ q.2.1 ∧ q.2.1 ≤ maxLen ∧ (q.2.2.length = 0 ∨ ∃ E S, Dt i = .slice E S ∧ E.length = q.2.2.length) := by
      intro i hi
      obtain ⟨cs', h1, h2⟩ := hall i hi
      obtain ⟨xa, xl, xc, ls, rfl, hll, hfit, ho, hlc, hcm, hd⟩ := open_rowsC he hs hcu (by omega) h2
      obtain ⟨bl, rfl⟩ := map_of_all (f := fun b : UInt8 => [byteV b]) (ls := ls) (fun vs hvs => by
        obtain ⟨y1, _, rfl, hw, rfl⟩ := hfit vs hvs
        exact byte_of hw)
      rw [List.length_map] at hll
      subst hll
      refine ⟨(xa, xc, bl), h1, ho, hlc, hcm, ?_⟩
      rcases hd with ⟨_, h0⟩ | ⟨E, S, hE, hEl, _⟩
      · exact .inl h0
      · exact .inr ⟨E, S, hE, hEl⟩
    obtain ⟨f, hfc⟩ := Deep.choose_lt (p := fun i (q : RowA) => W.cells? 0 (a'.add (i * 1)) 1 = some [cellA q] ∧ OldRow W q.1 (q.2.2.map fun b => [byteV b]) 1 ∧ q.2.2.length ≤ q.2.1 ∧ q.2.1 ≤ maxLen ∧ (q.2.2.length = 0 ∨ ∃ E S, Dt i = .slice E S ∧ E.length = q.2.2.length)) hrow
    refine ⟨some a', m, (List.range len).map f, by simp, by simpa using hl, hm, ?_, ?_⟩
    · rw [List.map_map]
      exact oldRow_of_cells hl (by omega) fun i hi => (hfc i hi).1
    · intro q hq
      simp only [List.mem_map, List.mem_range] at hq
      obtain ⟨i, hi, rfl⟩ := hq
      obtain ⟨_, h2, h3, h4, h5⟩ := hfc i (by omega)
      refine ⟨⟨h2, h3, h4⟩, ?_⟩
      rcases h5 with h5 | ⟨E, S, hE, hEl⟩
      · exact .inl h5
      · exact .inr ⟨_, _, E, S, congrArg Prod.fst hx, by simp only [List.mem_map, List.mem_range]; exact ⟨i, hi, hE⟩, hEl⟩
theorem weightsAll_mem {e : TypeId} {x : Nat} : ∀ {ds : List (DataW H)} {d : DataW H}, d ∈ ds → x ∈ d.weights P e → x ∈ DataW.weightsAll P e ds
  | [], _, h, _ => by cases h
  | d0 :: r, d, h, hx => by
    rw [DataW.weightsAll]
    rcases List.mem_cons.1 h with rfl | h
    · exact List.mem_append_left _ hx
    · exact List.mem_append_right _ (weightsAll_mem h hx)
theorem sized_grid {ts : List TypeId} {ds : List (DataW H)} (h : (DataW.weightsEach P ts ds).all (· ≤ reachBytes) = true) {j : Nat} {t e u : TypeId} {elems spare E S : List (DataW H)} (ht : ts[j]? = some t) (hd : ds[j]? = some (.slice elems spare)) (hm : DataW.slice E S ∈ elems) (hu : P.underlying t = some (.slice e)) (he : P.underlying e = some (.slice u)) :
    (E.length + S.length) * P.bytesOf u ≤ reachBytes := by
  have h1 : (E.length + S.length) * P.bytesOf u ∈ DataW.weightsAll P e elems := weightsAll_mem hm (by simp [DataW.weights, he])
  have := List.all_eq_true.1 h _ (DataW.weights_mem_each ht hd ((E.length + S.length) * P.bytesOf u) (by simp [DataW.weights, hu, h1]))
  simpa using this
end
theorem rd_grid {w : World} {x : Option Addr} {rs : List RowA} (h : OldRow w x (rs.map fun r => [cellA r]) 1) (R : List Ent) : Rd w (fun _ => False) R x (rs.map cellA) := by
  have := RdA.of h (by rintro vs hvs; obtain ⟨r, _, rfl⟩ := List.mem_map.1 hvs; rfl)
  have e : (rs.map fun r => [cellA r]).flatten = rs.map cellA := by
    clear h this
    induction rs with
    | nil => rfl
    | cons a l ih => simp only [List.map_cons, List.flatten_cons, ih]; rfl
  rw [e] at this
  exact this.rd R
end Go.Gx.Cod
