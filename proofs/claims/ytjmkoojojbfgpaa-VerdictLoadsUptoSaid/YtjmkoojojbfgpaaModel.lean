/- Layer 18: the notary's table as plain data and plain functions. No program in sight. -/
import Derived.Test.YtjmkoojojbfgpaaGxMp
set_option linter.unusedVariables false
set_option linter.unusedSimpArgs false
namespace Go.Gx.Ver
open Go.Gx Go.RowKit
/-- a letter -/
structure Lt where
  kind : Int
  src : Int
  c : Int
  text : ByteArray
  fake : Bool
def bmt : ByteArray := ⟨#[]⟩
def Lt.cells (l : Lt) : List Value := [.int .i64 l.kind, .int .i64 l.src, .int .u64 l.c, .string l.text, .bool l.fake]
def Lt.zero : Lt := ⟨0, 0, 0, ⟨#[]⟩, false⟩
/-- a verdict -/
structure Vt where
  c : Int
  kind : Int
  text : ByteArray
def Vt.cells (v : Vt) : List Value := [.int .u64 v.c, .int .i64 v.kind, .string v.text]
def Vt.zero : Vt := ⟨0, 0, ⟨#[]⟩⟩
def vts (l : List Vt) : List Value := l.flatMap Vt.cells
theorem vts_length (l : List Vt) : (vts l).length = l.length * 3 := by
  induction l with
  | nil => rfl
  | cons x l ih => simp only [vts, List.flatMap_cons, List.length_append, List.length_cons] at *; rw [ih]; simp [Vt.cells]; omega
theorem vts_append (l m : List Vt) : vts (l ++ m) = vts l ++ vts m := by simp [vts]
theorem vts_one (l : List Vt) : (vts l).all (·.oneCell') = true := by
  simp [vts, Vt.cells, List.all_flatMap, Value.oneCell']
theorem vts_get {l : List Vt} {k j : Nat} {a : Vt} {v : Value} (h : l[k]? = some a) (hj : a.cells[j]? = some v) : (vts l)[k * 3 + j]? = some v := by
  induction l generalizing k with
  | nil => simp at h
  | cons x l ih =>
    have e : vts (x :: l) = x.cells ++ vts l := by simp [vts]
    rw [e]
    cases k with
    | zero =>
      simp at h; subst h
      have : j < x.cells.length := (List.getElem?_eq_some_iff.1 hj).1
      rw [List.getElem?_append_left (by omega)]
      simpa using hj
    | succ k =>
      have h' : l[k]? = some a := by simpa using h
      have hl : x.cells.length = 3 := rfl
      rw [List.getElem?_append_right (by omega)]
      have : (k + 1) * 3 + j - x.cells.length = k * 3 + j := by omega
      rw [this]; exact ih h'
theorem pick_vt {l : List Vt} {k : Nat} {a : Vt} (h : l[k]? = some a) : pick true 3 (vts l) (k * 3) = some (.agg a.cells.toArray) := by
  have hlt := (List.getElem?_eq_some_iff.1 h).1
  have e : ((vts l).drop (k * 3)).take 3 = a.cells := by
    apply List.ext_getElem?
    intro j
    rw [List.getElem?_take]
    split
    · rename_i hj
      rw [List.getElem?_drop]
      have : j < a.cells.length := hj
      rw [List.getElem?_eq_getElem this]
      exact vts_get h (List.getElem?_eq_getElem this)
    · rw [List.getElem?_eq_none]; show 3 ≤ j; omega
  simp [pick, vts_length, e]
  omega

def sEq (s t : ByteArray) : Bool := s.toList == t.toList
theorem sEq_iff {s t : ByteArray} : sEq s t = true ↔ s = t := by
  unfold sEq
  rw [beq_iff_eq, ByteArray.toList_eq, ByteArray.toList_eq]
  obtain ⟨⟨x⟩⟩ := s
  obtain ⟨⟨y⟩⟩ := t
  simp
theorem txt_iff {s t : ByteArray} : s.toList = t.toList ↔ s = t := by rw [← beq_iff_eq]; exact sEq_iff
def Lt.beq (l m : Lt) : Bool := l.kind == m.kind && l.src == m.src && l.c == m.c && sEq l.text m.text && l.fake == m.fake
theorem Lt.beq_iff {l m : Lt} : l.beq m = true ↔ l = m := by
  obtain ⟨a, b, c, d, e⟩ := l; obtain ⟨a', b', c', d', e'⟩ := m
  simp [Lt.beq, sEq_iff, and_assoc]
def Vt.beq (l m : Vt) : Bool := l.c == m.c && l.kind == m.kind && sEq l.text m.text
theorem Vt.beq_iff {l m : Vt} : l.beq m = true ↔ l = m := by
  obtain ⟨a, b, c⟩ := l; obtain ⟨a', b', c'⟩ := m
  simp [Vt.beq, sEq_iff, and_assoc]

/-- what a letter's kind may bear: a sender, a text, a fake -/
def kFrom (k : Int) : Bool := k == 1 || k == 2 || k == 4
def kText (k : Int) : Bool := k == 1 || k == 2 || k == 4 || k == 6
def kFake (k : Int) : Bool := k == 1 || k == 4
def kName (k : Int) : ByteArray := if k = 1 then ⟨#[112, 114, 111, 109, 105, 115, 101]⟩ else if k = 2 then ⟨#[115, 105, 103, 110]⟩ else if k = 3 then ⟨#[97, 98, 111, 114, 116]⟩ else if k = 4 then ⟨#[114, 101, 115, 111, 108, 118, 101]⟩
  else if k = 5 then ⟨#[116, 111, 107, 101, 110]⟩ else if k = 6 then ⟨#[105, 110, 115, 116, 101, 97, 100]⟩ else if k = 7 then ⟨#[102, 117, 108, 108]⟩ else ⟨#[]⟩
def kRow (k : Int) : List Value := [.bool (kFrom k), .bool (kText k), .bool (kFake k), .string (kName k)]
def kAll : List Value := kRow 0 ++ (kRow 1 ++ (kRow 2 ++ (kRow 3 ++ (kRow 4 ++ (kRow 5 ++ (kRow 6 ++ kRow 7))))))
def lBad (l : Lt) : Prop :=
  (l.src ≠ 0 ∧ l.src ≠ 1) ∨ (kFrom l.kind = false ∧ l.src ≠ 0) ∨ (kText l.kind = false ∧ l.text.toList ≠ (⟨#[]⟩ : ByteArray).toList) ∨ (kFake l.kind = false ∧ l.fake = true)
open Classical in
noncomputable def lCheck (l : Lt) : Int := if l.kind < 1 ∨ 7 < l.kind then 110 else if lBad l then 110 else if 64 < l.text.size then 1 else 0
theorem lCheck_out (l : Lt) (h : l.kind < 1 ∨ 7 < l.kind) : lCheck l = 110 := by unfold lCheck; rw [if_pos h]
theorem lCheck_bad (l : Lt) (h : lBad l) : lCheck l = 110 := by unfold lCheck; split <;> simp [h]
theorem lCheck_long (l : Lt) (h1 : 1 ≤ l.kind) (h2 : l.kind ≤ 7) (h3 : ¬ lBad l) (h4 : 64 < (l.text.size : Int)) : lCheck l = 1 := by
  unfold lCheck; rw [if_neg (by omega), if_neg h3, if_pos (by omega)]
theorem lCheck_ok (l : Lt) (h1 : 1 ≤ l.kind) (h2 : l.kind ≤ 7) (h3 : ¬ lBad l) (h4 : (l.text.size : Int) ≤ 64) : lCheck l = 0 := by
  unfold lCheck; rw [if_neg (by omega), if_neg h3, if_neg (by omega)]

/-- is it a verdict? -/
def right (v : Vt) : Bool := (v.kind == 1 && sEq v.text bmt) || (v.kind == 2 && decide (v.text.size ≤ 64))
/-- the letter that tells it -/
def says (v : Vt) : Lt := if right v = false then .zero else if v.kind = 1 then ⟨5, 0, v.c, bmt, false⟩ else ⟨6, 0, v.c, v.text, false⟩
/-- a table -/
structure Tb where
  most : Int
  l : List Vt
def Tb.of (t : Tb) (c : Int) : Option Vt := t.l.find? fun v => v.c == c
def kvs (l : List Vt) : List (Int × Value) := l.map fun v => (v.c, .agg v.cells.toArray)
theorem look_kvs (l : List Vt) (c : Int) : look (kvs l) c = (l.find? fun v => v.c == c).map fun v => .agg v.cells.toArray := by
  unfold look kvs
  induction l with
  | nil => rfl
  | cons v l ih =>
    simp only [List.map_cons, List.find?_cons]
    by_cases h : v.c = c
    · simp [h]
    · simp only [show (v.c == c) = false by simpa using h]
      exact ih
theorem kvs_append (l : List Vt) (v : Vt) : kvs (l ++ [v]) = kvs l ++ [(v.c, .agg v.cells.toArray)] := by simp [kvs]
def Tb.full (t : Tb) : Bool := t.most - t.l.length == 0
def Tb.putE (t : Tb) (v : Vt) : Int := if right v = false then 180 else if (t.of v.c).isSome = true then 8 else if t.full = true then 5 else 0
def Tb.put (t : Tb) (v : Vt) : Tb := if t.putE v = 0 then { t with l := t.l ++ [v] } else t
/-- the verdict that a letter asks for -/
def asked (l : Lt) : Option Vt := if l.kind = 4 ∧ l.fake = false then some ⟨l.c, 2, l.text⟩ else if l.kind = 3 then some ⟨l.c, 1, bmt⟩ else none
open Classical in
noncomputable def want (l : Lt) : Option Vt := if lCheck l = 0 then asked l else none
noncomputable def Tb.would (t : Tb) (l : Lt) : Vt × Bool := match want l with
  | none => (.zero, false)
  | some v => match t.of l.c with
    | some u => (u, true)
    | none => if t.full = true then (.zero, true) else (v, true)
noncomputable def Tb.ask (t : Tb) (l : Lt) : Tb × Lt × Int × Bool := match t.would l with
  | (_, false) => (t, .zero, 0, false)
  | (v, true) => if v.kind = 0 then (t, ⟨7, 0, l.c, bmt, false⟩, l.src, true) else (t.put v, says v, l.src, true)
/-- what stands of a table at all times -/
structure Tb.ok (t : Tb) : Prop where
  lo : 1 ≤ t.most
  hi : t.most ≤ 64
  le : (t.l.length : Int) ≤ t.most
  right : ∀ v ∈ t.l, right v = true
theorem right_kind {v : Vt} (h : right v = true) : v.kind = 1 ∨ v.kind = 2 := by
  simp [right] at h; rcases h with h | h
  · exact .inl h.1
  · exact .inr h.1
theorem want_right {l : Lt} {v : Vt} (h : want l = some v) : right v = true ∧ v.c = l.c := by
  unfold want at h
  split at h
  · rename_i hc
    unfold asked at h
    split at h
    · cases h
      refine ⟨?_, rfl⟩
      unfold lCheck at hc
      split at hc
      · cases hc
      · split at hc
        · cases hc
        · split at hc
          · cases hc
          · simp [right]; omega
    · split at h
      · cases h; exact ⟨by simp [right, sEq], rfl⟩
      · cases h
  · cases h
theorem of_mem {t : Tb} {c : Int} {v : Vt} (h : t.of c = some v) : v ∈ t.l ∧ v.c = c := by
  unfold Tb.of at h
  exact ⟨List.mem_of_find?_eq_some h, by simpa using List.find?_some h⟩
theorem of_append_some {t : Tb} {c : Int} {u : Vt} (v : Vt) (h : t.of c = some u) : Tb.of { t with l := t.l ++ [v] } c = some u := by
  unfold Tb.of at *; show (t.l ++ [v]).find? _ = _; rw [List.find?_append, h]; rfl
theorem of_append_new {t : Tb} {v : Vt} (h : t.of v.c = none) : Tb.of { t with l := t.l ++ [v] } v.c = some v := by
  unfold Tb.of at *; show (t.l ++ [v]).find? _ = _; rw [List.find?_append, h]; simp
theorem of_append_other {t : Tb} {c : Int} {v : Vt} (h : ¬ v.c = c) : Tb.of { t with l := t.l ++ [v] } c = t.of c := by
  unfold Tb.of at *; show (t.l ++ [v]).find? _ = _; rw [List.find?_append]; simp [h]
/-- the ways of a question -/
inductive AskW (t : Tb) (l : Lt) : Prop where
  | no (h : want l = none) (e : t.ask l = (t, .zero, 0, false)) (ew : t.would l = (.zero, false))
  | had (v u : Vt) (h : want l = some v) (ho : t.of l.c = some u) (e : t.ask l = (t, says u, l.src, true)) (ew : t.would l = (u, true)) (hr : right u = true)
  | full (v : Vt) (h : want l = some v) (ho : t.of l.c = none) (hf : t.full = true) (e : t.ask l = (t, ⟨7, 0, l.c, bmt, false⟩, l.src, true)) (ew : t.would l = (.zero, true))
  | new (v : Vt) (h : want l = some v) (ho : t.of l.c = none) (hf : t.full = false) (e : t.ask l = ({ t with l := t.l ++ [v] }, says v, l.src, true)) (ew : t.would l = (v, true)) (hr : right v = true) (hc : v.c = l.c)
theorem ask_ways {t : Tb} (hk : t.ok) (l : Lt) : AskW t l := by
  cases h : want l with
  | none =>
    have ew : t.would l = (.zero, false) := by unfold Tb.would; rw [h]
    exact .no h (by unfold Tb.ask; rw [ew]) ew
  | some v =>
    obtain ⟨hr, hc⟩ := want_right h
    cases ho : t.of l.c with
    | some u =>
      have ew : t.would l = (u, true) := by unfold Tb.would; rw [h]; simp only [ho]
      have hu := of_mem ho
      have hru := hk.right u hu.1
      have hk0 : ¬ u.kind = 0 := by rcases right_kind hru with h1 | h1 <;> omega
      refine .had v u h ho ?_ ew hru
      unfold Tb.ask; rw [ew]; simp only [hk0, if_false]
      have : t.put u = t := by
        unfold Tb.put Tb.putE
        rw [hu.2, ho]; simp [hru]
      rw [this]
    | none =>
      cases hf : t.full with
      | true =>
        have ew : t.would l = (.zero, true) := by unfold Tb.would; rw [h]; simp only [ho, hf, if_true]
        exact .full v h ho hf (by unfold Tb.ask; rw [ew]; rfl) ew
      | false =>
        have ew : t.would l = (v, true) := by unfold Tb.would; rw [h]; simp only [ho, hf]; rfl
        have hk0 : ¬ v.kind = 0 := by rcases right_kind hr with h1 | h1 <;> omega
        refine .new v h ho hf ?_ ew hr hc
        unfold Tb.ask; rw [ew]; simp only [hk0, if_false]
        have : t.put v = { t with l := t.l ++ [v] } := by
          unfold Tb.put Tb.putE
          rw [hc, ho]; simp [hr, hf]
        rw [this]
theorem Tb.ok.ask {t : Tb} (hk : t.ok) (l : Lt) : (t.ask l).1.ok := by
  rcases ask_ways hk l with ⟨_, e, _⟩ | ⟨_, _, _, _, e, _, _⟩ | ⟨_, _, _, _, e, _⟩ | ⟨v, _, _, hf, e, _, hr, _⟩ <;> rw [e]
  · exact hk
  · exact hk
  · exact hk
  · refine ⟨hk.lo, hk.hi, ?_, ?_⟩
    · have h1 := hk.le
      have h2 : ¬ t.most - (t.l.length : Int) = 0 := by simpa [Tb.full] using hf
      show ((t.l ++ [v]).length : Int) ≤ t.most
      simp; omega
    · intro u hu
      rcases List.mem_append.1 hu with hu | hu
      · exact hk.right u hu
      · rw [List.mem_singleton.1 hu]; exact hr
/-- the struct of a table; its list -/
def eT (p mb : Nat) (a : Option Nat) (cap : Nat) (t : Tb) : Ent := ⟨some p, [.int .i64 t.most, .map (some mb), .slice (adr a 0) t.l.length cap], 68, 3⟩
def eL (a : Option Nat) (cap : Nat) (l : List Vt) : Ent := ⟨a, vts l, 37, cap * 3⟩
def ltC (l : Lt) : List Value := l.cells
def lts (l : List Lt) : List Value := l.flatMap Lt.cells
theorem lts_length (l : List Lt) : (lts l).length = l.length * 5 := by
  induction l with
  | nil => rfl
  | cons x l ih => simp only [lts, List.flatMap_cons, List.length_append, List.length_cons] at *; rw [ih]; simp [Lt.cells]; omega
theorem lts_append (l m : List Lt) : lts (l ++ m) = lts l ++ lts m := by simp [lts]
theorem lts_one (l : List Lt) : (lts l).all (·.oneCell') = true := by
  simp [lts, Lt.cells, List.all_flatMap, Value.oneCell']
theorem lts_get {l : List Lt} {k j : Nat} {a : Lt} {v : Value} (h : l[k]? = some a) (hj : a.cells[j]? = some v) : (lts l)[k * 5 + j]? = some v := by
  induction l generalizing k with
  | nil => simp at h
  | cons x l ih =>
    have e : lts (x :: l) = x.cells ++ lts l := by simp [lts]
    rw [e]
    cases k with
    | zero =>
      simp at h; subst h
      have : j < x.cells.length := (List.getElem?_eq_some_iff.1 hj).1
      rw [List.getElem?_append_left (by omega)]
      simpa using hj
    | succ k =>
      have h' : l[k]? = some a := by simpa using h
      have hl : x.cells.length = 5 := rfl
      rw [List.getElem?_append_right (by omega)]
      have : (k + 1) * 5 + j - x.cells.length = k * 5 + j := by omega
      rw [this]; exact ih h'
theorem pick_lt {l : List Lt} {k : Nat} {a : Lt} (h : l[k]? = some a) : pick true 5 (lts l) (k * 5) = some (.agg a.cells.toArray) := by
  have hlt := (List.getElem?_eq_some_iff.1 h).1
  have e : ((lts l).drop (k * 5)).take 5 = a.cells := by
    apply List.ext_getElem?
    intro j
    rw [List.getElem?_take]
    split
    · rename_i hj
      rw [List.getElem?_drop]
      have : j < a.cells.length := hj
      rw [List.getElem?_eq_getElem this]
      exact lts_get h (List.getElem?_eq_getElem this)
    · rw [List.getElem?_eq_none]; show 5 ≤ j; omega
  simp [pick, lts_length, e]
  omega
theorem lts_flat (l : List Lt) : (l.map Lt.cells).flatten = lts l := by simp [lts, List.flatMap]
theorem vts_flat (l : List Vt) : (l.map Vt.cells).flatten = vts l := by simp [vts, List.flatMap]
end Go.Gx.Ver
