/- Layer 17: the responder as plain data and plain functions. No program in sight. -/
import Derived.Test.YtjflokgplehfgaaGxRegionS
set_option linter.unusedVariables false
set_option linter.unusedSimpArgs false
namespace Go.Gx.Ans
open Go.Gx
/-- a letter -/
structure Lt where
  kind : Int
  src : Int
  c : Int
  text : ByteArray
  fake : Bool
def Lt.cells (l : Lt) : List Value := [.int .i64 l.kind, .int .i64 l.src, .int .u64 l.c, .string l.text, .bool l.fake]
def Lt.zero : Lt := ⟨0, 0, 0, ⟨#[]⟩, false⟩
/-- a state -/
structure Sta where
  role : Int
  c : Int
  text : ByteArray
  phase : Int
  proof : Lt
def Sta.cells (s : Sta) : List Value := [.int .i64 s.role, .int .u64 s.c, .string s.text, .int .i64 s.phase, .int .i64 s.proof.kind, .int .i64 s.proof.src, .int .u64 s.proof.c, .string s.proof.text, .bool s.proof.fake]
/-- an event -/
structure Ev where
  kind : Int
  c : Int
  text : ByteArray
  letter : Lt
def Ev.cells (e : Ev) : List Value := [.int .i64 e.kind, .int .u64 e.c, .string e.text, .int .i64 e.letter.kind, .int .i64 e.letter.src, .int .u64 e.letter.c, .string e.letter.text, .bool e.letter.fake]
structure Ot where
  dst : Int
  letter : Lt
def Ot.cells (o : Ot) : List Value := [.int .i64 o.dst, .int .i64 o.letter.kind, .int .i64 o.letter.src, .int .u64 o.letter.c, .string o.letter.text, .bool o.letter.fake]
def outs (l : List Ot) : List Value := l.flatMap Ot.cells

def sEq (s t : ByteArray) : Bool := s.toList == t.toList
theorem sEq_iff {s t : ByteArray} : sEq s t = true ↔ s = t := by
  unfold sEq
  rw [beq_iff_eq, ByteArray.toList_eq, ByteArray.toList_eq]
  obtain ⟨⟨x⟩⟩ := s
  obtain ⟨⟨y⟩⟩ := t
  simp
theorem sz64 (n : Nat) : ((n : Int) ≤ 64) ↔ n ≤ 64 := by omega
theorem sz64' (n : Nat) : (64 < (n : Int)) ↔ ¬ n ≤ 64 := by omega
theorem txt_iff {s t : ByteArray} : s.toList = t.toList ↔ s = t := by
  rw [← beq_iff_eq]; exact sEq_iff
def Lt.beq (l m : Lt) : Bool := l.kind == m.kind && l.src == m.src && l.c == m.c && sEq l.text m.text && l.fake == m.fake
theorem Lt.beq_iff {l m : Lt} : l.beq m = true ↔ l = m := by
  obtain ⟨a, b, c, d, e⟩ := l; obtain ⟨a', b', c', d', e'⟩ := m
  simp [Lt.beq, sEq_iff, and_assoc]
def Sta.beq (s t : Sta) : Bool := s.role == t.role && s.c == t.c && sEq s.text t.text && s.phase == t.phase && s.proof.beq t.proof
theorem Sta.beq_iff {s t : Sta} : s.beq t = true ↔ s = t := by
  obtain ⟨a, b, c, d, e⟩ := s; obtain ⟨a', b', c', d', e'⟩ := t
  simp [Sta.beq, sEq_iff, Lt.beq_iff, and_assoc]
def Ot.beq (s t : Ot) : Bool := s.dst == t.dst && s.letter.beq t.letter
theorem Ot.beq_iff {s t : Ot} : s.beq t = true ↔ s = t := by
  obtain ⟨a, b⟩ := s; obtain ⟨a', b'⟩ := t
  simp [Ot.beq, Lt.beq_iff]

def promise (s : Sta) (who : Int) : Lt := ⟨1, who, s.c, s.text, false⟩
def signature (s : Sta) (who : Int) : Lt := ⟨2, who, s.c, s.text, false⟩
def instead (s : Sta) : Lt := ⟨6, 0, s.c, s.text, false⟩
def token (s : Sta) : Lt := ⟨5, 0, s.c, ⟨#[]⟩, false⟩
def inPh (s : Sta) (p : Int) : Sta := { s with phase := p }
def proved (s : Sta) (l : Lt) : Sta := { s with phase := 6, proof := l }
/-- what a letter's kind may bear: a sender, a text, a fake -/
def kFrom (k : Int) : Bool := k == 1 || k == 2 || k == 4
def kText (k : Int) : Bool := k == 1 || k == 2 || k == 4 || k == 6
def kFake (k : Int) : Bool := k == 1 || k == 4
def kName (k : Int) : ByteArray := if k = 1 then ⟨#[112, 114, 111, 109, 105, 115, 101]⟩ else if k = 2 then ⟨#[115, 105, 103, 110]⟩ else if k = 3 then ⟨#[97, 98, 111, 114, 116]⟩ else if k = 4 then ⟨#[114, 101, 115, 111, 108, 118, 101]⟩
  else if k = 5 then ⟨#[116, 111, 107, 101, 110]⟩ else if k = 6 then ⟨#[105, 110, 115, 116, 101, 97, 100]⟩ else if k = 7 then ⟨#[102, 117, 108, 108]⟩ else ⟨#[]⟩
def kRow (k : Int) : List Value := [.bool (kFrom k), .bool (kText k), .bool (kFake k), .string (kName k)]
def kAll : List Value := kRow 0 ++ (kRow 1 ++ (kRow 2 ++ (kRow 3 ++ (kRow 4 ++ (kRow 5 ++ (kRow 6 ++ kRow 7))))))
def lBad (l : Lt) : Prop :=
  (l.src ≠ 0 ∧ l.src ≠ 1) ∨ (kFrom l.kind = false ∧ l.src ≠ 0) ∨ (kText l.kind = false ∧ l.text.toList ≠ (⟨#[]⟩ : ByteArray).toList) ∨ (kFake l.kind = false ∧ l.fake = true)
open Classical in
noncomputable def lCheck (l : Lt) : Int := if l.kind < 1 ∨ 7 < l.kind then 110 else if lBad l then 110 else if 64 < l.text.size then 1 else 0
theorem lCheck_out (l : Lt) (h : l.kind < 1 ∨ 7 < l.kind) : lCheck l = 110 := by unfold lCheck; rw [if_pos h]
theorem lCheck_bad (l : Lt) (h : lBad l) : lCheck l = 110 := by unfold lCheck; split <;> simp [h]
theorem lCheck_long (l : Lt) (h1 : 1 ≤ l.kind) (h2 : l.kind ≤ 7) (h3 : ¬ lBad l) (h4 : 64 < (l.text.size : Int)) : lCheck l = 1 := by
  unfold lCheck; rw [if_neg (by omega), if_neg h3, if_pos (by omega)]
theorem lCheck_ok (l : Lt) (h1 : 1 ≤ l.kind) (h2 : l.kind ≤ 7) (h3 : ¬ lBad l) (h4 : (l.text.size : Int) ≤ 64) : lCheck l = 0 := by
  unfold lCheck; rw [if_neg (by omega), if_neg h3, if_neg (by omega)]
def toldNo (s : Sta) (l : Lt) : Prop := lCheck l ≠ 0 ∨ l.fake = true ∨ l.c ≠ s.c
def toldYes (s : Sta) (l : Lt) : Bool := l.beq (promise s 0) || l.beq (signature s 0) || l.beq (instead s) || l.beq (token s)
open Classical in
noncomputable def told (s : Sta) (l : Lt) : Int := if toldNo s l then 0 else if toldYes s l = true then l.kind else 0
theorem told_no {s : Sta} {l : Lt} (h : toldNo s l) : told s l = 0 := by unfold told; rw [if_pos h]
theorem told_yes {s : Sta} {l : Lt} (h : ¬ toldNo s l) (h' : toldYes s l = true) : told s l = l.kind := by unfold told; rw [if_neg h, if_pos h']
theorem told_none {s : Sta} {l : Lt} (h : ¬ toldNo s l) (h' : toldYes s l = false) : told s l = 0 := by unfold told; rw [if_neg h, if_neg (by simp [h'])]
theorem told_p {s : Sta} {l : Lt} {v : Int} (hv : l.kind = v) (h' : l = promise s 0) (h : ¬ toldNo s l) : v = told s l := hv ▸ (told_yes h (by simp [toldYes, Lt.beq_iff, h'])).symm
theorem told_s {s : Sta} {l : Lt} {v : Int} (hv : l.kind = v) (h' : l = signature s 0) (h : ¬ toldNo s l) : v = told s l := hv ▸ (told_yes h (by simp [toldYes, Lt.beq_iff, h'])).symm
theorem told_i {s : Sta} {l : Lt} {v : Int} (hv : l.kind = v) (h' : l = instead s) (h : ¬ toldNo s l) : v = told s l := hv ▸ (told_yes h (by simp [toldYes, Lt.beq_iff, h'])).symm
theorem told_t {s : Sta} {l : Lt} {v : Int} (hv : l.kind = v) (h' : l = token s) (h : ¬ toldNo s l) : v = told s l := hv ▸ (told_yes h (by simp [toldYes, Lt.beq_iff, h'])).symm
theorem told_n {s : Sta} {l : Lt} (h1 : ¬ l = promise s 0) (h2 : ¬ l = signature s 0) (h3 : ¬ l = instead s) (h4 : ¬ l = token s) (h : ¬ toldNo s l) : 0 = told s l :=
  (told_none h (by rw [Bool.eq_false_iff]; simp [toldYes, Lt.beq_iff, h1, h2, h3, h4])).symm
def checkP (s : Sta) : Prop :=
  s.role = 1 ∧ s.text.size ≤ 64 ∧ ((s.phase = 0 ∧ s.text = ⟨#[]⟩ ∧ s.proof = .zero) ∨ ((s.phase = 1 ∨ s.phase = 2 ∨ s.phase = 5 ∨ s.phase = 7) ∧ s.proof = .zero) ∨ (s.phase = 6 ∧ (s.proof = signature s 0 ∨ s.proof = instead s)))
open Classical in
noncomputable def chkS (s : Sta) : Bool := decide (checkP s)
theorem chkS_true {s : Sta} (h : checkP s) : chkS s = true := by simp [chkS, h]
theorem chkS_false {s : Sta} (h : ¬ checkP s) : chkS s = false := by simp [chkS, h]
theorem chkS_eq {s : Sta} {b : Bool} (h : b = true ↔ checkP s) : b = chkS s := by
  cases b
  · exact (chkS_false (fun k => by simpa using h.2 k)).symm
  · exact (chkS_true (h.1 rfl)).symm
theorem chkS_iff {s : Sta} : chkS s = true ↔ checkP s := by simp [chkS]
/-- what a letter does -/
noncomputable def takesS (s : Sta) (l : Lt) : Sta × List Ot :=
  if s.phase = 1 then (if told s l = 1 then (inPh s 2, [⟨0, promise s 1⟩]) else (s, []))
  else if s.phase = 5 then (if told s l = 6 then (proved s l, []) else if told s l = 5 then (inPh s 7, []) else if told s l = 2 then (proved s l, [⟨0, signature s 1⟩]) else (s, []))
  else if s.phase = 2 then (if told s l = 2 then (proved s l, [⟨0, signature s 1⟩]) else if told s l = 1 then (s, [⟨0, promise s 1⟩]) else (s, []))
  else if s.phase = 6 then (if told s l = 2 then (s, [⟨0, signature s 1⟩]) else (s, []))
  else (s, [])
def ticksS (s : Sta) : Sta × List Ot :=
  if s.phase = 1 then (inPh s 7, []) else if s.phase = 2 ∨ s.phase = 5 then (inPh s 5, [⟨2, ⟨4, 1, s.c, s.text, false⟩⟩]) else (s, [])
noncomputable def stepS (s : Sta) (e : Ev) : Sta × List Ot :=
  if chkS s = false then (s, [])
  else if e.kind = 2 then takesS s e.letter
  else if e.c ≠ s.c then (s, [])
  else if e.kind = 3 then ticksS s
  else if e.kind = 1 ∧ s.phase = 0 ∧ e.text.size ≤ 64 then ({ s with text := e.text, phase := 1 }, [])
  else (s, [])
end Go.Gx.Ans
