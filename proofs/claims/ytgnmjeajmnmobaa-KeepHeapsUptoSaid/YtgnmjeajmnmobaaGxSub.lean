/-
  A part of a slice, both its ends told; bytes that can be read, to text. Generic: no program in sight.
-/
import Derived.Test.YtgnmjeajmnmobaaGxRd
import Derived.Test.YtgnmjeajmnmobaaGxSl
import Derived.Test.YtgnmjeajmnmobaaGxMk
import Derived.Laws.BytesArg
set_option linter.unusedVariables false
set_option linter.unusedSimpArgs false
namespace Go.Gx
section
variable {P : Program} {w0 w : World} {D : Nat → Prop} {L R : List Ent} {ops : Array Oper} {Q : Exit → Act → World → Prop} {a : Act} {rest : List Oper}
def subA (x : Option Addr) (cap lo sz : Nat) : Option Addr := if cap = lo then x else x.map (·.add (lo * sz))
theorem slice_lh {t e : TypeId} {z : Value} {sz by_ : Nat} (ht : sI P t = some (e, z, sz, by_)) {x : Option Addr} {len cap : Nat} {l h : Int} {k k' : IntKind} (lo hi : Nat) (hl : l = (lo : Int)) (hh : h = (hi : Int)) (h1 : lo ≤ hi) (h2 : hi ≤ cap) (w : World) :
    (Instr.sliceAt t (.slice x len cap) (some (.int k l)) (some (.int k' h)) none).run P w = .ok (.slice (subA x cap lo sz) (hi - lo) (cap - lo)) w := by
  subst hl; subst hh
  obtain ⟨hu, i, hi', hz, hs, hb, _⟩ := sI_spec ht
  have hel : P.underlying t = some (.slice (P.elem t)) := by
    have : P.elem t = e := by simp [Program.elem, hu]
    rw [this]; exact hu
  have hie : P.elem t = e := by simp [Program.elem, hu]
  rw [run_sliceAt_slice w t _ _ _ _ hel, run_slice_lh w t x len cap hel k k' lo hi (by omega) (by omega) (by omega), hie]
  simp only [sizeOf, typeInfo, Sem.run_bind, hi']
  simp [sliced, hi', subA, hs]
theorem slice_hiI {t e : TypeId} {z : Value} {sz by_ : Nat} (ht : sI P t = some (e, z, sz, by_)) {x : Option Addr} {len cap : Nat} {h : Int} {k' : IntKind} (hi : Nat) (hh : h = (hi : Int)) (h2 : hi ≤ cap) (w : World) :
    (Instr.sliceAt t (.slice x len cap) none (some (.int k' h)) none).run P w = .ok (.slice (subA x cap 0 sz) hi cap) w := by
  subst hh
  obtain ⟨hu, i, hi', hz, hs, hb, _⟩ := sI_spec ht
  have hel : P.underlying t = some (.slice (P.elem t)) := by
    have : P.elem t = e := by simp [Program.elem, hu]
    rw [this]; exact hu
  have hie : P.elem t = e := by simp [Program.elem, hu]
  rw [run_sliceAt_slice w t _ _ _ _ hel, run_slice_h w t x len cap hel k' hi (by omega) (by omega), hie]
  simp only [sizeOf, typeInfo, Sem.run_bind, hi']
  simp [sliced, hi', subA, hs]
theorem slice_loI {t e : TypeId} {z : Value} {sz by_ : Nat} (ht : sI P t = some (e, z, sz, by_)) {x : Option Addr} {len cap : Nat} {l : Int} {k' : IntKind} (lo : Nat) (hl : l = (lo : Int)) (h2 : lo ≤ len) (w : World) :
    (Instr.sliceAt t (.slice x len cap) (some (.int k' l)) none none).run P w = .ok (.slice (subA x cap lo sz) (len - lo) (cap - lo)) w := by
  subst hl
  obtain ⟨hu, i, hi', hz, hs, hb, _⟩ := sI_spec ht
  have hel : P.underlying t = some (.slice (P.elem t)) := by
    have : P.elem t = e := by simp [Program.elem, hu]
    rw [this]; exact hu
  have hie : P.elem t = e := by simp [Program.elem, hu]
  rw [run_sliceAt_slice w t _ _ _ _ hel, run_slice_l w t x len cap hel k' lo (by omega) (by omega), hie]
  simp only [sizeOf, typeInfo, Sem.run_bind, hi']
  simp [sliced, hi', subA, hs]
theorem add_add1 (b o j : Nat) : (⟨b, o, none⟩ : Addr).add (j * 1) = ⟨b, o + j, none⟩ := by rw [Nat.mul_one]; exact add_plain b o j
theorem Rd.sub {x : Option Addr} {xs : List Value} (h : Rd w0 D R x xs) {cap lo hi : Nat} (h1 : lo ≤ hi) (h2 : hi ≤ cap) : Rd w0 D R (subA x cap lo 1) ((xs.drop lo).take (hi - lo)) := by
  unfold subA
  by_cases hc : cap = lo
  · rw [if_pos hc]
    have : hi - lo = 0 := by omega
    rw [this]
    exact .inl (by simp)
  · rw [if_neg hc]
    rcases h with h | ⟨b, o, rfl, h⟩
    · exact .inl (by simp [h])
    · refine .inr ⟨b, o + lo, by simp [add_plain], fun L' w' H j v hj => ?_⟩
      rw [List.getElem?_take] at hj
      split at hj
      · rw [List.getElem?_drop] at hj
        have := h L' w' H (lo + j) v hj
        rwa [← Nat.add_assoc] at this
      · cases hj
theorem Rd.sub0 {x : Option Addr} {xs : List Value} (h : Rd w0 D R x xs) {cap hi : Nat} (h2 : hi ≤ cap) : Rd w0 D R (subA x cap 0 1) (xs.take hi) := by
  have := h.sub (Nat.zero_le hi) h2
  simpa using this
theorem Rd.eq {x : Option Addr} {xs ys : List Value} (h : Rd w0 D R x xs) (e : xs = ys) : Rd w0 D R x ys := e ▸ h
theorem conv_text {x : Option Addr} {l : List UInt8} (h : Rd w0 D R x (l.map byteV)) {L' : List Ent} (H : Hp w0 D (L' ++ R) w) {src ds e : TypeId} (hs : P.underlying src = some (.slice e)) (he : P.underlying e = some (.int .u8)) (hd : P.underlying ds = some .string) (c : Nat) :
    (convert src ds (.slice x l.length c)).run P w = .ok (.string ⟨l.toArray⟩) w := by
  cases x with
  | none =>
    have h0 := h.nil rfl
    have : l = [] := by simpa using h0
    subst this
    simp [convert, run_underlying hs, run_underlying hd, run_underlying he, Conv.bytesToString]
    rfl
  | some A =>
    refine run_convert_bytes_back w src ds e A c l hs he hd fun j hj => ?_
    exact h.news L' H A rfl j _ (by simp [List.getElem?_eq_getElem hj, byteV])
theorem run_b2sR {x : Option Addr} {l : List UInt8} {n c : Nat} (h : Rd w0 D R x (l.map byteV)) {L' : List Ent} (H : Hp w0 D (L' ++ R) w) {src ds e ty : TypeId} {dst : Option Tmp} {va : Operand} {pos : String} {af : Array Edge} {g : Option (Nat × Bool)}
    (hx : a.eval va = .slice x n c) (hn : n = l.length) (hs : P.underlying src = some (.slice e)) (he : P.underlying e = some (.int .u8)) (hd : P.underlying ds = some .string) :
    (execOp a.eval ⟨dst, .convert src ds va, ty, pos, af, g⟩).run P w = .ok (.value (.string ⟨l.toArray⟩)) w := by
  subst hn
  simp only [execOp, hx, Sem.run_bind, Sem.run_pure, Result.andThen_ok, conv_text h H hs he hd]
end
end Go.Gx
