/- NetPlays: what an act makes of a net, and what stays so behind any acts. No program in sight. -/
import Derived.Test.YtajconlnacbmjaaKeep
set_option linter.unusedVariables false
set_option linter.unusedSimpArgs false
namespace Go.Gx.Net
open Go.Gx Go.RowKit
/-- an act -/
def St.act (s : St) (kind a b : Int) (t : ByteArray) (on : Bool) : St :=
  if kind = 0 then (s.send a b t).1 else if kind = 1 then (s.deliver a).1 else if kind = 2 then (s.drop a).1 else if kind = 3 then (s.double a).1
  else if kind = 4 then (s.move a b).1 else if kind = 5 then (s.hold a b).1 else if kind = 6 then s.tick else if kind = 7 then (s.cutS a b on).1 else s
structure PI (s : St) (k : Nat) : Prop where
  ok : s.ok
  fl : s.fl.length ≤ k
  hd : s.hd.length ≤ k
theorem PI.zero : PI St.zero 0 := ⟨fun p hp => by simp [St.zero] at hp, Nat.le_refl _, Nat.le_refl _⟩
theorem PI.mono {s : St} {k : Nat} (h : PI s k) : PI s (k + 1) := ⟨h.ok, by have := h.fl; omega, by have := h.hd; omega⟩
theorem ok_fly {s : St} (h : s.ok) {p : Pk} (hp : linkB p.src p.dst = true) : (s.fly p).ok := by
  intro q hq
  rcases List.mem_append.1 hq with hq | hq
  · exact h q hq
  · rw [List.mem_singleton.1 hq]; exact ⟨hp, by show (0 : Int) ≤ 0; decide, by show (0 : Int) ≤ 1000; decide⟩
theorem PI.send {s : St} {k : Nat} (h : PI s k) (a b : Int) (t : ByteArray) : PI (s.send a b t).1 (k + 1) := by
  unfold St.send
  split
  · exact h.mono
  rename_i hl
  split
  · exact h.mono
  split
  · exact h.mono
  refine ⟨?_, ?_, ?_⟩
  · exact ok_fly (p := ⟨0, a, b, t, 0⟩) h.ok (by simpa using hl)
  · show (s.fl ++ [_]).length ≤ k + 1
    have := h.fl; simp; omega
  · show (s.hd ++ [_]).length ≤ k + 1
    have := h.hd; simp; omega
theorem PI.out {s : St} {k : Nat} (h : PI s k) (i : Int) : PI (s.out i) (k + 1) :=
  ⟨out_ok h.ok i, by
    have h1 := h.fl
    have h2 : (s.fl.eraseIdx i.toNat).length ≤ s.fl.length := by rw [List.length_eraseIdx]; split <;> omega
    show (s.fl.eraseIdx i.toNat).length ≤ k + 1
    omega, by have := h.hd; show s.hd.length ≤ k + 1; omega⟩
theorem PI.deliver {s : St} {k : Nat} (h : PI s k) (a : Int) : PI (s.deliver a).1 (k + 1) := by
  unfold St.deliver
  split
  · exact h.mono
  · exact ⟨(h.out a).ok, (h.out a).fl, (h.out a).hd⟩
theorem PI.drop {s : St} {k : Nat} (h : PI s k) (a : Int) : PI (s.drop a).1 (k + 1) := by
  unfold St.drop
  split
  · exact h.mono
  · exact h.out a
theorem PI.double {s : St} {k : Nat} (h : PI s k) (a : Int) : PI (s.double a).1 (k + 1) := by
  unfold St.double
  split
  · exact h.mono
  rename_i hp
  split
  · exact h.mono
  refine ⟨ok_fly h.ok (h.ok _ (pk_mem (by simpa using hp)).1).1, ?_, ?_⟩
  · show (s.fl ++ [_]).length ≤ k + 1
    have := h.fl; simp; omega
  · have := h.hd; show s.hd.length ≤ k + 1; omega
theorem PI.move {s : St} {k : Nat} (h : PI s k) (i j : Int) : PI (s.move i j).1 (k + 1) := by
  unfold St.move
  split
  · exact h.mono
  rename_i h1
  have h1 : placeB s i = true ∧ placeB s j = true := by
    constructor
    · cases hp : placeB s i <;> simp_all
    · cases hp : placeB s j <;> simp_all
  have hj := (pk_mem h1.2).2.2
  have hi := (pk_mem h1.1).2.2
  have hpm : ((s.fl.eraseIdx i.toNat).insertIdx j.toNat (s.pk i)).Perm (s.pk i :: s.fl.eraseIdx i.toNat) := List.perm_insertIdx _ _ (by rw [List.length_eraseIdx_of_lt hi]; omega)
  refine ⟨?_, ?_, by have := h.hd; show s.hd.length ≤ k + 1; omega⟩
  · intro p hp
    have := hpm.mem_iff.1 hp
    rcases List.mem_cons.1 this with rfl | hp
    · exact h.ok _ (pk_mem h1.1).1
    · exact h.ok p (List.mem_of_mem_eraseIdx hp)
  · show ((s.fl.eraseIdx i.toNat).insertIdx j.toNat (s.pk i)).length ≤ k + 1
    rw [hpm.length_eq, List.length_cons, List.length_eraseIdx_of_lt hi]
    have := h.fl; omega
theorem PI.hold {s : St} {k : Nat} (h : PI s k) (i n : Int) : PI (s.hold i n).1 (k + 1) := by
  unfold St.hold
  split
  · exact h.mono
  rename_i h1
  split
  · exact h.mono
  rename_i h2
  have h1 : placeB s i = true := by simpa using h1
  refine ⟨?_, by show (s.fl.set _ _).length ≤ k + 1; rw [List.length_set]; have := h.fl; omega, by have := h.hd; show s.hd.length ≤ k + 1; omega⟩
  intro p hp
  rcases List.mem_or_eq_of_mem_set hp with hp | rfl
  · exact h.ok p hp
  · exact ⟨(h.ok _ (pk_mem h1).1).1, by show 0 ≤ n; omega, by show n ≤ 1000; omega⟩
theorem PI.tick {s : St} {k : Nat} (h : PI s k) : PI s.tick (k + 1) := by
  refine ⟨?_, by show (s.fl.map _).length ≤ k + 1; rw [List.length_map]; have := h.fl; omega, by have := h.hd; show s.hd.length ≤ k + 1; omega⟩
  intro p hp
  obtain ⟨q, hq, rfl⟩ := List.mem_map.1 hp
  have := h.ok q hq
  refine ⟨this.1, ?_, ?_⟩
  · show 0 ≤ max (q.held - 1) 0; omega
  · show max (q.held - 1) 0 ≤ 1000; omega
theorem PI.cutS {s : St} {k : Nat} (h : PI s k) (a b : Int) (c : Bool) : PI (s.cutS a b c).1 (k + 1) := by
  unfold St.cutS
  split
  · exact h.mono
  · exact ⟨h.ok, by have := h.fl; show s.fl.length ≤ k + 1; omega, by have := h.hd; show s.hd.length ≤ k + 1; omega⟩
theorem PI.act {s : St} {k : Nat} (h : PI s k) (kind a b : Int) (t : ByteArray) (on : Bool) : PI (s.act kind a b t on) (k + 1) := by
  unfold St.act
  split
  · exact h.send a b t
  split
  · exact h.deliver a
  split
  · exact h.drop a
  split
  · exact h.double a
  split
  · exact h.move a b
  split
  · exact h.hold a b
  split
  · exact h.tick
  split
  · exact h.cutS a b on
  · exact h.mono
end Go.Gx.Net
