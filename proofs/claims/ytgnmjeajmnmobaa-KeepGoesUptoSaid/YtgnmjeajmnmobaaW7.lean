/- What functions of layer 4 compute. -/
import Derived.Test.YtgnmjeajmnmobaaW6
import Derived.Test.YtgnmjeajmnmobaaGxRfC
import Derived.TacticsInMore
import Derived.Shelf.Abstract
import Derived.WalkKit
import Derived.Lib.Hide
import Derived.Deep.LoopGhost
import Derived.WalkSpells
set_option linter.unusedVariables false
set_option linter.unusedSimpArgs false
namespace Go.Proofs.Ytgnmjeajmnmobaa
open Go.RowKit Go.Gx Go.Gx.Kp
set_option maxRecDepth 100000
attribute [local go_sem] Oper.semAt_some
theorem RoundIn.anyW {m m' : Nat} {P : Program} {l : Nat} {f : FuncId} {tmps : Array Value} {assign body : Code} {w : World} {R : Ending → World → Prop}
    (h : RoundIn Fence.wide m P l f tmps assign body w R) : RoundIn Fence.wide m' P l f tmps assign body w R := ⟨h.1, fun c cs _ => h.2 c cs room0⟩
theorem YieldAt.mono' {m : Nat} {P : Program} {l : Nat} {args : Array Value} {W : World} {R R' : Ending → World → Prop} (h : YieldAt Fence.wide m P l args W R) (hr : ∀ e u, R e u → R' e u) : YieldAt Fence.wide m P l args W R' := by
  obtain ⟨fn, tmps, assign, body, hy, hR⟩ := h
  exact ⟨fn, tmps, assign, body, hy, hR.mono hr⟩
theorem callsIn_any {m m' : Nat} {P : Program} {f : FuncId} {args : Array Value} {w : World} {R : Ending → World → Prop} (h : CallsIn Fence.wide m P f args w R) : CallsIn Fence.wide m' P f args w R := callsIn_wide.2 (callsIn_wide.1 h)
set_option maxRecDepth 100000 in
set_option maxHeartbeats 4000000 in
theorem OverS_in (l : Nat) {w0 : World} {D : Nat → Prop} {Z : List Ent} (J Jx : List (ByteArray × Int) → World → Prop) (full : List (ByteArray × Int))
    (hJS : ∀ pre u, J pre u → Hp w0 D Z u) (hg : ∀ pre u u', J pre u → Grow u u' → J pre u') (hxg : ∀ pre u u', Jx pre u → Grow u u' → Jx pre u')
    (hY : ∀ pre x post u, full = pre ++ x :: post → J pre u → YieldAt Fence.wide 0 Try.prog l #[.string x.1, .int .i64 x.2] u fun e u' => (e = .returned (.bool true) ∧ J (pre ++ [x]) u') ∨ (e = .returned (.bool false) ∧ Jx (pre ++ [x]) u')) :
    ∀ (t : T ByteArray Int) (p : Option Nat) (pre post : List (ByteArray × Int)) (W : World), Td hS w0 D Z t p → full = pre ++ (t.list ++ post) → J pre W →
      CallsIn Fence.wide 0 Try.prog 64 #[ptr p, .func (.yield l) #[] #[]] W fun e W' => (e = .returned (.bool true) ∧ J (pre ++ t.list) W') ∨ (e = .returned (.bool false) ∧ ∃ q r, full = q ++ r ∧ Jx q W') := by
  intro t
  induction t with
  | nil =>
    intro p pre post W ht hfull hJ
    obtain rfl : p = none := ht
    have hJ0 : J pre W.drew := hg _ _ _ hJ (Grow.drew W)
    refine callsIn_of_wp Try.func64 rfl trivial ?_ rfl
    simp only [ptr_none, Try.ntmps64, List.size_toArray, List.length_cons, List.length_nil, Nat.reduceAdd, Nat.reduceSub, Array.replicate_succ, Array.replicate_zero, List.push_toArray, List.append_toArray, List.nil_append, List.cons_append]
    gi_wp2
    refine wpC_region rfl ?_
    refine cTake 0 rfl (by decide +kernel) rfl (by intro u; go_simp; first | rfl | done) (by intro u; rfl) ?_; (try simp only [Act.put, List.setIfInBounds_toArray, List.set_cons_succ, List.set_cons_zero])
    refine cTake 1 rfl (by decide +kernel) rfl (by intro u; go_simp; first | rfl | done) (by intro u; rfl) ?_; (try simp only [Act.put, List.setIfInBounds_toArray, List.set_cons_succ, List.set_cons_zero])
    refine cTake 2 rfl (by decide +kernel) rfl (by intro u; go_simp; first | rfl | done) (by intro u; rfl) ?_; (try simp only [Act.put, List.setIfInBounds_toArray, List.set_cons_succ, List.set_cons_zero])
    refine cSkip 3 rfl (by decide +kernel) rfl (by intro u; rfl) ?_; (try simp only [Act.put, List.setIfInBounds_toArray, List.set_cons_succ, List.set_cons_zero])
    refine cSkip 7 rfl (by decide +kernel) rfl (by intro u; rfl) ?_; (try simp only [Act.put, List.setIfInBounds_toArray, List.set_cons_succ, List.set_cons_zero])
    refine cSkip 4 rfl (by decide +kernel) rfl (by intro u; rfl) ?_; (try simp only [Act.put, List.setIfInBounds_toArray, List.set_cons_succ, List.set_cons_zero])
    refine cSkip 5 rfl (by decide +kernel) rfl (by intro u; rfl) ?_; (try simp only [Act.put, List.setIfInBounds_toArray, List.set_cons_succ, List.set_cons_zero])
    refine cSkip 6 rfl (by decide +kernel) rfl (by intro u; rfl) ?_; (try simp only [Act.put, List.setIfInBounds_toArray, List.set_cons_succ, List.set_cons_zero])
    refine cSkip1 8 (by decide +kernel) rfl rfl ?_; (try simp only [Act.put, List.setIfInBounds_toArray, List.set_cons_succ, List.set_cons_zero])
    refine cSkip 9 rfl (by decide +kernel) rfl (by intro u; rfl) ?_; (try simp only [Act.put, List.setIfInBounds_toArray, List.set_cons_succ, List.set_cons_zero])
    refine cSkip 10 rfl (by decide +kernel) rfl (by intro u; rfl) ?_; (try simp only [Act.put, List.setIfInBounds_toArray, List.set_cons_succ, List.set_cons_zero])
    refine cSkip 11 rfl (by decide +kernel) rfl (by intro u; rfl) ?_; (try simp only [Act.put, List.setIfInBounds_toArray, List.set_cons_succ, List.set_cons_zero])
    refine cSkip 15 rfl (by decide +kernel) rfl (by intro u; rfl) ?_; (try simp only [Act.put, List.setIfInBounds_toArray, List.set_cons_succ, List.set_cons_zero])
    refine cSkip 12 rfl (by decide +kernel) rfl (by intro u; rfl) ?_; (try simp only [Act.put, List.setIfInBounds_toArray, List.set_cons_succ, List.set_cons_zero])
    refine cSkip 16 rfl (by decide +kernel) rfl (by intro u; rfl) ?_; (try simp only [Act.put, List.setIfInBounds_toArray, List.set_cons_succ, List.set_cons_zero])
    refine cSkip 13 rfl (by decide +kernel) rfl (by intro u; rfl) ?_; (try simp only [Act.put, List.setIfInBounds_toArray, List.set_cons_succ, List.set_cons_zero])
    refine cSkip 17 rfl (by decide +kernel) rfl (by intro u; rfl) ?_; (try simp only [Act.put, List.setIfInBounds_toArray, List.set_cons_succ, List.set_cons_zero])
    refine cSkip 14 rfl (by decide +kernel) rfl (by intro u; rfl) ?_; (try simp only [Act.put, List.setIfInBounds_toArray, List.set_cons_succ, List.set_cons_zero])
    refine cSkip 18 rfl (by decide +kernel) rfl (by intro u; rfl) ?_; (try simp only [Act.put, List.setIfInBounds_toArray, List.set_cons_succ, List.set_cons_zero])
    refine cSkip1 19 (by decide +kernel) rfl rfl ?_; (try simp only [Act.put, List.setIfInBounds_toArray, List.set_cons_succ, List.set_cons_zero])
    refine cSkip 20 rfl (by decide +kernel) rfl (by intro u; rfl) ?_; (try simp only [Act.put, List.setIfInBounds_toArray, List.set_cons_succ, List.set_cons_zero])
    refine cSkip 21 rfl (by decide +kernel) rfl (by intro u; rfl) ?_; (try simp only [Act.put, List.setIfInBounds_toArray, List.set_cons_succ, List.set_cons_zero])
    refine cSkip 22 rfl (by decide +kernel) rfl (by intro u; rfl) ?_; (try simp only [Act.put, List.setIfInBounds_toArray, List.set_cons_succ, List.set_cons_zero])
    refine cSkip 26 rfl (by decide +kernel) rfl (by intro u; rfl) ?_; (try simp only [Act.put, List.setIfInBounds_toArray, List.set_cons_succ, List.set_cons_zero])
    refine cSkip 23 rfl (by decide +kernel) rfl (by intro u; rfl) ?_; (try simp only [Act.put, List.setIfInBounds_toArray, List.set_cons_succ, List.set_cons_zero])
    refine cSkip 24 rfl (by decide +kernel) rfl (by intro u; rfl) ?_; (try simp only [Act.put, List.setIfInBounds_toArray, List.set_cons_succ, List.set_cons_zero])
    refine cSkip 25 rfl (by decide +kernel) rfl (by intro u; rfl) ?_; (try simp only [Act.put, List.setIfInBounds_toArray, List.set_cons_succ, List.set_cons_zero])
    refine cSkip1 27 (by decide +kernel) rfl rfl ?_; (try simp only [Act.put, List.setIfInBounds_toArray, List.set_cons_succ, List.set_cons_zero])
    refine cSkip 28 rfl (by decide +kernel) rfl (by intro u; rfl) ?_; (try simp only [Act.put, List.setIfInBounds_toArray, List.set_cons_succ, List.set_cons_zero])
    refine cTake 29 rfl (by decide +kernel) rfl (by intro u; go_simp; first | rfl | done) (by intro u; rfl) ?_; (try simp only [Act.put, List.setIfInBounds_toArray, List.set_cons_succ, List.set_cons_zero])
    refine cTake 30 rfl (by decide +kernel) rfl (by intro u; go_simp; first | rfl | done) (by intro u; rfl) ?_; (try simp only [Act.put, List.setIfInBounds_toArray, List.set_cons_succ, List.set_cons_zero])
    refine cDone (by decide +kernel) ?_
    gi_wp2
    go_ret; exact .inl ⟨rfl, by simpa [T.list] using hJ0⟩
  | node k v b a ihb iha =>
    intro p pre post W ht hfull hJ
    obtain ⟨q, pb, pa, rfl, r, hb, ha⟩ := ht
    have hR := r.cells
    have hf1 : full = pre ++ (b.list ++ ((k, v) :: (a.list ++ post))) := by rw [hfull]; simp [T.list]
    have hL := fun u hu => ihb pb pre _ u hb hf1 hu
    have hYk := fun u hu => hY (pre ++ b.list) (k, v) (a.list ++ post) u (by rw [hf1]; simp) hu
    have hRt := fun u hu => iha pa (pre ++ b.list ++ [(k, v)]) post u ha (by rw [hf1]; simp) hu
    have hJ0 : J pre W.drew := hg _ _ _ hJ (Grow.drew W)
    have eJ : pre ++ b.list ++ [(k, v)] ++ a.list = pre ++ (T.node k v b a).list := by simp [T.list]
    clear hfull ihb iha
    refine callsIn_of_wp Try.func64 rfl trivial ?_ rfl
    simp only [ptr_some, Try.ntmps64, List.size_toArray, List.length_cons, List.length_nil, Nat.reduceAdd, Nat.reduceSub, Array.replicate_succ, Array.replicate_zero, List.push_toArray, List.append_toArray, List.nil_append, List.cons_append]
    gi_wp2
    refine wpC_region rfl ?_
    refine cTake 0 rfl (by decide +kernel) rfl (by intro u; go_simp; first | rfl | done) (by intro u; rfl) ?_; (try simp only [Act.put, List.setIfInBounds_toArray, List.set_cons_succ, List.set_cons_zero])
    refine cTake 1 rfl (by decide +kernel) rfl (by intro u; go_simp; first | rfl | done) (by intro u; rfl) ?_; (try simp only [Act.put, List.setIfInBounds_toArray, List.set_cons_succ, List.set_cons_zero])
    refine cTake 2 rfl (by decide +kernel) rfl (by intro u; go_simp; first | rfl | done) (by intro u; rfl) ?_; (try simp only [Act.put, List.setIfInBounds_toArray, List.set_cons_succ, List.set_cons_zero])
    refine cTake 3 rfl (by decide +kernel) rfl (by intro u; go_simp; first | rfl | done) (by intro u; rfl) ?_; (try simp only [Act.put, List.setIfInBounds_toArray, List.set_cons_succ, List.set_cons_zero])
    refine cTake 7 rfl (by decide +kernel) rfl (by intro u; go_simp; first | rfl | done) (by intro u; rfl) ?_; (try simp only [Act.put, List.setIfInBounds_toArray, List.set_cons_succ, List.set_cons_zero])
    refine cTake 4 rfl (by decide +kernel) rfl (by intro u; go_simp; first | rfl | done) (by intro u; rfl) ?_; (try simp only [Act.put, List.setIfInBounds_toArray, List.set_cons_succ, List.set_cons_zero])
    refine cTake 5 rfl (by decide +kernel) rfl (by intro u; go_simp; first | rfl | done) (by intro u; rfl) ?_; (try simp only [Act.put, List.setIfInBounds_toArray, List.set_cons_succ, List.set_cons_zero])
    refine cOne 6 (by decide +kernel) rfl rfl ?_
    refine c_run (run_ldR (k := 2) (hR [] _ (hJS _ _ hJ0)) rfl rfl T25 rfl) ?_; (try simp only [Act.put, List.setIfInBounds_toArray, List.set_cons_succ, List.set_cons_zero])
    refine cOne 8 (by decide +kernel) rfl rfl ?_
    refine c_call (by go_simp; try rfl) (hL _ hJ0) ?_
    rintro e W1 (⟨rfl, hJ1⟩ | ⟨rfl, hx1⟩)
    · refine ⟨_, rfl, ?_⟩; (try simp only [Act.put, List.setIfInBounds_toArray, List.set_cons_succ, List.set_cons_zero])
      refine cTake 9 rfl (by decide +kernel) rfl (by intro u; go_simp; first | rfl | done) (by intro u; rfl) ?_; (try simp only [Act.put, List.setIfInBounds_toArray, List.set_cons_succ, List.set_cons_zero])
      refine cTake 10 rfl (by decide +kernel) rfl (by intro u; go_simp; first | rfl | done) (by intro u; rfl) ?_; (try simp only [Act.put, List.setIfInBounds_toArray, List.set_cons_succ, List.set_cons_zero])
      refine cTake 11 rfl (by decide +kernel) rfl (by intro u; go_simp; first | rfl | done) (by intro u; rfl) ?_; (try simp only [Act.put, List.setIfInBounds_toArray, List.set_cons_succ, List.set_cons_zero])
      refine cTake 15 rfl (by decide +kernel) rfl (by intro u; go_simp; first | rfl | done) (by intro u; rfl) ?_; (try simp only [Act.put, List.setIfInBounds_toArray, List.set_cons_succ, List.set_cons_zero])
      refine cTake 12 rfl (by decide +kernel) rfl (by intro u; go_simp; first | rfl | done) (by intro u; rfl) ?_; (try simp only [Act.put, List.setIfInBounds_toArray, List.set_cons_succ, List.set_cons_zero])
      refine cTake 16 rfl (by decide +kernel) rfl (by intro u; go_simp; first | rfl | done) (by intro u; rfl) ?_; (try simp only [Act.put, List.setIfInBounds_toArray, List.set_cons_succ, List.set_cons_zero])
      refine cTake 13 rfl (by decide +kernel) rfl (by intro u; go_simp; first | rfl | done) (by intro u; rfl) ?_; (try simp only [Act.put, List.setIfInBounds_toArray, List.set_cons_succ, List.set_cons_zero])
      refine cTake 17 rfl (by decide +kernel) rfl (by intro u; go_simp; first | rfl | done) (by intro u; rfl) ?_; (try simp only [Act.put, List.setIfInBounds_toArray, List.set_cons_succ, List.set_cons_zero])
      refine cTwo 14 18 (by decide +kernel) rfl rfl rfl rfl ?_ ?_
      · skip
        refine c_run (run_ldR (k := 0) (hR [] _ (hJS _ _ hJ1)) rfl rfl T9 rfl) ?_; (try simp only [Act.put, List.setIfInBounds_toArray, List.set_cons_succ, List.set_cons_zero])
        refine cOne 18 (by decide +kernel) rfl rfl ?_
        refine c_run (run_ldR (k := 1) (hR [] _ (hJS _ _ hJ1)) rfl rfl T3 rfl) ?_; (try simp only [Act.put, List.setIfInBounds_toArray, List.set_cons_succ, List.set_cons_zero])
        refine cOne 19 (by decide +kernel) rfl rfl ?_
        obtain ⟨fn, tmps, assign, body, hy, hRd⟩ := hYk _ hJ1
        refine c_round (by go_simp; try exact hy) hRd ?_
        rintro e W2 (⟨rfl, hJ2⟩ | ⟨rfl, hx2⟩)
        · refine ⟨_, rfl, ?_⟩; (try simp only [Act.put, List.setIfInBounds_toArray, List.set_cons_succ, List.set_cons_zero])
          refine cTake 20 rfl (by decide +kernel) rfl (by intro u; go_simp; first | rfl | done) (by intro u; rfl) ?_; (try simp only [Act.put, List.setIfInBounds_toArray, List.set_cons_succ, List.set_cons_zero])
          refine cTake 21 rfl (by decide +kernel) rfl (by intro u; go_simp; first | rfl | done) (by intro u; rfl) ?_; (try simp only [Act.put, List.setIfInBounds_toArray, List.set_cons_succ, List.set_cons_zero])
          refine cTake 22 rfl (by decide +kernel) rfl (by intro u; go_simp; first | rfl | done) (by intro u; rfl) ?_; (try simp only [Act.put, List.setIfInBounds_toArray, List.set_cons_succ, List.set_cons_zero])
          refine cTake 26 rfl (by decide +kernel) rfl (by intro u; go_simp; first | rfl | done) (by intro u; rfl) ?_; (try simp only [Act.put, List.setIfInBounds_toArray, List.set_cons_succ, List.set_cons_zero])
          refine cTake 23 rfl (by decide +kernel) rfl (by intro u; go_simp; first | rfl | done) (by intro u; rfl) ?_; (try simp only [Act.put, List.setIfInBounds_toArray, List.set_cons_succ, List.set_cons_zero])
          refine cTake 24 rfl (by decide +kernel) rfl (by intro u; go_simp; first | rfl | done) (by intro u; rfl) ?_; (try simp only [Act.put, List.setIfInBounds_toArray, List.set_cons_succ, List.set_cons_zero])
          refine cOne 25 (by decide +kernel) rfl rfl ?_
          refine c_run (run_ldR (k := 3) (hR [] _ (hJS _ _ hJ2)) rfl rfl T25 rfl) ?_; (try simp only [Act.put, List.setIfInBounds_toArray, List.set_cons_succ, List.set_cons_zero])
          refine cOne 27 (by decide +kernel) rfl rfl ?_
          refine c_call (by go_simp; try rfl) (hRt _ hJ2) ?_
          rintro e W3 (⟨rfl, hJ3⟩ | ⟨rfl, hx3⟩)
          · refine ⟨_, rfl, ?_⟩; (try simp only [Act.put, List.setIfInBounds_toArray, List.set_cons_succ, List.set_cons_zero])
            refine cTake 28 rfl (by decide +kernel) rfl (by intro u; go_simp; first | rfl | done) (by intro u; rfl) ?_; (try simp only [Act.put, List.setIfInBounds_toArray, List.set_cons_succ, List.set_cons_zero])
            refine cTake 29 rfl (by decide +kernel) rfl (by intro u; go_simp; first | rfl | done) (by intro u; rfl) ?_; (try simp only [Act.put, List.setIfInBounds_toArray, List.set_cons_succ, List.set_cons_zero])
            refine cTake 30 rfl (by decide +kernel) rfl (by intro u; go_simp; first | rfl | done) (by intro u; rfl) ?_; (try simp only [Act.put, List.setIfInBounds_toArray, List.set_cons_succ, List.set_cons_zero])
            refine cDone (by decide +kernel) ?_
            gi_wp2
            go_ret; exact .inl ⟨rfl, by rw [← eJ]; exact hJ3⟩
          · refine ⟨_, rfl, ?_⟩; (try simp only [Act.put, List.setIfInBounds_toArray, List.set_cons_succ, List.set_cons_zero])
            refine cTake 28 rfl (by decide +kernel) rfl (by intro u; go_simp; first | rfl | done) (by intro u; rfl) ?_; (try simp only [Act.put, List.setIfInBounds_toArray, List.set_cons_succ, List.set_cons_zero])
            refine cTake 29 rfl (by decide +kernel) rfl (by intro u; go_simp; first | rfl | done) (by intro u; rfl) ?_; (try simp only [Act.put, List.setIfInBounds_toArray, List.set_cons_succ, List.set_cons_zero])
            refine cTake 30 rfl (by decide +kernel) rfl (by intro u; go_simp; first | rfl | done) (by intro u; rfl) ?_; (try simp only [Act.put, List.setIfInBounds_toArray, List.set_cons_succ, List.set_cons_zero])
            refine cDone (by decide +kernel) ?_
            gi_wp2
            go_ret; exact .inr ⟨rfl, hx3⟩
        · refine ⟨_, rfl, ?_⟩; (try simp only [Act.put, List.setIfInBounds_toArray, List.set_cons_succ, List.set_cons_zero])
          refine cTake 20 rfl (by decide +kernel) rfl (by intro u; go_simp; first | rfl | done) (by intro u; rfl) ?_; (try simp only [Act.put, List.setIfInBounds_toArray, List.set_cons_succ, List.set_cons_zero])
          refine cTake 21 rfl (by decide +kernel) rfl (by intro u; go_simp; first | rfl | done) (by intro u; rfl) ?_; (try simp only [Act.put, List.setIfInBounds_toArray, List.set_cons_succ, List.set_cons_zero])
          refine cSkip 22 rfl (by decide +kernel) rfl (by intro u; rfl) ?_; (try simp only [Act.put, List.setIfInBounds_toArray, List.set_cons_succ, List.set_cons_zero])
          refine cSkip 26 rfl (by decide +kernel) rfl (by intro u; rfl) ?_; (try simp only [Act.put, List.setIfInBounds_toArray, List.set_cons_succ, List.set_cons_zero])
          refine cSkip 23 rfl (by decide +kernel) rfl (by intro u; rfl) ?_; (try simp only [Act.put, List.setIfInBounds_toArray, List.set_cons_succ, List.set_cons_zero])
          refine cSkip 24 rfl (by decide +kernel) rfl (by intro u; rfl) ?_; (try simp only [Act.put, List.setIfInBounds_toArray, List.set_cons_succ, List.set_cons_zero])
          refine cSkip 25 rfl (by decide +kernel) rfl (by intro u; rfl) ?_; (try simp only [Act.put, List.setIfInBounds_toArray, List.set_cons_succ, List.set_cons_zero])
          refine cSkip1 27 (by decide +kernel) rfl rfl ?_; (try simp only [Act.put, List.setIfInBounds_toArray, List.set_cons_succ, List.set_cons_zero])
          refine cTake 28 rfl (by decide +kernel) rfl (by intro u; go_simp; first | rfl | done) (by intro u; rfl) ?_; (try simp only [Act.put, List.setIfInBounds_toArray, List.set_cons_succ, List.set_cons_zero])
          refine cTake 29 rfl (by decide +kernel) rfl (by intro u; go_simp; first | rfl | done) (by intro u; rfl) ?_; (try simp only [Act.put, List.setIfInBounds_toArray, List.set_cons_succ, List.set_cons_zero])
          refine cTake 30 rfl (by decide +kernel) rfl (by intro u; go_simp; first | rfl | done) (by intro u; rfl) ?_; (try simp only [Act.put, List.setIfInBounds_toArray, List.set_cons_succ, List.set_cons_zero])
          refine cDone (by decide +kernel) ?_
          gi_wp2
          go_ret; exact .inr ⟨rfl, _, a.list ++ post, by rw [hf1]; simp, hx2⟩
      · skip
        refine c_run (run_ldR (k := 1) (hR [] _ (hJS _ _ hJ1)) rfl rfl T3 rfl) ?_; (try simp only [Act.put, List.setIfInBounds_toArray, List.set_cons_succ, List.set_cons_zero])
        refine cOne 14 (by decide +kernel) rfl rfl ?_
        refine c_run (run_ldR (k := 0) (hR [] _ (hJS _ _ hJ1)) rfl rfl T9 rfl) ?_; (try simp only [Act.put, List.setIfInBounds_toArray, List.set_cons_succ, List.set_cons_zero])
        refine cOne 19 (by decide +kernel) rfl rfl ?_
        obtain ⟨fn, tmps, assign, body, hy, hRd⟩ := hYk _ hJ1
        refine c_round (by go_simp; try exact hy) hRd ?_
        rintro e W2 (⟨rfl, hJ2⟩ | ⟨rfl, hx2⟩)
        · refine ⟨_, rfl, ?_⟩; (try simp only [Act.put, List.setIfInBounds_toArray, List.set_cons_succ, List.set_cons_zero])
          refine cTake 20 rfl (by decide +kernel) rfl (by intro u; go_simp; first | rfl | done) (by intro u; rfl) ?_; (try simp only [Act.put, List.setIfInBounds_toArray, List.set_cons_succ, List.set_cons_zero])
          refine cTake 21 rfl (by decide +kernel) rfl (by intro u; go_simp; first | rfl | done) (by intro u; rfl) ?_; (try simp only [Act.put, List.setIfInBounds_toArray, List.set_cons_succ, List.set_cons_zero])
          refine cTake 22 rfl (by decide +kernel) rfl (by intro u; go_simp; first | rfl | done) (by intro u; rfl) ?_; (try simp only [Act.put, List.setIfInBounds_toArray, List.set_cons_succ, List.set_cons_zero])
          refine cTake 26 rfl (by decide +kernel) rfl (by intro u; go_simp; first | rfl | done) (by intro u; rfl) ?_; (try simp only [Act.put, List.setIfInBounds_toArray, List.set_cons_succ, List.set_cons_zero])
          refine cTake 23 rfl (by decide +kernel) rfl (by intro u; go_simp; first | rfl | done) (by intro u; rfl) ?_; (try simp only [Act.put, List.setIfInBounds_toArray, List.set_cons_succ, List.set_cons_zero])
          refine cTake 24 rfl (by decide +kernel) rfl (by intro u; go_simp; first | rfl | done) (by intro u; rfl) ?_; (try simp only [Act.put, List.setIfInBounds_toArray, List.set_cons_succ, List.set_cons_zero])
          refine cOne 25 (by decide +kernel) rfl rfl ?_
          refine c_run (run_ldR (k := 3) (hR [] _ (hJS _ _ hJ2)) rfl rfl T25 rfl) ?_; (try simp only [Act.put, List.setIfInBounds_toArray, List.set_cons_succ, List.set_cons_zero])
          refine cOne 27 (by decide +kernel) rfl rfl ?_
          refine c_call (by go_simp; try rfl) (hRt _ hJ2) ?_
          rintro e W3 (⟨rfl, hJ3⟩ | ⟨rfl, hx3⟩)
          · refine ⟨_, rfl, ?_⟩; (try simp only [Act.put, List.setIfInBounds_toArray, List.set_cons_succ, List.set_cons_zero])
            refine cTake 28 rfl (by decide +kernel) rfl (by intro u; go_simp; first | rfl | done) (by intro u; rfl) ?_; (try simp only [Act.put, List.setIfInBounds_toArray, List.set_cons_succ, List.set_cons_zero])
            refine cTake 29 rfl (by decide +kernel) rfl (by intro u; go_simp; first | rfl | done) (by intro u; rfl) ?_; (try simp only [Act.put, List.setIfInBounds_toArray, List.set_cons_succ, List.set_cons_zero])
            refine cTake 30 rfl (by decide +kernel) rfl (by intro u; go_simp; first | rfl | done) (by intro u; rfl) ?_; (try simp only [Act.put, List.setIfInBounds_toArray, List.set_cons_succ, List.set_cons_zero])
            refine cDone (by decide +kernel) ?_
            gi_wp2
            go_ret; exact .inl ⟨rfl, by rw [← eJ]; exact hJ3⟩
          · refine ⟨_, rfl, ?_⟩; (try simp only [Act.put, List.setIfInBounds_toArray, List.set_cons_succ, List.set_cons_zero])
            refine cTake 28 rfl (by decide +kernel) rfl (by intro u; go_simp; first | rfl | done) (by intro u; rfl) ?_; (try simp only [Act.put, List.setIfInBounds_toArray, List.set_cons_succ, List.set_cons_zero])
            refine cTake 29 rfl (by decide +kernel) rfl (by intro u; go_simp; first | rfl | done) (by intro u; rfl) ?_; (try simp only [Act.put, List.setIfInBounds_toArray, List.set_cons_succ, List.set_cons_zero])
            refine cTake 30 rfl (by decide +kernel) rfl (by intro u; go_simp; first | rfl | done) (by intro u; rfl) ?_; (try simp only [Act.put, List.setIfInBounds_toArray, List.set_cons_succ, List.set_cons_zero])
            refine cDone (by decide +kernel) ?_
            gi_wp2
            go_ret; exact .inr ⟨rfl, hx3⟩
        · refine ⟨_, rfl, ?_⟩; (try simp only [Act.put, List.setIfInBounds_toArray, List.set_cons_succ, List.set_cons_zero])
          refine cTake 20 rfl (by decide +kernel) rfl (by intro u; go_simp; first | rfl | done) (by intro u; rfl) ?_; (try simp only [Act.put, List.setIfInBounds_toArray, List.set_cons_succ, List.set_cons_zero])
          refine cTake 21 rfl (by decide +kernel) rfl (by intro u; go_simp; first | rfl | done) (by intro u; rfl) ?_; (try simp only [Act.put, List.setIfInBounds_toArray, List.set_cons_succ, List.set_cons_zero])
          refine cSkip 22 rfl (by decide +kernel) rfl (by intro u; rfl) ?_; (try simp only [Act.put, List.setIfInBounds_toArray, List.set_cons_succ, List.set_cons_zero])
          refine cSkip 26 rfl (by decide +kernel) rfl (by intro u; rfl) ?_; (try simp only [Act.put, List.setIfInBounds_toArray, List.set_cons_succ, List.set_cons_zero])
          refine cSkip 23 rfl (by decide +kernel) rfl (by intro u; rfl) ?_; (try simp only [Act.put, List.setIfInBounds_toArray, List.set_cons_succ, List.set_cons_zero])
          refine cSkip 24 rfl (by decide +kernel) rfl (by intro u; rfl) ?_; (try simp only [Act.put, List.setIfInBounds_toArray, List.set_cons_succ, List.set_cons_zero])
          refine cSkip 25 rfl (by decide +kernel) rfl (by intro u; rfl) ?_; (try simp only [Act.put, List.setIfInBounds_toArray, List.set_cons_succ, List.set_cons_zero])
          refine cSkip1 27 (by decide +kernel) rfl rfl ?_; (try simp only [Act.put, List.setIfInBounds_toArray, List.set_cons_succ, List.set_cons_zero])
          refine cTake 28 rfl (by decide +kernel) rfl (by intro u; go_simp; first | rfl | done) (by intro u; rfl) ?_; (try simp only [Act.put, List.setIfInBounds_toArray, List.set_cons_succ, List.set_cons_zero])
          refine cTake 29 rfl (by decide +kernel) rfl (by intro u; go_simp; first | rfl | done) (by intro u; rfl) ?_; (try simp only [Act.put, List.setIfInBounds_toArray, List.set_cons_succ, List.set_cons_zero])
          refine cTake 30 rfl (by decide +kernel) rfl (by intro u; go_simp; first | rfl | done) (by intro u; rfl) ?_; (try simp only [Act.put, List.setIfInBounds_toArray, List.set_cons_succ, List.set_cons_zero])
          refine cDone (by decide +kernel) ?_
          gi_wp2
          go_ret; exact .inr ⟨rfl, _, a.list ++ post, by rw [hf1]; simp, hx2⟩
    · refine ⟨_, rfl, ?_⟩; (try simp only [Act.put, List.setIfInBounds_toArray, List.set_cons_succ, List.set_cons_zero])
      refine cTake 9 rfl (by decide +kernel) rfl (by intro u; go_simp; first | rfl | done) (by intro u; rfl) ?_; (try simp only [Act.put, List.setIfInBounds_toArray, List.set_cons_succ, List.set_cons_zero])
      refine cSkip 10 rfl (by decide +kernel) rfl (by intro u; rfl) ?_; (try simp only [Act.put, List.setIfInBounds_toArray, List.set_cons_succ, List.set_cons_zero])
      refine cSkip 11 rfl (by decide +kernel) rfl (by intro u; rfl) ?_; (try simp only [Act.put, List.setIfInBounds_toArray, List.set_cons_succ, List.set_cons_zero])
      refine cSkip 15 rfl (by decide +kernel) rfl (by intro u; rfl) ?_; (try simp only [Act.put, List.setIfInBounds_toArray, List.set_cons_succ, List.set_cons_zero])
      refine cSkip 12 rfl (by decide +kernel) rfl (by intro u; rfl) ?_; (try simp only [Act.put, List.setIfInBounds_toArray, List.set_cons_succ, List.set_cons_zero])
      refine cSkip 16 rfl (by decide +kernel) rfl (by intro u; rfl) ?_; (try simp only [Act.put, List.setIfInBounds_toArray, List.set_cons_succ, List.set_cons_zero])
      refine cSkip 13 rfl (by decide +kernel) rfl (by intro u; rfl) ?_; (try simp only [Act.put, List.setIfInBounds_toArray, List.set_cons_succ, List.set_cons_zero])
      refine cSkip 17 rfl (by decide +kernel) rfl (by intro u; rfl) ?_; (try simp only [Act.put, List.setIfInBounds_toArray, List.set_cons_succ, List.set_cons_zero])
      refine cSkip 14 rfl (by decide +kernel) rfl (by intro u; rfl) ?_; (try simp only [Act.put, List.setIfInBounds_toArray, List.set_cons_succ, List.set_cons_zero])
      refine cSkip 18 rfl (by decide +kernel) rfl (by intro u; rfl) ?_; (try simp only [Act.put, List.setIfInBounds_toArray, List.set_cons_succ, List.set_cons_zero])
      refine cSkip1 19 (by decide +kernel) rfl rfl ?_; (try simp only [Act.put, List.setIfInBounds_toArray, List.set_cons_succ, List.set_cons_zero])
      refine cTake 20 rfl (by decide +kernel) rfl (by intro u; go_simp; first | rfl | done) (by intro u; rfl) ?_; (try simp only [Act.put, List.setIfInBounds_toArray, List.set_cons_succ, List.set_cons_zero])
      refine cTake 21 rfl (by decide +kernel) rfl (by intro u; go_simp; first | rfl | done) (by intro u; rfl) ?_; (try simp only [Act.put, List.setIfInBounds_toArray, List.set_cons_succ, List.set_cons_zero])
      refine cSkip 22 rfl (by decide +kernel) rfl (by intro u; rfl) ?_; (try simp only [Act.put, List.setIfInBounds_toArray, List.set_cons_succ, List.set_cons_zero])
      refine cSkip 26 rfl (by decide +kernel) rfl (by intro u; rfl) ?_; (try simp only [Act.put, List.setIfInBounds_toArray, List.set_cons_succ, List.set_cons_zero])
      refine cSkip 23 rfl (by decide +kernel) rfl (by intro u; rfl) ?_; (try simp only [Act.put, List.setIfInBounds_toArray, List.set_cons_succ, List.set_cons_zero])
      refine cSkip 24 rfl (by decide +kernel) rfl (by intro u; rfl) ?_; (try simp only [Act.put, List.setIfInBounds_toArray, List.set_cons_succ, List.set_cons_zero])
      refine cSkip 25 rfl (by decide +kernel) rfl (by intro u; rfl) ?_; (try simp only [Act.put, List.setIfInBounds_toArray, List.set_cons_succ, List.set_cons_zero])
      refine cSkip1 27 (by decide +kernel) rfl rfl ?_; (try simp only [Act.put, List.setIfInBounds_toArray, List.set_cons_succ, List.set_cons_zero])
      refine cTake 28 rfl (by decide +kernel) rfl (by intro u; go_simp; first | rfl | done) (by intro u; rfl) ?_; (try simp only [Act.put, List.setIfInBounds_toArray, List.set_cons_succ, List.set_cons_zero])
      refine cTake 29 rfl (by decide +kernel) rfl (by intro u; go_simp; first | rfl | done) (by intro u; rfl) ?_; (try simp only [Act.put, List.setIfInBounds_toArray, List.set_cons_succ, List.set_cons_zero])
      refine cTake 30 rfl (by decide +kernel) rfl (by intro u; go_simp; first | rfl | done) (by intro u; rfl) ?_; (try simp only [Act.put, List.setIfInBounds_toArray, List.set_cons_succ, List.set_cons_zero])
      refine cDone (by decide +kernel) ?_
      gi_wp2
      go_ret; exact .inr ⟨rfl, hx1⟩
/-- the iterator: the captured box, then over -/
theorem AllS_seq {w0 : World} {D : Nat → Prop} {Z : List Ent} {t : T ByteArray Int} {p : Option Nat} {bx : Nat} (hbx : Rd w0 D Z (some ⟨bx, 0, none⟩) [ptr p]) (ht : Td hS w0 D Z t p) :
    SeqHp Try.prog 63 #[.pointer (some ⟨bx, 0, none⟩)] (fun x : ByteArray × Int => #[.string x.1, .int .i64 x.2]) t.list (fun u => Hp w0 D Z u) := by
  intro l J Jx W hJS hg hxg hY h0
  have H := hJS _ _ h0
  have hB := hbx.cells
  have hov := callsIn_wide.1 (OverS_in l J Jx t.list hJS hg hxg hY t p [] [] W ht (by simp) h0)
  refine callsIn_wide.2 ?_
  simp only [List.append_toArray, List.cons_append, List.nil_append]
  go_enter Try.func63, Try.ntmps63
  go_wp2_with (first
    | ((with_reducible refine gLd ?_); refine wl_loadR (k := 0) (hB [] _ H) rfl rfl rfl T25 rfl ?_)
    | (go_at_call 64; (with_reducible refine hov.mono ?_); rintro e w1 (⟨rfl, hj⟩ | ⟨rfl, q, r, hq, hj⟩))
    | ((with_reducible refine gLd ?_); refine eLd H rfl rfl ?_; first | (refine kLdB 0 rfl rfl (by first | exact T2 | exact T3 | exact T4 | exact T9 | exact T22 | exact T25 | exact T27 | exact T31 | exact T34 | exact T41 | exact T42 | exact T44 | exact T47 | exact T52 | exact T53 | exact T75 | exact T97 | exact T99 | exact T101 | exact T106 | exact T107 | exact T109 | exact T112 | exact T116 | exact T118 | exact T120 | exact T137 | exact T146) rfl ?_; intro rb hrb; cases rb <;> (first | (exfalso; simp at hrb; done) | ((try simp only [decide_eq_true_eq, decide_eq_false_iff_not, beq_iff_eq, beq_eq_false_iff_ne, ne_eq, bne_iff_ne, bne_eq_false_iff_eq, Bool.not_eq_true', Bool.not_eq_false', gt_iff_lt, ge_iff_le, Int.not_lt, Int.not_le, Decidable.not_not] at hrb); (try subst hrb); (try (exfalso; omega))))) | (refine kLd 0 rfl rfl (by first | exact T2 | exact T3 | exact T4 | exact T9 | exact T22 | exact T25 | exact T27 | exact T31 | exact T34 | exact T41 | exact T42 | exact T44 | exact T47 | exact T52 | exact T53 | exact T75 | exact T97 | exact T99 | exact T101 | exact T106 | exact T107 | exact T109 | exact T112 | exact T116 | exact T118 | exact T120 | exact T137 | exact T146) rfl ?_) | (refine kLdA 0 rfl rfl (by first | exact T2 | exact T3 | exact T4 | exact T9 | exact T22 | exact T25 | exact T27 | exact T31 | exact T34 | exact T41 | exact T42 | exact T44 | exact T47 | exact T52 | exact T53 | exact T75 | exact T97 | exact T99 | exact T101 | exact T106 | exact T107 | exact T109 | exact T112 | exact T116 | exact T118 | exact T120 | exact T137 | exact T146) (Nat.le_of_ble_eq_true rfl) (by simp only [List.drop_succ_cons, List.drop_zero, List.take_succ_cons, List.take_zero, List.set_cons_zero, List.set_cons_succ]; rfl) ?_))
    | ((with_reducible refine gSt ?_); (first | (refine eSt H rfl rfl ⟨.int _ _, rfl, ?_⟩) | (refine eSt H rfl rfl ⟨.bool _, rfl, ?_⟩) | (refine eSt H rfl rfl ⟨.slice _ _ _, rfl, ?_⟩) | (refine eSt H rfl rfl ⟨.pointer _, rfl, ?_⟩) | (refine eSt H rfl rfl ⟨.string _, rfl, ?_⟩) | (refine eSt H rfl rfl ⟨.agg (List.toArray _), rfl, ?_⟩)); (first | (refine kSt 0 rfl rfl (by first | exact T2 | exact T3 | exact T4 | exact T9 | exact T22 | exact T25 | exact T27 | exact T31 | exact T34 | exact T41 | exact T42 | exact T44 | exact T47 | exact T52 | exact T53 | exact T75 | exact T97 | exact T99 | exact T101 | exact T106 | exact T107 | exact T109 | exact T112 | exact T116 | exact T118 | exact T120 | exact T137 | exact T146) rfl (Nat.le_of_ble_eq_true rfl) ?_) | (refine kStA 0 rfl rfl (by first | exact T2 | exact T3 | exact T4 | exact T9 | exact T22 | exact T25 | exact T27 | exact T31 | exact T34 | exact T41 | exact T42 | exact T44 | exact T47 | exact T52 | exact T53 | exact T75 | exact T97 | exact T99 | exact T101 | exact T106 | exact T107 | exact T109 | exact T112 | exact T116 | exact T118 | exact T120 | exact T137 | exact T146) rfl rfl (Nat.le_of_ble_eq_true rfl) ?_)); clear H; intro w1 H; simp only [List.set_cons_zero, List.set_cons_succ] at H; (try simp only [lay, List.take_zero, List.nil_append, List.length_cons, List.length_nil, Nat.zero_add, Nat.reduceAdd, List.drop_succ_cons, List.drop_zero, List.drop_nil, List.append_nil, List.take_succ_cons, List.cons_append] at H))
    | ((with_reducible refine gBx ?_); refine bxA H rfl rfl rfl ?_; clear H; intro b1 w1 H)
    | ((with_reducible refine gBs ?_); (first | (refine bs1 H rfl (by first | exact S0) rfl (Nat.le_of_ble_eq_true rfl) (Nat.le_of_ble_eq_true rfl) rfl ?_) | (refine wl_buildSlice0 rfl (by first | exact S0) H ?_)); clear H; intro b1 w1 H)
    | ((with_reducible refine gEq ?_); (first | (refine wl_cmp rfl rfl rfl rfl ?_) | (refine wl_scmp rfl rfl rfl rfl ?_)); intro rb hrb; cases rb <;> (first | (exfalso; simp at hrb; done) | ((try simp only [decide_eq_true_eq, decide_eq_false_iff_not, beq_iff_eq, beq_eq_false_iff_ne, ne_eq, bne_iff_ne, bne_eq_false_iff_eq, Bool.not_eq_true', Bool.not_eq_false', gt_iff_lt, ge_iff_le, Int.not_lt, Int.not_le, Decidable.not_not] at hrb); (try subst hrb); (try (exfalso; omega)))))
    | ((with_reducible refine gRg ?_); refine wp_region_text rfl (by decide +kernel) ?_; replace H := H.drew)
    | ((with_reducible refine EndQ.intro ?_ ?_); (· kernel_rfl)))
  · go_end0
    exact ⟨⟨_, rfl⟩, .inl (by simpa using hj)⟩
  · go_end0
    exact ⟨⟨_, rfl⟩, .inr ⟨q, r, hq, hj⟩⟩
set_option maxHeartbeats 4000000 in
theorem AllS_spec {w0 w : World} {D : Nat → Prop} {M Z : List Ent} {p : Option Nat} (H : Hp w0 D (M ++ Z) w)  :
    Calls Try.prog 15 #[mapV p] w fun e w' => ∃ (bx : Nat) (Z' : List Ent), e = .returned (.func (.func 63) #[] #[.pointer (some ⟨bx, 0, none⟩)]) ∧ Xt Z Z' ∧ Rd w0 D Z' (some ⟨bx, 0, none⟩) [ptr p] ∧ Hp w0 D (M ++ Z') w' := by
  go_enter Try.func15, Try.ntmps15
  go_wp2_with (first
    | ((with_reducible refine gLd ?_); refine eLd H rfl rfl ?_; first | (refine kLdB 0 rfl rfl (by first | exact T2 | exact T3 | exact T4 | exact T9 | exact T22 | exact T25 | exact T27 | exact T31 | exact T34 | exact T41 | exact T42 | exact T44 | exact T47 | exact T52 | exact T53 | exact T75 | exact T97 | exact T99 | exact T101 | exact T106 | exact T107 | exact T109 | exact T112 | exact T116 | exact T118 | exact T120 | exact T137 | exact T146) rfl ?_; intro rb hrb; cases rb <;> (first | (exfalso; simp at hrb; done) | ((try simp only [decide_eq_true_eq, decide_eq_false_iff_not, beq_iff_eq, beq_eq_false_iff_ne, ne_eq, bne_iff_ne, bne_eq_false_iff_eq, Bool.not_eq_true', Bool.not_eq_false', gt_iff_lt, ge_iff_le, Int.not_lt, Int.not_le, Decidable.not_not] at hrb); (try subst hrb); (try (exfalso; omega))))) | (refine kLd 0 rfl rfl (by first | exact T2 | exact T3 | exact T4 | exact T9 | exact T22 | exact T25 | exact T27 | exact T31 | exact T34 | exact T41 | exact T42 | exact T44 | exact T47 | exact T52 | exact T53 | exact T75 | exact T97 | exact T99 | exact T101 | exact T106 | exact T107 | exact T109 | exact T112 | exact T116 | exact T118 | exact T120 | exact T137 | exact T146) rfl ?_) | (refine kLdA 0 rfl rfl (by first | exact T2 | exact T3 | exact T4 | exact T9 | exact T22 | exact T25 | exact T27 | exact T31 | exact T34 | exact T41 | exact T42 | exact T44 | exact T47 | exact T52 | exact T53 | exact T75 | exact T97 | exact T99 | exact T101 | exact T106 | exact T107 | exact T109 | exact T112 | exact T116 | exact T118 | exact T120 | exact T137 | exact T146) (Nat.le_of_ble_eq_true rfl) (by simp only [List.drop_succ_cons, List.drop_zero, List.take_succ_cons, List.take_zero, List.set_cons_zero, List.set_cons_succ]; rfl) ?_))
    | ((with_reducible refine gSt ?_); (first | (refine eSt H rfl rfl ⟨.int _ _, rfl, ?_⟩) | (refine eSt H rfl rfl ⟨.bool _, rfl, ?_⟩) | (refine eSt H rfl rfl ⟨.slice _ _ _, rfl, ?_⟩) | (refine eSt H rfl rfl ⟨.pointer _, rfl, ?_⟩) | (refine eSt H rfl rfl ⟨.string _, rfl, ?_⟩) | (refine eSt H rfl rfl ⟨.agg (List.toArray _), rfl, ?_⟩)); (first | (refine kSt 0 rfl rfl (by first | exact T2 | exact T3 | exact T4 | exact T9 | exact T22 | exact T25 | exact T27 | exact T31 | exact T34 | exact T41 | exact T42 | exact T44 | exact T47 | exact T52 | exact T53 | exact T75 | exact T97 | exact T99 | exact T101 | exact T106 | exact T107 | exact T109 | exact T112 | exact T116 | exact T118 | exact T120 | exact T137 | exact T146) rfl (Nat.le_of_ble_eq_true rfl) ?_) | (refine kStA 0 rfl rfl (by first | exact T2 | exact T3 | exact T4 | exact T9 | exact T22 | exact T25 | exact T27 | exact T31 | exact T34 | exact T41 | exact T42 | exact T44 | exact T47 | exact T52 | exact T53 | exact T75 | exact T97 | exact T99 | exact T101 | exact T106 | exact T107 | exact T109 | exact T112 | exact T116 | exact T118 | exact T120 | exact T137 | exact T146) rfl rfl (Nat.le_of_ble_eq_true rfl) ?_)); clear H; intro w1 H; simp only [List.set_cons_zero, List.set_cons_succ] at H; (try simp only [lay, List.take_zero, List.nil_append, List.length_cons, List.length_nil, Nat.zero_add, Nat.reduceAdd, List.drop_succ_cons, List.drop_zero, List.drop_nil, List.append_nil, List.take_succ_cons, List.cons_append] at H))
    | ((with_reducible refine gBx ?_); refine bxA H rfl rfl rfl ?_; clear H; intro b1 w1 H)
    | ((with_reducible refine gBs ?_); (first | (refine bs1 H rfl (by first | exact S0) rfl (Nat.le_of_ble_eq_true rfl) (Nat.le_of_ble_eq_true rfl) rfl ?_) | (refine wl_buildSlice0 rfl (by first | exact S0) H ?_)); clear H; intro b1 w1 H)
    | ((with_reducible refine gEq ?_); (first | (refine wl_cmp rfl rfl rfl rfl ?_) | (refine wl_scmp rfl rfl rfl rfl ?_)); intro rb hrb; cases rb <;> (first | (exfalso; simp at hrb; done) | ((try simp only [decide_eq_true_eq, decide_eq_false_iff_not, beq_iff_eq, beq_eq_false_iff_ne, ne_eq, bne_iff_ne, bne_eq_false_iff_eq, Bool.not_eq_true', Bool.not_eq_false', gt_iff_lt, ge_iff_le, Int.not_lt, Int.not_le, Decidable.not_not] at hrb); (try subst hrb); (try (exfalso; omega)))))
    | ((with_reducible refine gRg ?_); refine wp_region_text rfl (by decide +kernel) ?_; replace H := H.drew)
    | ((with_reducible refine EndQ.intro ?_ ?_); (· kernel_rfl)))
  go_ret
  refine ⟨_, _, rfl, Xt.cons _ _, Rd.ent (Hp.dropL H.sink) (i := 0) rfl, H.sink⟩
end Go.Proofs.Ytgnmjeajmnmobaa
