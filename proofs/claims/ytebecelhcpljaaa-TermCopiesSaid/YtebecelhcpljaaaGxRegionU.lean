/- wp_region_S for long regions: the lists of what stands ahead are kept without doubles (ancs doubles at each guarded step). Generic: no program in sight. -/
import Derived.Test.YtebecelhcpljaaaGxRegionS
namespace Go.Gx
def insU (x : Nat) (l : List Nat) : List Nat := if l.contains x then l else x :: l
def uniU (l m : List Nat) : List Nat := l.foldr insU m
def ancsU (ops : List Oper) : List (List Nat) :=
  ops.foldl (init := []) fun acc o => acc ++ [o.after.toList.foldr (fun e m => if Region.binds .any e then insU e.on (uniU (acc.getD e.on []) m) else m) []]
theorem wp_region_U {P : Program} {Q : Exit → Act → World → Prop} (S : World → Prop) {id : Nat} {l : List Oper} {a : Act} {w : World} (hm : P.follows .mixedOrders = true) (hchk : chkWithS P l.toArray (ancsU l) = true) (hS : S w.drew)
    (h : twL P l.toArray (EndQ P l.toArray Q) S l a w.drew) : (Code.region id l.toArray true).wp P Q a w := by
  have key : (Code.region id l.toArray true).wp P (EndQ P l.toArray Q) a w := by
    refine wp_region_any hm ?_
    have hh : tws P l.toArray (EndQ P l.toArray Q) S (List.range l.toArray.size) a w.drew := by
      rw [List.range_eq_range', ← Array.length_toList]
      exact tws_of_twL (fun _ => trivial) l.toArray.toList 0 (by simp) _ _ h
    have hr := rest_all (ops := l.toArray)
    refine mainS hchk (fun e a w hq => by cases e <;> first | rfl | exact hq.elim) (fun a w hq => hq.1) _ _ _ _ (by rw [hr]; simp) ⟨by simp, fun j oj _ hj => ?_⟩ hS (by rw [hr]; exact hh)
    rw [getD_replicate_false] at hj; cases hj
  exact Code.wp_mono (fun e a w hq => by cases e <;> first | exact hq.2 | exact hq.elim) key
end Go.Gx
