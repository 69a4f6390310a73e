/- A drawn region walked in text order, where the region is long: the lists of what stands ahead are kept without doubles. Generic: no program in sight. -/
import Derived.Test.YtgnmjeajmnmobaaGxRegionU
namespace Go.Gx
theorem wp_region_textU {P : Program} {Q : Exit → Act → World → Prop} {id : Nat} {l : List Oper} {a : Act} {w : World} (hm : P.follows .mixedOrders = true) (hchk : chkWith P l.toArray (ancsU l) = true)
    (h : wpList P l.toArray (EndQ P l.toArray Q) l a w.drew) : (Code.region id l.toArray true).wp P Q a w := by
  have key : (Code.region id l.toArray true).wp P (EndQ P l.toArray Q) a w := by
    refine wp_region_any hm ?_
    have hh : wpOps P l.toArray (EndQ P l.toArray Q) (List.range l.toArray.size) a w.drew := by
      rw [List.range_eq_range', ← Array.length_toList, wpOps_eq_wpList l.toArray.toList 0 (by simp)]; exact h
    have hr := rest_all (ops := l.toArray)
    refine main hchk (fun e a w hq => by cases e <;> first | rfl | exact hq.elim) (fun a w hq => hq.1) _ _ _ _ (by rw [hr]; simp) ⟨by simp, fun j oj _ hj => ?_⟩ (by rw [hr]; exact hh)
    rw [getD_replicate_false] at hj; cases hj
  exact Code.wp_mono (fun e a w hq => by cases e <;> first | exact hq.2 | exact hq.elim) key
end Go.Gx
