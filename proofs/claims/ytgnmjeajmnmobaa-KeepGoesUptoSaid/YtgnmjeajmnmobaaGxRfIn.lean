/-
  A round's regions walked as those of a function: no operation of them defers. Generic: no program in sight.
-/
import Derived.Test.YtgnmjeajmnmobaaGxRf
import Derived.Test.YtgnmjeajmnmobaaGxRegionS
set_option linter.unusedVariables false
set_option linter.unusedSimpArgs false
namespace Go.Gx
open Go.RowKit
/-- no operation defers -/
def calmB (o : Oper) : Bool := match o.op with | .defer _ => false | _ => true
section
variable {P : Program} {l n : Nat} {ops : Array Oper} {Q : Exit → Act → World → Prop} {a : Act} {w : World}
theorem rows_in {row : String} {args : Array Value} {R : Value → World → Prop} (h : Rows P row args w R) : RowsIn (Fence.wide.inRound l) n P row args w R := fun c cs _ => by
  obtain ⟨v, w', hR, hs⟩ := h c cs
  exact ⟨v, w', hR, stepsIn_wide.2 hs⟩
theorem calls_in {f : FuncId} {args : Array Value} {R : Ending → World → Prop} (h : Calls P f args w R) : CallsIn (Fence.wide.inRound l) n P f args w R := CallsIn.inRound l (callsIn_wide.2 h)
theorem upon_in {o : Oper} {next next' : Act → World → Prop} (hQ : ¬ LetsOut Q) (hn : ∀ a w, next a w → next' a w) : ∀ r : Result Next, o.upon P a next Q r → o.uponIn (Fence.wide.inRound l) n P a next' Q r
  | .ok (.value v) w', h => hn _ _ h
  | .ok .skip w', h => hn _ _ h
  | .ok (.defer d) w', h => hn _ _ h
  | .ok (.enter f args) w', h => ⟨fun h => by simp [Fence.wide, Fence.inRound] at h, (calls_in h).mono fun e w'' h => by
      cases e with
      | returned v => exact hn _ _ h
      | panicked ch => exact h
      | outgrown => exact h⟩
  | .ok (.row row args) w', h => ⟨fun h => by simp [Fence.wide, Fence.inRound] at h, (rows_in h).mono fun v w'' h => hn _ _ h⟩
  | .ok (.round _ _ _ _ _) w', h => h.elim
  | .halt (.panic v) w', h => h
theorem oper_in {o : Oper} (hc : calmB o = true) {next next' : Act → World → Prop} (hQ : ¬ LetsOut Q) (hn : ∀ a w, next a w → next' a w) (h : o.wp P a w next Q) : o.wpIn (Fence.wide.inRound l) n P a w next' Q := by
  refine ⟨fun _ _ => trivial, ?_⟩
  have e : o.semAt (Fence.wide.inRound l).round a.eval = execOp a.eval o := Oper.semAt_some l a.eval o fun c hc2 => by unfold calmB at hc; rw [hc2] at hc; cases hc
  rw [e]
  exact upon_in hQ hn _ h
theorem ops_in (hc : ops.all calmB = true) (hQ : ¬ LetsOut Q) : ∀ (is : List Nat) (a : Act) (w : World), wpOps P ops Q is a w → wpOpsIn (Fence.wide.inRound l) n P ops Q is a w
  | [], a, w, h => h
  | i :: is, a, w, h => by
    unfold wpOps at h
    unfold wpOpsIn
    cases ho : ops[i]? with
    | none => rw [ho] at h; exact ops_in hc hQ is a w h
    | some o =>
      rw [ho] at h
      simp only [] at h ⊢
      split
      · rename_i hw
        rw [if_pos hw] at h
        have hco : calmB o = true := by
          rw [Array.all_eq_true] at hc
          obtain ⟨hi, rfl⟩ := Array.getElem?_eq_some_iff.1 ho
          exact hc i hi
        rcases h with h | h
        · exact oper_in hco hQ (fun a w => ops_in hc hQ is a w) h
        · exact absurd h.2 hQ
      · rename_i hw
        rw [if_neg hw] at h
        exact ⟨fun _ _ => trivial, ops_in hc hQ is _ _ h⟩
theorem nq_calm : ¬ LetsOut (NQ Q) := fun ⟨_, _, h⟩ => h
theorem nq_intro (h : Q .normal a w) : NQ Q .normal a w := h
/-- a region, in a round -/
theorem wpIn_reg {id : Nat} {rs : List Oper} (hc : rs.all calmB = true) (h : wpList P rs.toArray (NQ Q) rs a w) : (Code.region id rs.toArray false).wpIn (Fence.wide.inRound l) n P Q a w := by
  refine Go.wpIn_mono (Q := NQ Q) (wpIn_region (ops_in (by simpa using hc) nq_calm _ _ _ ?_)) (fun e a w hq => by cases e <;> first | exact hq | exact hq.elim)
  rw [List.range_eq_range', ← Array.length_toList, wpOps_eq_wpList rs.toArray.toList 0 (by simp)]; exact h
/-- a drawn region, in a round, by the B steps -/
theorem wpIn_region_B (S : World → Prop) {id : Nat} {rs : List Oper} (hc : rs.all calmB = true) (hm : P.follows .mixedOrders = true)
    (h : wpAnyH P .any rs.toArray (NQ Q) S rs.toArray.size (Array.replicate rs.toArray.size false) a w.drew) : (Code.region id rs.toArray true).wpIn (Fence.wide.inRound l) n P Q a w := by
  refine Go.wpIn_mono (Q := NQ Q) (wpIn_region_draw fun t => ops_in (by simpa using hc) nq_calm _ _ _ ?_) (fun e a w hq => by cases e <;> first | exact hq | exact hq.elim)
  simp only [Region.schedule, hm, Bool.true_or, if_true]
  exact wpAny_sound rs.toArray.size t _ a _ (wpAny_of_held _ _ _ _ h)
/-- a drawn region, in a round, in the text's order -/
theorem wpIn_region_text {id : Nat} {rs : List Oper} (hc : rs.all calmB = true) (hm : P.follows .mixedOrders = true) (hchk : chk P rs.toArray = true)
    (h : wpList P rs.toArray (EndQ P rs.toArray Q) rs a w.drew) : (Code.region id rs.toArray true).wpIn (Fence.wide.inRound l) n P Q a w := by
  have key : (Code.region id rs.toArray true).wpIn (Fence.wide.inRound l) n P (EndQ P rs.toArray Q) a w := by
    refine wpIn_region_draw fun t => ops_in (by simpa using hc) (fun ⟨_, _, h⟩ => h) _ _ _ ?_
    simp only [Region.schedule, hm, Bool.true_or, if_true]
    refine wpAny_sound rs.toArray.size t _ a _ ?_
    have hh : wpOps P rs.toArray (EndQ P rs.toArray Q) (List.range rs.toArray.size) a w.drew := by
      rw [List.range_eq_range', ← Array.length_toList, wpOps_eq_wpList rs.toArray.toList 0 (by simp)]; exact h
    have hr := rest_all (ops := rs.toArray)
    refine main hchk (fun e a w hq => by cases e <;> first | rfl | exact hq.elim) (fun a w hq => hq.1) _ _ _ _ (by rw [hr]; simp) ⟨by simp, fun j oj _ hj => ?_⟩ (by rw [hr]; exact hh)
    rw [getD_replicate_false] at hj; cases hj
  exact Go.wpIn_mono key (fun e a w hq => by cases e <;> first | exact hq.2 | exact hq.elim)
end
/-! ### The way out of a function whose loops have left marks -/
section
variable {P : Program} {fn : Func} {R : Ending → World → Prop} {a : Act} {w w0 w1 : World} {D D1 : Nat → Prop} {L : List Ent}
theorem leave1 {k : Nat} {v : Value} (hm : Mark w0 w1 D1 k) (H : Hp w1 D1 L w) (hd : a.defers = [{ target := .collected k, args := #[] }]) (hres : (results fn a.tmps).run P (w.putObj k (.deferred none)) = .ok v (w.putObj k (.deferred none)))
    (h : R (.returned v) (w.putObj k (.deferred none))) : bodyPostM Fence.wide 0 P fn R .ret a w := by
  show LeavesInM _ _ _ _ _ _ _ _ _
  rw [hd]
  refine ⟨by simp, .inl ⟨_, _, rfl, run_takeDeferred (hm.behind H), ?_⟩⟩
  exact ⟨_, hres, h⟩
theorem Mark.shut {k : Nat} (hm : Mark w0 w1 D1 k) (X : Exm w0 D w1 D1) (H : Hp w1 D1 L w) : Hp w0 D L (w.putObj k (.deferred none)) :=
  (X.hp H).putOther _ hm.2.1 (hm.behind H) rfl
/-- .. whose result stands in a cell -/
theorem leave1c {k p i b n : Nat} {agg : Bool} {t : TypeId} {x : Ent} {v : Value} (hm : Mark w0 w1 D1 k) (X : Exm w0 D w1 D1) (H : Hp w1 D1 L w) (hd : a.defers = [{ target := .collected k, args := #[] }]) (hres : fn.results = #[.cell p t])
    (hp : a.tmps.getD p undef = .pointer (some ⟨b, 0, none⟩)) (hi : L[i]? = some x) (hb : x.a = some b) (ht : tI P t = some (agg, n)) (hv : pick agg n x.xs 0 = some v)
    (h : ∀ u, Hp w0 D L u → R (.returned v) u) : bodyPostM Fence.wide 0 P fn R .ret a w := by
  have H2 := hm.shut X H
  refine leave1 hm H hd ?_ (h _ H2)
  have := H2.load hi hb ht hv
  have hp' : a.tmps[p]?.getD undef = .pointer (some ⟨b, 0, none⟩) := by simpa using hp
  simp [results, hres, hp', asAddr, this]
/-- .. whose result stands in a slot -/
theorem leave1t {k p : Nat} {v : Value} (hm : Mark w0 w1 D1 k) (X : Exm w0 D w1 D1) (H : Hp w1 D1 L w) (hd : a.defers = [{ target := .collected k, args := #[] }]) (hres : fn.results = #[.tmp p])
    (hp : a.tmps.getD p undef = v) (h : ∀ u, Hp w0 D L u → R (.returned v) u) : bodyPostM Fence.wide 0 P fn R .ret a w := by
  refine leave1 hm H hd ?_ (h _ (hm.shut X H))
  have hp' : a.tmps[p]?.getD undef = v := by simpa using hp
  simp [results, hres, hp']
end
end Go.Gx
