/-
  A drawn region walked by the B steps where what is kept is read off the present fact: no entry is written out. Generic: no program in sight.
-/
import Derived.Test.YtajconlnacbmjaaGxOrd
import Derived.Test.YtajconlnacbmjaaGxMp
set_option linter.unusedVariables false
set_option linter.unusedSimpArgs false
namespace Go.Gx
theorem wp_region_BH {P : Program} {Q : Exit → Act → World → Prop} {w0 w : World} {D : Nat → Prop} {A L : List Ent} (H : Hp w0 D (A ++ L) w) {id : Nat} {ops : Array Oper} {a : Act} (hm : P.follows .mixedOrders = true)
    (h : wpAnyH P .any ops (NQ Q) (fun u => Hp w0 D L u) ops.size (Array.replicate ops.size false) a w.drew) : (Code.region id ops true).wp P Q a w :=
  wp_region_B (fun u => Hp w0 D L u) hm h
/-- what a map holds as long as the call goes on -/
def MK (w0 : World) (D : Nat → Prop) (q : IntKind) (b : Nat) (kv : List (Int × Value)) : Prop := ∀ L' u, Hp w0 D L' u → mapAt u q b kv
section
variable {P : Program} {w0 w : World} {D : Nat → Prop} {L : List Ent} {a : Act}
theorem run_lkS {t K E : TypeId} {q : IntKind} {b : Nat} {kv : List (Int × Value)} {z v : Value} {k : Int} {dst : Option Tmp} {ty : TypeId} {m x : Operand} {pos : String} {af : Array Edge} {g : Option (Nat × Bool)}
    (H : Hp w0 D L w) (hm : MK w0 D q b kv) (hx : a.eval m = .map (some b)) (hk : a.eval x = .int q k) (hu : P.underlying t = some (.map K E)) (hK : P.underlying K = some (.int q)) (hz : zI P E = some z) (hl : look kv k = some v) :
    (execOp a.eval ⟨dst, .lookup t m x true, ty, pos, af, g⟩).run P w = .ok (.value (.tuple #[v, .bool true])) w := by
  have := run_look hu hK hz (hm _ _ H) k
  rw [hl] at this
  simp only [execOp, hx, hk]
  simp only [Sem.run_bind, this, Result.andThen_ok, Sem.run_pure, Option.getD_some, Option.isSome_some]
theorem run_lkN {t K E : TypeId} {q : IntKind} {b : Nat} {kv : List (Int × Value)} {z : Value} {k : Int} {dst : Option Tmp} {ty : TypeId} {m x : Operand} {pos : String} {af : Array Edge} {g : Option (Nat × Bool)}
    (H : Hp w0 D L w) (hm : MK w0 D q b kv) (hx : a.eval m = .map (some b)) (hk : a.eval x = .int q k) (hu : P.underlying t = some (.map K E)) (hK : P.underlying K = some (.int q)) (hz : zI P E = some z) (hl : look kv k = none) :
    (execOp a.eval ⟨dst, .lookup t m x true, ty, pos, af, g⟩).run P w = .ok (.value (.tuple #[z, .bool false])) w := by
  have := run_look hu hK hz (hm _ _ H) k
  rw [hl] at this
  simp only [execOp, hx, hk]
  simp only [Sem.run_bind, this, Result.andThen_ok, Sem.run_pure, Option.getD_none, Option.isSome_none]
end
end Go.Gx
