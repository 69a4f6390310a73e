/- Keys of layer 4: texts and numbers, in order; what a node's cells hold. -/
import Derived.Test.YtgnmjeajmnmobaaTd
import Derived.Test.YtgnmjeajmnmobaaPlain
set_option linter.unusedVariables false
set_option linter.unusedSimpArgs false
namespace Go.Gx.Kp
open Go.Gx
theorem bl_irr : ∀ l : List UInt8, Op.bytesLess l l = false
  | [] => rfl
  | a :: l => by simp [Op.bytesLess, bl_irr l]
theorem bl_tr : ∀ a b c : List UInt8, Op.bytesLess a b = true → Op.bytesLess b c = true → Op.bytesLess a c = true
  | _, [], _, h, _ => by simp [Op.bytesLess] at h
  | _, _ :: _, [], _, h => by simp [Op.bytesLess] at h
  | [], _ :: _, _ :: _, _, _ => rfl
  | x :: a, y :: b, z :: c, h, k => by
    simp only [Op.bytesLess, Bool.or_eq_true, Bool.and_eq_true, decide_eq_true_eq, beq_iff_eq] at *
    rcases h with h | ⟨rfl, h⟩
    · rcases k with k | ⟨rfl, k⟩
      · exact .inl (UInt8.lt_trans h k)
      · exact .inl h
    · rcases k with k | ⟨rfl, k⟩
      · exact .inl k
      · exact .inr ⟨rfl, bl_tr a b c h k⟩
theorem bl_tri : ∀ a b : List UInt8, Op.bytesLess a b = false → Op.bytesLess b a = false → a = b
  | [], [], _, _ => rfl
  | [], _ :: _, h, _ => by simp [Op.bytesLess] at h
  | _ :: _, [], _, h => by simp [Op.bytesLess] at h
  | x :: a, y :: b, h, k => by
    simp only [Op.bytesLess, Bool.or_eq_false_iff, decide_eq_false_iff_not, Bool.and_eq_false_iff, beq_eq_false_iff_ne, ne_eq] at h k
    have e : x = y := UInt8.le_antisymm (UInt8.not_lt.1 k.1) (UInt8.not_lt.1 h.1)
    subst e
    rcases h.2 with h2 | h2
    · exact absurd rfl h2
    · rcases k.2 with k2 | k2
      · exact absurd rfl k2
      · rw [bl_tri a b h2 k2]
theorem txt_inj {a b : ByteArray} (h : a.toList = b.toList) : a = b := by
  rw [ByteArray.toList_eq, ByteArray.toList_eq] at h
  cases a; cases b; congr; exact Array.toList_inj.1 h
instance : KeyOrd ByteArray where
  lt a b := Op.bytesLess a.toList b.toList
  irr a := bl_irr _
  tr a b c := bl_tr _ _ _
  tri a b h k := txt_inj (bl_tri _ _ h k)
instance : KeyOrd Int where
  lt a b := decide (a < b)
  irr a := by simp
  tr a b c h k := by simp at *; omega
  tri a b h k := by simp at *; omega
/-- a node's cells ahead of its pointers -/
abbrev hS (k : ByteArray) (v : Int) : List Value := [.string k, .int .i64 v]
abbrev hI (k : Int) (_ : Unit) : List Value := [.int .i64 k]
theorem txt_other {a b : ByteArray} : (a.toList == b.toList) = !(other a b) := by
  cases h : other a b with
  | true => have := other_iff.1 h; simp; intro e; exact this (txt_inj e)
  | false =>
    have : a = b := Classical.byContradiction fun e => by rw [other_iff.2 e] at h; cases h
    subst this; simp
/-- comparisons of texts -/
def ocmpB : BinOp → ByteArray → ByteArray → Option Bool
  | .eql, x, y => some (!other x y)
  | .neq, x, y => some (other x y)
  | .lss, x, y => some (KeyOrd.lt x y)
  | .gtr, x, y => some (KeyOrd.lt y x)
  | .leq, x, y => some (!KeyOrd.lt y x)
  | .geq, x, y => some (!KeyOrd.lt x y)
  | _, _, _ => none
theorem gt_lt {a b : ByteArray} : (!(Op.bytesLess a.toList b.toList || a.toList == b.toList)) = KeyOrd.lt b a := by
  cases h1 : KeyOrd.lt a b with
  | true => rw [lt_asymm h1]; show (!(KeyOrd.lt a b || _)) = false; rw [h1]; rfl
  | false =>
    show (!(KeyOrd.lt a b || _)) = _
    rw [h1, txt_other]
    cases h2 : KeyOrd.lt b a with
    | true => simp [other, h1, h2]
    | false => simp [other, h1, h2]
section
variable {P : Program} {w w0 : World} {D : Nat → Prop} {L : List Ent} {ops : Array Oper} {Q : Exit → Act → World → Prop} {a : Act} {rest : List Oper} {K : Act → World → Prop}
theorem run_ocmp {op : BinOp} {m n : ByteArray} {r : Bool} {dst : Option Tmp} {t u ty : TypeId} {x y : Operand} {pos : String} {af : Array Edge} {g : Option (Nat × Bool)} (hx : a.eval x = .string m) (hy : a.eval y = .string n) (hr : ocmpB op m n = some r) :
    (execOp a.eval ⟨dst, .binOp op t x y u, ty, pos, af, g⟩).run P w = .ok (.value (.bool r)) w := by
  have e : ∀ a b : ByteArray, Op.bytesLess a.toList b.toList = KeyOrd.lt a b := fun _ _ => rfl
  cases op <;> simp only [ocmpB] at hr <;> cases hr <;> simp [execOp, hx, hy, eqGuard, binOp, Op.stringOp, txt_other, e]
  all_goals
    have h := gt_lt (a := m) (b := n)
    rw [e, txt_other] at h
    simp at h
    simp [← h]
theorem wl_ocmp {op : BinOp} {m n : ByteArray} {r : Bool} {dst : Option Tmp} {t u ty : TypeId} {x y : Operand} {pos : String} {af : Array Edge} {g : Option (Nat × Bool)} (hx : a.eval x = .string m) (hy : a.eval y = .string n) (hr : ocmpB op m n = some r)
    (hw : Region.wanted ⟨dst, .binOp op t x y u, ty, pos, af, g⟩ (yielded ops a.tmps) = true) (kk : wpList P ops Q rest (a.put dst (.bool r)) w) : wpList P ops Q (⟨dst, .binOp op t x y u, ty, pos, af, g⟩ :: rest) a w := wl_run hw (run_ocmp hx hy hr) kk
end
end Go.Gx.Kp
