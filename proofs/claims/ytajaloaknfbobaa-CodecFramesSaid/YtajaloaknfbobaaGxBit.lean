/-
  Numbers in a walk: conversions, bit operations, shifts, quotients, each with the result that the proof names. Generic: no program in sight.
-/
import Derived.Test.YtajaloaknfbobaaGxMk
import Derived.Laws.BitsAllLaws
import Derived.Laws.Bits64
set_option linter.unusedVariables false
set_option linter.unusedSimpArgs false
namespace Go.Gx
section
variable {P : Program} {w0 w : World} {D : Nat → Prop} {L : List Ent} {ops : Array Oper} {Q : Exit → Act → World → Prop} {a : Act} {rest : List Oper}
theorem run_cvI {k k' : IntKind} {m r : Int} {t u ty : TypeId} {dst : Option Tmp} {x : Operand} {pos : String} {af : Array Edge} {g : Option (Nat × Bool)}
    (hx : a.eval x = .int k m) (ht : P.underlying t = some (.int k)) (hu : P.underlying u = some (.int k')) (hr : k'.wrap m = r) :
    (execOp a.eval ⟨dst, .convert t u x, ty, pos, af, g⟩).run P w = .ok (.value (.int k' r)) w := by
  subst hr
  simp [execOp, hx, convert, run_underlying ht, run_underlying hu, Conv.intToInt]
theorem wl_cvI {k k' : IntKind} {m r : Int} {t u ty : TypeId} {dst : Option Tmp} {x : Operand} {pos : String} {af : Array Edge} {g : Option (Nat × Bool)}
    (hx : a.eval x = .int k m) (ht : P.underlying t = some (.int k)) (hu : P.underlying u = some (.int k')) (hr : k'.wrap m = r)
    (hw : Region.wanted ⟨dst, .convert t u x, ty, pos, af, g⟩ (yielded ops a.tmps) = true) (kk : wpList P ops Q rest (a.put dst (.int k' r)) w) : wpList P ops Q (⟨dst, .convert t u x, ty, pos, af, g⟩ :: rest) a w := wl_run hw (run_cvI hx ht hu hr) kk
/-- what a bit operation, a shift, a quotient or a remainder comes to -/
def bitop : BinOp → IntKind → Int → Int → Option Int
  | .and, k, m, n => some (k.wrap ((BitVec.ofInt k.bits m &&& BitVec.ofInt k.bits n).toNat : Int))
  | .or, k, m, n => some (k.wrap ((BitVec.ofInt k.bits m ||| BitVec.ofInt k.bits n).toNat : Int))
  | .xor, k, m, n => some (k.wrap ((BitVec.ofInt k.bits m ^^^ BitVec.ofInt k.bits n).toNat : Int))
  | .shl, k, m, n => if n < 0 then none else some (k.wrap (m * 2 ^ (min n.toNat k.bits)))
  | .shr, k, m, n => if n < 0 then none else some (m.fdiv (2 ^ (min n.toNat k.bits)))
  | .add, k, m, n => some (k.wrap (m + n))
  | .mul, k, m, n => some (k.wrap (m * n))
  | _, _, _, _ => none
theorem run_bit {op : BinOp} {k k' : IntKind} {m n r : Int} {t u ty : TypeId} {dst : Option Tmp} {x y : Operand} {pos : String} {af : Array Edge} {g : Option (Nat × Bool)}
    (hx : a.eval x = .int k m) (hy : a.eval y = .int k' n) (hk : k = k' ∨ op = .shl ∨ op = .shr) (hr : bitop op k m n = some r) :
    (execOp a.eval ⟨dst, .binOp op t x y u, ty, pos, af, g⟩).run P w = .ok (.value (.int k r)) w := by
  cases op <;> simp only [bitop] at hr <;> (try split at hr) <;> cases hr <;>
    first
    | (simp [execOp, hx, hy, eqGuard, binOp, Op.shift, *]; done)
    | (obtain rfl : k = k' := by
         rcases hk with h | h | h
         · exact h
         · cases h
         · cases h
       simp [execOp, hx, hy, eqGuard, binOp, Op.intBits, Op.intArith])
theorem wl_bit {op : BinOp} {k k' : IntKind} {m n r : Int} {t u ty : TypeId} {dst : Option Tmp} {x y : Operand} {pos : String} {af : Array Edge} {g : Option (Nat × Bool)}
    (hx : a.eval x = .int k m) (hy : a.eval y = .int k' n) (hk : k = k' ∨ op = .shl ∨ op = .shr) (hr : bitop op k m n = some r)
    (hw : Region.wanted ⟨dst, .binOp op t x y u, ty, pos, af, g⟩ (yielded ops a.tmps) = true) (kk : wpList P ops Q rest (a.put dst (.int k r)) w) : wpList P ops Q (⟨dst, .binOp op t x y u, ty, pos, af, g⟩ :: rest) a w := wl_run hw (run_bit hx hy hk hr) kk
def divop : BinOp → Int → Int → Option Int
  | .quo, m, n => some (m.tdiv n)
  | .rem, m, n => some (m.tmod n)
  | _, _, _ => none
theorem run_divU {op : BinOp} {k : IntKind} {m n : Nat} {r : Nat} {t u ty : TypeId} {dst : Option Tmp} {x y : Operand} {pos : String} {af : Array Edge} {g : Option (Nat × Bool)}
    (hx : a.eval x = .int k (m : Int)) (hy : a.eval y = .int k (n : Int)) (hn : 0 < n) (hm : k.wrap (m : Int) = m) (hm2 : ∀ j : Nat, j ≤ m → k.wrap (j : Int) = j) (hr : (op = .quo ∧ r = m / n) ∨ (op = .rem ∧ r = m % n)) :
    (execOp a.eval ⟨dst, .binOp op t x y u, ty, pos, af, g⟩).run P w = .ok (.value (.int k (r : Int))) w := by
  have hn0 : ¬ ((n : Int) = 0) := by omega
  rcases hr with ⟨rfl, rfl⟩ | ⟨rfl, rfl⟩
  · have : k.wrap ((m : Int).tdiv n) = ((m / n : Nat) : Int) := by rw [← Int.ofNat_tdiv]; exact hm2 _ (Nat.div_le_self _ _)
    have hn1 : ¬ n = 0 := by omega
    rw [← this]
    simp [execOp, hx, hy, eqGuard, binOp, Op.intDiv, hn1]
  · have : k.wrap ((m : Int).tmod n) = ((m % n : Nat) : Int) := by rw [← Int.ofNat_tmod]; exact hm2 _ (Nat.mod_le _ _)
    have hn1 : ¬ n = 0 := by omega
    have h2 := hm2 _ (Nat.mod_le m n)
    simp only [execOp, hx, hy, eqGuard, binOp, Op.intDiv, Int.natCast_eq_zero, if_neg hn1]
    simp [hn1, ← Int.ofNat_tmod]
theorem gUn {op : UnOp} {t ty : TypeId} {dst : Option Tmp} {x : Operand} {pos : String} {af : Array Edge} {g : Option (Nat × Bool)} (k : wpList P ops Q (⟨dst, .unOp op t x, ty, pos, af, g⟩ :: rest) a w) : wpList P ops Q (⟨dst, .unOp op t x, ty, pos, af, g⟩ :: rest) a w := k
theorem ofInt32 (X : UInt32) : BitVec.ofInt IntKind.u32.bits (X.toNat : Int) = X.toBitVec := by
  apply BitVec.eq_of_toNat_eq
  simp [IntKind.bits]
theorem wrap32 (X : UInt32) : IntKind.u32.wrap (X.toNat : Int) = (X.toNat : Int) := by
  rw [IntKind.wrap_u32']; have := X.toNat_lt; omega
theorem run_not32 {X : UInt32} {t ty : TypeId} {dst : Option Tmp} {x : Operand} {pos : String} {af : Array Edge} {g : Option (Nat × Bool)} (hx : a.eval x = .int .u32 (X.toNat : Int)) :
    (execOp a.eval ⟨dst, .unOp .xor t x, ty, pos, af, g⟩).run P w = .ok (.value (.int .u32 ((~~~X).toNat : Int))) w := by
  simp only [execOp, hx, Sem.run_bind, Op.unary, Op.intBits, show IntKind.u32.signed = false from rfl, show IntKind.u32.max = (((0xFFFFFFFF : UInt32).toNat : Int)) from rfl, ofInt32, Bool.false_eq_true, if_false]
  simp only [Sem.run_pure, Result.andThen_ok]
  have h : (0xFFFFFFFF : UInt32) ^^^ X = ~~~X := by
    apply UInt32.eq_of_toBitVec_eq
    show BitVec.allOnes 32 ^^^ X.toBitVec = ~~~X.toBitVec
    exact BitVec.allOnes_xor
  have h2 := wrap32 ((0xFFFFFFFF : UInt32) ^^^ X)
  rw [← h]
  exact congrArg (fun z => Result.ok (Next.value (Value.int IntKind.u32 z)) w) h2
theorem band32 (X Y : UInt32) : bitop .and .u32 (X.toNat : Int) (Y.toNat : Int) = some ((X &&& Y).toNat : Int) := by
  simp only [bitop, ofInt32]
  exact congrArg some (wrap32 (X &&& Y))
theorem bor32 (X Y : UInt32) : bitop .or .u32 (X.toNat : Int) (Y.toNat : Int) = some ((X ||| Y).toNat : Int) := by
  simp only [bitop, ofInt32]
  exact congrArg some (wrap32 (X ||| Y))
theorem bxor32 (X Y : UInt32) : bitop .xor .u32 (X.toNat : Int) (Y.toNat : Int) = some ((X ^^^ Y).toNat : Int) := by
  simp only [bitop, ofInt32]
  exact congrArg some (wrap32 (X ^^^ Y))
theorem bshr32 (X : UInt32) (n : Nat) (hn : n < 32) : bitop .shr .u32 (X.toNat : Int) (n : Int) = some ((X >>> UInt32.ofNat n).toNat : Int) := by
  have h0 : ¬ ((n : Int) < 0) := by omega
  have h1 : min n 32 = n := by omega
  simp only [bitop, if_neg h0, Int.toNat_natCast, show IntKind.u32.bits = 32 from rfl, h1]
  congr 1
  rw [UInt32.toNat_shiftRight, Nat.shiftRight_eq_div_pow]
  have : (UInt32.ofNat n).toNat % 32 = n := by simp; omega
  rw [this, Int.fdiv_eq_ediv_of_nonneg _ (by exact_mod_cast Nat.zero_le _)]
  exact_mod_cast rfl
theorem conv8_32 (c : UInt8) : IntKind.u32.wrap (c.toNat : Int) = ((c.toUInt32).toNat : Int) := by
  rw [IntKind.wrap_u32']; have := c.toNat_lt; simp; omega
theorem conv32_8 (X : UInt32) : IntKind.u8.wrap (X.toNat : Int) = ((X.toUInt8).toNat : Int) := by
  rw [IntKind.wrap_u8']; simp
/- 8 and 64 bits, as numbers -/
theorem conv64_8 (m : Nat) : IntKind.u8.wrap (m : Int) = ((UInt8.ofNat m).toNat : Int) := by
  rw [IntKind.wrap_u8']; simp
theorem conv_small {k : IntKind} (hk : k = .u64 ∨ k = .i64 ∨ k = .u32 ∧ True) {m : Int} (h0 : 0 ≤ m) (h1 : m < 4294967296) : k.wrap m = m := by
  rcases hk with rfl | rfl | ⟨rfl, _⟩
  · rw [IntKind.wrap_u64]; omega
  · rw [IntKind.wrap_i64]; omega
  · rw [IntKind.wrap_u32']; omega
theorem conv_i64 {m : Int} (h0 : -9223372036854775808 ≤ m) (h1 : m < 9223372036854775808) : IntKind.i64.wrap m = m := by rw [IntKind.wrap_i64]; omega
theorem conv_u64 {m : Int} (h0 : 0 ≤ m) (h1 : m < 18446744073709551616) : IntKind.u64.wrap m = m := by rw [IntKind.wrap_u64]; omega
theorem ofInt8 (X : UInt8) : BitVec.ofInt IntKind.u8.bits (X.toNat : Int) = X.toBitVec := by
  apply BitVec.eq_of_toNat_eq
  simp [IntKind.bits]
theorem wrap8 (X : UInt8) : IntKind.u8.wrap (X.toNat : Int) = (X.toNat : Int) := by
  rw [IntKind.wrap_u8']; have := X.toNat_lt; omega
theorem band8 (X Y : UInt8) : bitop .and .u8 (X.toNat : Int) (Y.toNat : Int) = some ((X &&& Y).toNat : Int) := by
  simp only [bitop, ofInt8]
  exact congrArg some (wrap8 (X &&& Y))
theorem bor8 (X Y : UInt8) : bitop .or .u8 (X.toNat : Int) (Y.toNat : Int) = some ((X ||| Y).toNat : Int) := by
  simp only [bitop, ofInt8]
  exact congrArg some (wrap8 (X ||| Y))
theorem bxor8 (X Y : UInt8) : bitop .xor .u8 (X.toNat : Int) (Y.toNat : Int) = some ((X ^^^ Y).toNat : Int) := by
  simp only [bitop, ofInt8]
  exact congrArg some (wrap8 (X ^^^ Y))
theorem or128 (m : Nat) : UInt8.ofNat m ||| 128 = UInt8.ofNat (m % 128 + 128) := by
  have h : ∀ X : BitVec 8, X ||| 128#8 = BitVec.ofNat 8 (X.toNat % 128 + 128) := by decide
  apply UInt8.eq_of_toBitVec_eq
  have := h (UInt8.ofNat m).toBitVec
  show (UInt8.ofNat m).toBitVec ||| 128#8 = _
  rw [this]
  apply BitVec.eq_of_toNat_eq
  simp
theorem bor128 (m : Nat) : bitop .or .u8 ((UInt8.ofNat m).toNat : Int) 128 = some ((UInt8.ofNat (m % 128 + 128)).toNat : Int) := by
  rw [← or128]; exact bor8 _ 128
theorem band127 (c : UInt8) : bitop .and .u8 (c.toNat : Int) 127 = some ((c.toNat % 128 : Nat) : Int) := by
  have h : ∀ X : BitVec 8, (X &&& 127#8).toNat = X.toNat % 128 := by decide
  have h2 := band8 c 127
  rw [show ((127 : UInt8).toNat : Int) = 127 from rfl] at h2
  rw [h2]
  congr 2
  exact h c.toBitVec
theorem bshr64 (m : Nat) (n : Nat) (hn : n < 64) : bitop .shr .u64 (m : Int) (n : Int) = some ((m / 2 ^ n : Nat) : Int) := by
  have h0 : ¬ ((n : Int) < 0) := by omega
  have h1 : min n 64 = n := by omega
  simp only [bitop, if_neg h0, Int.toNat_natCast, show IntKind.u64.bits = 64 from rfl, h1]
  congr 1
  rw [Int.fdiv_eq_ediv_of_nonneg _ (by exact_mod_cast Nat.zero_le _)]
  exact_mod_cast rfl
theorem bshl64 (c i : Nat) (hc : c * 2 ^ i < 18446744073709551616) (hi : i ≤ 64) : bitop .shl .u64 (c : Int) (i : Int) = some ((c * 2 ^ i : Nat) : Int) := by
  have h0 : ¬ ((i : Int) < 0) := by omega
  have h1 : min i 64 = i := by omega
  simp only [bitop, if_neg h0, Int.toNat_natCast, show IntKind.u64.bits = 64 from rfl, h1]
  congr 1
  rw [show ((c : Int) * 2 ^ i) = ((c * 2 ^ i : Nat) : Int) by simp]
  exact conv_u64 (by omega) (by omega)
theorem bshl32 (c i : Nat) (hc : c * 2 ^ i < 4294967296) (hi : i ≤ 32) : bitop .shl .u32 (c : Int) (i : Int) = some ((c * 2 ^ i : Nat) : Int) := by
  have h0 : ¬ ((i : Int) < 0) := by omega
  have h1 : min i 32 = i := by omega
  simp only [bitop, if_neg h0, Int.toNat_natCast, show IntKind.u32.bits = 32 from rfl, h1]
  congr 1
  rw [show ((c : Int) * 2 ^ i) = ((c * 2 ^ i : Nat) : Int) by simp]
  rw [IntKind.wrap_u32']; omega
theorem or_add {n c i : Nat} (h : n < 2 ^ i) : n ||| (c * 2 ^ i) = n + c * 2 ^ i := by
  have := Nat.shiftLeft_add_eq_or_of_lt h c
  rw [Nat.shiftLeft_eq] at this
  rw [Nat.or_comm, ← this, Nat.add_comm]
theorem borN {k : IntKind} (hk : k = .u64 ∨ k = .u32) {n c i : Nat} (h : n < 2 ^ i) (hm : n + c * 2 ^ i < 2 ^ k.bits) : bitop .or k (n : Int) ((c * 2 ^ i : Nat) : Int) = some ((n + c * 2 ^ i : Nat) : Int) := by
  have h1 : n % 2 ^ k.bits = n := Nat.mod_eq_of_lt (by omega)
  have h2 : (c * 2 ^ i) % 2 ^ k.bits = c * 2 ^ i := Nat.mod_eq_of_lt (by omega)
  simp only [bitop]
  congr 1
  rw [show (BitVec.ofInt k.bits (n : Int) ||| BitVec.ofInt k.bits ((c * 2 ^ i : Nat) : Int)).toNat = n + c * 2 ^ i by
    rw [BitVec.toNat_or]
    simp only [BitVec.ofInt_natCast, BitVec.toNat_ofNat, h1, h2]
    exact or_add h]
  rcases hk with rfl | rfl
  · exact conv_u64 (by omega) (by have : (2:Nat) ^ IntKind.u64.bits = 18446744073709551616 := rfl; omega)
  · rw [IntKind.wrap_u32']; have : (2:Nat) ^ IntKind.u32.bits = 4294967296 := rfl; omega
end
end Go.Gx
