/- Layer 1: bytes, numbers, sums and frames as plain data. No program in sight. -/
import Derived.Test.YtajaloaknfbobaaGxBit
import Derived.Test.YtajaloaknfbobaaGxRd
set_option linter.unusedVariables false
set_option linter.unusedSimpArgs false
namespace Go.Gx.Cod
open Go.Gx Go.RowKit
def bs (l : List UInt8) : List Value := l.map byteV
theorem bs_length (l : List UInt8) : (bs l).length = l.length * 1 := by simp [bs]
theorem bs_len (l : List UInt8) : (bs l).length = l.length := by simp [bs]
theorem bs_one (l : List UInt8) : (bs l).all (·.oneCell') = true := by simp [bs, Value.oneCell', byteV]
theorem bs_append (l m : List UInt8) : bs (l ++ m) = bs l ++ bs m := by simp [bs]
theorem bs_drop (l : List UInt8) (n : Nat) : bs (l.drop n) = (bs l).drop n := by simp [bs]
theorem bs_take (l : List UInt8) (n : Nat) : bs (l.take n) = (bs l).take n := by simp [bs]
theorem bs_get {l : List UInt8} {k : Nat} {x : UInt8} (h : l[k]? = some x) : (bs l)[k]? = some (.int .u8 (x.toNat : Int)) := by simp [bs, h, byteV]
theorem bs_put (l : List UInt8) (x : UInt8) : bs l ++ ([Value.int .u8 (x.toNat : Int)].drop 0).take (1 * 1) = bs (l ++ [x]) := by simp [bs, byteV]
theorem bs_put2 (l : List UInt8) (x : UInt8) : bs l ++ [Value.int .u8 (x.toNat : Int)] = bs (l ++ [x]) := by simp [bs, byteV]
abbrev eB (a : Option Nat) (c : Nat) (l : List UInt8) : Ent := ⟨a, bs l, 5, c⟩
def enc (n : Nat) : List UInt8 := if n < 128 then [UInt8.ofNat n] else UInt8.ofNat (n % 128 + 128) :: enc (n / 128)
termination_by n
decreasing_by omega
theorem enc_lo {n : Nat} (h : n < 128) : enc n = [UInt8.ofNat n] := by rw [enc, if_pos h]
theorem enc_hi {n : Nat} (h : ¬ n < 128) : enc n = UInt8.ofNat (n % 128 + 128) :: enc (n / 128) := by rw [enc, if_neg h]
/-- a number read: how many bytes were taken, the error, the value -/
def numM : List UInt8 → Nat → Nat → Nat × Int × Nat
  | [], _, _ => (0, 3, 0)
  | c :: t, i, n =>
    if i = 9 ∧ 1 < c.toNat then (1, 11, 0)
    else if c.toNat < 128 then (if c.toNat = 0 ∧ 0 < i then (1, 10, 0) else (1, 0, n + c.toNat % 128 * 2 ^ (7 * i)))
    else ((numM t (i + 1) (n + c.toNat % 128 * 2 ^ (7 * i))).1 + 1, (numM t (i + 1) (n + c.toNat % 128 * 2 ^ (7 * i))).2)
def stepC (x : UInt32) : UInt32 := if x &&& 1 = 1 then (x >>> 1) ^^^ 0x82f63b78 else x >>> 1
def byteC (x : UInt32) (c : UInt8) : UInt32 := stepC (stepC (stepC (stepC (stepC (stepC (stepC (stepC (x ^^^ c.toUInt32))))))))
def iter {α : Type} (f : α → α) : Nat → α → α
  | 0, x => x
  | n + 1, x => f (iter f n x)
theorem byteC_eq (x : UInt32) (c : UInt8) : byteC x c = iter stepC 8 (x ^^^ c.toUInt32) := rfl
def crcS (l : List UInt8) : UInt32 := l.foldl byteC 0xFFFFFFFF
def crc (l : List UInt8) : UInt32 := ~~~ (crcS l)
theorem crcS_snoc (l : List UInt8) (c : UInt8) : crcS (l ++ [c]) = byteC (crcS l) c := by simp [crcS]
/-- the four bytes of a sum -/
def sum4 (x : UInt32) : List UInt8 := [x.toUInt8, (x >>> 8).toUInt8, (x >>> 8 >>> 8).toUInt8, (x >>> 8 >>> 8 >>> 8).toUInt8]
def seal_ (l : List UInt8) : List UInt8 := enc l.length ++ l ++ sum4 (crc l)
/-- a reader in memory -/
structure Rr where
  l : List UInt8
  at_ : Nat
  err : Int
  whr : Int
abbrev eR (tn : TypeId) (p : Nat) (a : Option Nat) (c : Nat) (r : Rr) : Ent := ⟨some p, [.slice (adr a 0) r.l.length c, .int .i64 r.at_, .int .i64 r.err, .int .i64 r.whr], tn, 4⟩
end Go.Gx.Cod
theorem Go.Gx.Hp.name {w0 w : Go.World} {D : Nat → Prop} {L : List Go.Gx.Ent} (H : Go.Gx.Hp w0 D L w) : ∃ L', L' = L ∧ Go.Gx.Hp w0 D L' w := ⟨L, rfl, H⟩
namespace Go.Gx
theorem Hp.some_of {w0 w : World} {D : Nat → Prop} {L : List Ent} (H : Hp w0 D L w) {i : Nat} {x : Ent} (hi : L[i]? = some x) (h : 0 < x.xs.length) : ∃ b, x.a = some b := by
  have := H.ents i x hi
  unfold Ent.at at this
  cases hx : x.a with
  | none => rw [hx] at this; have h0 := this.1; rw [h0] at h; simp at h
  | some b => exact ⟨b, rfl⟩
end Go.Gx
