/- Layer 1: a sum tells bits that are turned: the plain law of sums. No program in sight. -/
import Derived.Test.YtajaloaknfbobaaPlain
set_option linter.unusedVariables false
set_option linter.unusedSimpArgs false
namespace Go.Proofs.Ytajaloaknfbobaa
open Go.Gx Go.Gx.Cod Go.RowKit
/- one step, over bits -/
def stB (x : BitVec 32) : BitVec 32 := if x.getLsbD 0 then (x >>> 1) ^^^ 0x82f63b78#32 else x >>> 1
theorem lsb_iff (x : UInt32) : (x &&& 1 = 1) ↔ x.toBitVec.getLsbD 0 = true := by
  have h : ∀ y : BitVec 32, (y &&& 1#32 = 1#32) ↔ y.getLsbD 0 = true := by
    intro y
    constructor
    · intro e
      have := congrArg (fun z => z.getLsbD 0) e
      simpa using this
    · intro e
      apply BitVec.eq_of_getLsbD_eq
      intro i hi
      by_cases h0 : i = 0
      · subst h0; simpa using e
      · simp [h0, BitVec.getLsbD_one]
  rw [← h]
  constructor
  · intro e; exact congrArg UInt32.toBitVec e
  · intro e; exact UInt32.eq_of_toBitVec_eq e
theorem stepC_bv (x : UInt32) : (stepC x).toBitVec = stB x.toBitVec := by
  unfold stepC stB
  by_cases h : x &&& 1 = 1
  · rw [if_pos h, if_pos ((lsb_iff x).1 h)]; rfl
  · rw [if_neg h, if_neg (fun e => h ((lsb_iff x).2 e))]; rfl
theorem stB_xor (x y : BitVec 32) : stB (x ^^^ y) = stB x ^^^ stB y := by
  unfold stB
  rw [BitVec.getLsbD_xor]
  cases hx : x.getLsbD 0 <;> cases hy : y.getLsbD 0 <;> simp only [Bool.xor_false, Bool.xor_true, Bool.not_true, Bool.not_false, Bool.false_eq_true, if_true, if_false, BitVec.ushiftRight_xor_distrib]
  · ac_rfl
  · ac_rfl
  · have : 0x82f63b78#32 ^^^ 0x82f63b78#32 = 0#32 := by decide
    calc x >>> 1 ^^^ y >>> 1 = x >>> 1 ^^^ y >>> 1 ^^^ 0#32 := by simp
      _ = x >>> 1 ^^^ y >>> 1 ^^^ (0x82f63b78#32 ^^^ 0x82f63b78#32) := by rw [this]
      _ = _ := by ac_rfl
theorem stB_zero : stB 0#32 = 0#32 := by decide
theorem stB_inj0 {x : BitVec 32} (h : stB x = 0#32) : x = 0#32 := by
  unfold stB at h
  cases hx : x.getLsbD 0 with
  | true =>
    rw [hx, if_pos rfl] at h
    have := congrArg (fun z => z.getLsbD 31) h
    simp at this
  | false =>
    rw [hx, if_neg (by simp)] at h
    apply BitVec.eq_of_getLsbD_eq
    intro i hi
    by_cases h0 : i = 0
    · subst h0; simpa using hx
    · have := congrArg (fun z => z.getLsbD (i - 1)) h
      simp only [BitVec.getLsbD_ushiftRight, BitVec.getLsbD_zero] at this
      rw [show 1 + (i - 1) = i by omega] at this
      simpa using this
theorem iter_succ' {α : Type} (f : α → α) (n : Nat) (x : α) : iter f (n + 1) x = iter f n (f x) := by
  induction n with
  | zero => rfl
  | succ n ih => show f (iter f (n + 1) x) = f (iter f n (f x)); rw [ih]
theorem iter_add {α : Type} (f : α → α) (m n : Nat) (x : α) : iter f (m + n) x = iter f m (iter f n x) := by
  induction m with
  | zero => simp [iter]
  | succ m ih => rw [Nat.succ_add]; show f (iter f (m + n) x) = f (iter f m (iter f n x)); rw [ih]
theorem iter_inj0 {n : Nat} {x : BitVec 32} (h : iter stB n x = 0#32) : x = 0#32 := by
  induction n with
  | zero => exact h
  | succ n ih => exact ih (stB_inj0 h)
theorem iter_zero (n : Nat) : iter stB n 0#32 = 0#32 := by
  induction n with
  | zero => rfl
  | succ n ih => show stB (iter stB n 0#32) = _; rw [ih, stB_zero]
theorem iter_xor (n : Nat) (x y : BitVec 32) : iter stB n (x ^^^ y) = iter stB n x ^^^ iter stB n y := by
  induction n with
  | zero => rfl
  | succ n ih => show stB (iter stB n (x ^^^ y)) = stB _ ^^^ stB _; rw [ih, stB_xor]
def bit1 (b : Bool) : BitVec 32 := if b then 1#32 else 0#32
def feed (x : BitVec 32) (l : List Bool) : BitVec 32 := l.foldl (fun s b => stB (s ^^^ bit1 b)) x
theorem feed_append (x : BitVec 32) (l m : List Bool) : feed x (l ++ m) = feed (feed x l) m := by simp [feed]
theorem bit1_xor (a b : Bool) : bit1 (a ^^ b) = bit1 a ^^^ bit1 b := by cases a <;> cases b <;> decide
theorem feed_lin : ∀ (l m : List Bool) (x y : BitVec 32), l.length = m.length → feed (x ^^^ y) (List.zipWith (· ^^ ·) l m) = feed x l ^^^ feed y m
  | [], [], x, y, _ => rfl
  | a :: l, b :: m, x, y, h => by
    have ih := feed_lin l m (stB (x ^^^ bit1 a)) (stB (y ^^^ bit1 b)) (by simpa using h)
    show feed (stB ((x ^^^ y) ^^^ bit1 (a ^^ b))) _ = _
    have e : (x ^^^ y) ^^^ bit1 (a ^^ b) = (x ^^^ bit1 a) ^^^ (y ^^^ bit1 b) := by rw [bit1_xor]; ac_rfl
    rw [e, stB_xor]
    exact ih
/-- the word of some bits, the first one lowest -/
def word : List Bool → BitVec 32
  | [] => 0#32
  | b :: l => bit1 b ^^^ (word l <<< 1)
theorem stB_shift {x : BitVec 32} (h : x.getLsbD 31 = false) : stB (x <<< 1) = x := by
  unfold stB
  rw [if_neg (by simp)]
  apply BitVec.eq_of_getLsbD_eq
  intro i hi
  simp only [BitVec.getLsbD_ushiftRight, BitVec.getLsbD_shiftLeft]
  by_cases h31 : i = 31
  · subst h31; simpa using h.symm
  · have : 1 + i < 32 := by omega
    simp [this]
theorem word_high : ∀ (l : List Bool) (i : Nat), l.length ≤ i → (word l).getLsbD i = false
  | [], i, _ => by simp [word]
  | b :: l, i, h => by
    have h1 : 1 ≤ i := by simp at h; omega
    have ih := word_high l (i - 1) (by simp at h; omega)
    have hb : (bit1 b).getLsbD i = false := by
      cases b
      · simp [bit1]
      · simp [bit1, BitVec.getLsbD_one]; omega
    simp only [word, BitVec.getLsbD_xor, hb, BitVec.getLsbD_shiftLeft, ih]
    simp
theorem feed_word : ∀ (l : List Bool) (x : BitVec 32), l.length ≤ 32 → feed x l = iter stB l.length (x ^^^ word l)
  | [], x, _ => by simp [feed, iter, word]
  | b :: l, x, h => by
    have ih := feed_word l (stB (x ^^^ bit1 b)) (by simp at h; omega)
    show feed (stB (x ^^^ bit1 b)) l = _
    rw [ih, List.length_cons, iter_succ']
    congr 1
    show _ = stB (x ^^^ (bit1 b ^^^ (word l <<< 1)))
    have e : stB (x ^^^ bit1 b ^^^ word l <<< 1) = stB (x ^^^ bit1 b) ^^^ stB (word l <<< 1) := stB_xor _ _
    rw [← BitVec.xor_assoc, e, stB_shift (word_high l 31 (by simp at h; omega))]
theorem word_zero : ∀ (l : List Bool), l.length ≤ 32 → word l = 0#32 → ∀ b ∈ l, b = false
  | [], _, _, b, hb => by simp at hb
  | a :: l, h, e, b, hb => by
    have h0 := congrArg (fun z => z.getLsbD 0) e
    have ha : a = false := by
      cases a
      · rfl
      · simp [word, bit1] at h0
    have hl : word l = 0#32 := by
      apply BitVec.eq_of_getLsbD_eq
      intro i hi
      by_cases h31 : i = 31
      · subst h31; rw [word_high l 31 (by simp at h; omega)]; simp
      · have h1 := congrArg (fun z => z.getLsbD (i + 1)) e
        subst ha
        simp only [word, bit1, BitVec.getLsbD_xor, BitVec.getLsbD_shiftLeft] at h1
        have : i + 1 < 32 := by omega
        simpa [this] using h1
    rcases List.mem_cons.1 hb with rfl | hb
    · exact ha
    · exact word_zero l (by simp at h; omega) hl b hb
theorem feed_false (n : Nat) (x : BitVec 32) : feed x (List.replicate n false) = iter stB n x := by
  induction n generalizing x with
  | zero => rfl
  | succ n ih =>
    rw [List.replicate_succ, iter_succ']
    show feed (stB (x ^^^ bit1 false)) _ = _
    rw [show x ^^^ bit1 false = x by simp [bit1]]
    exact ih _
theorem feed_burst {p q : Nat} {d : List Bool} (hd : d.length ≤ 32) (h : feed 0#32 (List.replicate p false ++ d ++ List.replicate q false) = 0#32) : ∀ b ∈ d, b = false := by
  rw [feed_append, feed_append, feed_false, feed_false, iter_zero, feed_word d _ hd, BitVec.zero_xor] at h
  exact word_zero d hd (iter_inj0 (iter_inj0 h))
/- bytes as bits -/
def bits8 (c : UInt8) : List Bool := (List.range 8).map fun i => c.toBitVec.getLsbD i
theorem bits8_len (c : UInt8) : (bits8 c).length = 8 := by simp [bits8]
def bitsOf (l : List UInt8) : List Bool := l.flatMap bits8
theorem bitsOf_append (l m : List UInt8) : bitsOf (l ++ m) = bitsOf l ++ bitsOf m := by simp [bitsOf]
theorem bitsOf_len (l : List UInt8) : (bitsOf l).length = 8 * l.length := by
  induction l with
  | nil => rfl
  | cons a l ih => show (bits8 a ++ bitsOf l).length = _; rw [List.length_append, bits8_len, ih, List.length_cons]; omega
theorem word8 (c : UInt8) : word (bits8 c) = c.toUInt32.toBitVec := by
  have h : ∀ y : BitVec 8, word ((List.range 8).map fun i => y.getLsbD i) = y.setWidth 32 := by decide +kernel
  exact h c.toBitVec
theorem byteC_bv (x : UInt32) (c : UInt8) : (byteC x c).toBitVec = feed x.toBitVec (bits8 c) := by
  rw [feed_word _ _ (by rw [bits8_len]; decide), bits8_len, word8, byteC_eq]
  have h : ∀ (n : Nat) (y : UInt32), (iter stepC n y).toBitVec = iter stB n y.toBitVec := by
    intro n
    induction n with
    | zero => intro y; rfl
    | succ n ih => intro y; show (stepC (iter stepC n y)).toBitVec = stB (iter stB n y.toBitVec); rw [stepC_bv, ih]
  exact h 8 _
theorem fold_bv (l : List UInt8) (x : UInt32) : (l.foldl byteC x).toBitVec = feed x.toBitVec (bitsOf l) := by
  induction l generalizing x with
  | nil => rfl
  | cons c l ih =>
    show (l.foldl byteC (byteC x c)).toBitVec = feed x.toBitVec (bits8 c ++ bitsOf l)
    rw [ih, byteC_bv, feed_append]
/- the four bytes of a sum -/
theorem word_get : ∀ (l : List Bool) (i : Nat), i < 32 → (word l).getLsbD i = (l[i]?).getD false
  | [], i, _ => by simp [word]
  | b :: l, i, h => by
    cases i with
    | zero => cases b <;> simp [word, bit1]
    | succ i =>
      have ih := word_get l i (by omega)
      have hb : (bit1 b).getLsbD (i + 1) = false := by
        cases b
        · simp [bit1]
        · simp [bit1, BitVec.getLsbD_one]
      simp only [word, BitVec.getLsbD_xor, hb, BitVec.getLsbD_shiftLeft]
      simp [h, ih]
theorem le_shift : ∀ (l : List UInt8) (i : Nat), le l i = 2 ^ (8 * i) * le l 0
  | [], i => by simp [le]
  | c :: t, i => by
    have h1 := le_shift t (i + 1)
    have h2 := le_shift t 1
    show c.toNat * 2 ^ (8 * i) + le t (i + 1) = 2 ^ (8 * i) * (c.toNat * 2 ^ (8 * 0) + le t (0 + 1))
    rw [h1, show 0 + 1 = 1 from rfl, h2, show 8 * (i + 1) = 8 * i + 8 by omega, Nat.pow_add, Nat.mul_add]
    simp only [Nat.mul_zero, Nat.pow_zero, Nat.mul_one, Nat.mul_assoc, Nat.mul_comm (c.toNat), Nat.one_mul]
theorem le_cons (c : UInt8) (t : List UInt8) : le (c :: t) 0 = 2 ^ 8 * le t 0 + c.toNat := by
  show c.toNat * 2 ^ (8 * 0) + le t 1 = _
  rw [le_shift t 1]; simp; omega
theorem bits8_get (c : UInt8) (i : Nat) (h : i < 8) : (bits8 c)[i]? = some (c.toNat.testBit i) := by
  unfold bits8
  rw [List.getElem?_map, List.getElem?_range h]; rfl
theorem le_bit : ∀ (l : List UInt8) (i : Nat), (le l 0).testBit i = ((bitsOf l)[i]?).getD false
  | [], i => by simp [le, bitsOf]
  | c :: t, i => by
    rw [le_cons, Nat.testBit_two_pow_mul_add _ c.toNat_lt]
    show _ = ((bits8 c ++ bitsOf t)[i]?).getD false
    by_cases h : i < 8
    · rw [if_pos h, List.getElem?_append_left (by rw [bits8_len]; exact h), bits8_get c i h]; rfl
    · rw [if_neg h, List.getElem?_append_right (by rw [bits8_len]; omega), bits8_len, le_bit t]
theorem le_lt : ∀ (l : List UInt8), le l 0 < 2 ^ (8 * l.length)
  | [] => by simp [le]
  | c :: t => by
    have := le_lt t
    have hc := c.toNat_lt
    rw [le_cons, List.length_cons, show 8 * (t.length + 1) = 8 * t.length + 8 by omega, Nat.pow_add]
    omega
theorem word_le {l : List UInt8} (h : l.length = 4) : (word (bitsOf l)).toNat = le l 0 := by
  have hl := le_lt l
  rw [h] at hl
  have : word (bitsOf l) = BitVec.ofNat 32 (le l 0) := by
    apply BitVec.eq_of_getLsbD_eq
    intro i hi
    rw [word_get _ i hi, BitVec.getLsbD_ofNat, le_bit]
    simp [hi]
  rw [this, BitVec.toNat_ofNat, Nat.mod_eq_of_lt hl]
theorem word_sum4 (x : UInt32) : word (bitsOf (sum4 x)) = x.toBitVec := by
  apply BitVec.eq_of_getLsbD_eq
  intro i hi
  rw [word_get _ i hi]
  have e : bitsOf (sum4 x) = bits8 x.toUInt8 ++ (bits8 (x >>> 8).toUInt8 ++ (bits8 (x >>> 8 >>> 8).toUInt8 ++ (bits8 (x >>> 8 >>> 8 >>> 8).toUInt8 ++ []))) := rfl
  have g : ∀ (y : UInt32) (j : Nat), j < 8 → (bits8 y.toUInt8)[j]? = some (y.toBitVec.getLsbD j) := by
    intro y j hj
    unfold bits8
    rw [List.getElem?_map, List.getElem?_range hj]
    simp only [Option.map_some, Option.some.injEq]
    show (y.toUInt8.toBitVec).getLsbD j = _
    rw [show y.toUInt8.toBitVec = y.toBitVec.setWidth 8 from rfl, BitVec.getLsbD_setWidth]
    simp [hj]
  have sh : ∀ (y : UInt32) (j : Nat), (y >>> 8).toBitVec.getLsbD j = y.toBitVec.getLsbD (8 + j) := by
    intro y j
    show (y.toBitVec >>> (8 : BitVec 32).toNat).getLsbD j = _
    rw [BitVec.getLsbD_ushiftRight]; rfl
  rw [e]
  by_cases h1 : i < 8
  · rw [List.getElem?_append_left (by rw [bits8_len]; exact h1), g _ _ h1]; rfl
  · rw [List.getElem?_append_right (by rw [bits8_len]; omega), bits8_len]
    by_cases h2 : i < 16
    · rw [List.getElem?_append_left (by rw [bits8_len]; omega), g _ _ (by omega), sh, show 8 + (i - 8) = i by omega]; rfl
    · rw [List.getElem?_append_right (by rw [bits8_len]; omega), bits8_len]
      by_cases h3 : i < 24
      · rw [List.getElem?_append_left (by rw [bits8_len]; omega), g _ _ (by omega), sh, sh, show 8 + (8 + (i - 8 - 8)) = i by omega]; rfl
      · rw [List.getElem?_append_right (by rw [bits8_len]; omega), bits8_len, List.getElem?_append_left (by rw [bits8_len]; omega), g _ _ (by omega), sh, sh, sh, show 8 + (8 + (8 + (i - 8 - 8 - 8))) = i by omega]; rfl
theorem sum4_le (x : UInt32) : le (sum4 x) 0 = x.toNat := by
  rw [← word_le rfl, word_sum4]; rfl
/-- what a right sum makes of the state -/
theorem right_state {l s : List UInt8} (hs : s.length = 4) (h : le s 0 = (crc l).toNat) : feed (crcS []).toBitVec (bitsOf (l ++ s)) = iter stB 32 (BitVec.allOnes 32) := by
  have hw : word (bitsOf s) = (crc l).toBitVec := BitVec.eq_of_toNat_eq (by rw [word_le hs, h]; rfl)
  rw [bitsOf_append, feed_append, ← fold_bv l, feed_word _ _ (by rw [bitsOf_len, hs]; decide), bitsOf_len, hs, hw]
  congr 1
  have hy : ∀ y : BitVec 32, y ^^^ ~~~y = BitVec.allOnes 32 := by
    intro y
    apply BitVec.eq_of_getLsbD_eq
    intro i hi
    rw [BitVec.getLsbD_xor, BitVec.getLsbD_not, BitVec.getLsbD_allOnes]
    cases y.getLsbD i <;> simp [hi]
  exact hy _
theorem burst_told {l l' s' : List UInt8} {p q : Nat} {d : List Bool} (hs : s'.length = 4) (hd : d.length ≤ 32)
    (hx : bitsOf (l' ++ s') = List.zipWith (· ^^ ·) (bitsOf (l ++ sum4 (crc l))) (List.replicate p false ++ d ++ List.replicate q false))
    (hlen : (bitsOf (l ++ sum4 (crc l))).length = (List.replicate p false ++ d ++ List.replicate q false).length)
    (h : le s' 0 = (crc l').toNat) : ∀ b ∈ d, b = false := by
  have h1 := right_state hs h
  have h2 := right_state (l := l) (s := sum4 (crc l)) rfl (sum4_le _)
  have h3 := feed_lin _ _ (crcS []).toBitVec 0#32 hlen
  rw [BitVec.xor_zero, ← hx, h1, h2] at h3
  refine feed_burst hd (p := p) (q := q) ?_
  generalize feed 0#32 (List.replicate p false ++ d ++ List.replicate q false) = z at h3
  have h4 : iter stB 32 (BitVec.allOnes 32) ^^^ iter stB 32 (BitVec.allOnes 32) = iter stB 32 (BitVec.allOnes 32) ^^^ (iter stB 32 (BitVec.allOnes 32) ^^^ z) := by rw [← h3]
  rw [BitVec.xor_self, ← BitVec.xor_assoc, BitVec.xor_self, BitVec.zero_xor] at h4
  exact h4.symm
/- bits that are turned -/
def turnBit (m : List UInt8) (p : Nat) : List UInt8 := m.set (p / 8) (m.getD (p / 8) 0 ^^^ ((1 : UInt8) <<< UInt8.ofNat (p % 8)))
theorem turnBit_len (m : List UInt8) (p : Nat) : (turnBit m p).length = m.length := by simp [turnBit]
theorem bitsOf_get : ∀ (m : List UInt8) (i : Nat), (bitsOf m)[i]? = (m[i / 8]?).map fun c => c.toBitVec.getLsbD (i % 8)
  | [], i => by simp [bitsOf]
  | c :: t, i => by
    show (bits8 c ++ bitsOf t)[i]? = _
    by_cases h : i < 8
    · rw [List.getElem?_append_left (by rw [bits8_len]; exact h), show i / 8 = 0 by omega, show i % 8 = i by omega]
      unfold bits8
      rw [List.getElem?_map, List.getElem?_range h]; rfl
    · rw [List.getElem?_append_right (by rw [bits8_len]; omega), bits8_len, bitsOf_get t, show i / 8 = (i - 8) / 8 + 1 by omega, show i % 8 = (i - 8) % 8 by omega, List.getElem?_cons_succ]
theorem one_shl (j i : Nat) (hj : j < 8) (hi : i < 8) : ((1 : UInt8) <<< UInt8.ofNat j).toBitVec.getLsbD i = decide (i = j) := by
  have h : ∀ j : Fin 8, ∀ i : Fin 8, ((1 : UInt8) <<< UInt8.ofNat j.val).toBitVec.getLsbD i.val = decide (i.val = j.val) := by decide +kernel
  exact h ⟨j, hj⟩ ⟨i, hi⟩
theorem turnBit_get {m : List UInt8} {p : Nat} (hp : p < 8 * m.length) (i : Nat) : (bitsOf (turnBit m p))[i]? = (bitsOf m)[i]?.map fun b => b ^^ decide (i = p) := by
  rw [bitsOf_get, bitsOf_get, turnBit, List.getElem?_set]
  by_cases h : p / 8 = i / 8
  · rw [if_pos h, if_pos (by omega), ← h, List.getD_eq_getElem?_getD]
    have hlt : p / 8 < m.length := by omega
    rw [List.getElem?_eq_getElem hlt]
    simp only [Option.map_some, Option.getD_some, Option.some.injEq]
    show (m[p / 8].toBitVec ^^^ ((1 : UInt8) <<< UInt8.ofNat (p % 8)).toBitVec).getLsbD (i % 8) = _
    rw [BitVec.getLsbD_xor, one_shl _ _ (by omega) (by omega)]
    congr 1
    exact decide_eq_decide.2 ⟨fun e => by omega, fun e => by omega⟩
  · rw [if_neg h]
    have : ¬ i = p := fun e => h (by rw [e])
    simp [this]
    rfl
/-- the first k bits of a mask, laid over bytes from a place on -/
def turnK (mask : UInt32) (at_ : Nat) (m : List UInt8) : Nat → List UInt8
  | 0 => m
  | k + 1 => if mask.toBitVec.getLsbD k = true ∧ at_ + k < 8 * m.length then turnBit (turnK mask at_ m k) (at_ + k) else turnK mask at_ m k
theorem turnK_len (mask : UInt32) (at_ : Nat) (m : List UInt8) (k : Nat) : (turnK mask at_ m k).length = m.length := by
  induction k with
  | zero => rfl
  | succ k ih => rw [turnK]; split; rw [turnBit_len, ih]; exact ih
theorem turnK_none {mask : UInt32} {at_ : Nat} {m : List UInt8} : ∀ {k : Nat}, (∀ j < k, ¬ (mask.toBitVec.getLsbD j = true ∧ at_ + j < 8 * m.length)) → turnK mask at_ m k = m
  | 0, _ => rfl
  | k + 1, h => by rw [turnK, if_neg (h k (by omega)), turnK_none fun j hj => h j (by omega)]
theorem turnK_get (mask : UInt32) (at_ : Nat) (m : List UInt8) (k i : Nat) : (bitsOf (turnK mask at_ m k))[i]? = (bitsOf m)[i]?.map fun b => b ^^ (decide (at_ ≤ i ∧ i < at_ + k) && mask.toBitVec.getLsbD (i - at_)) := by
  induction k with
  | zero =>
    rw [decide_eq_false (show ¬ (at_ ≤ i ∧ i < at_ + 0) by omega)]
    simp [turnK]
  | succ k ih =>
    rw [turnK]
    split
    · rename_i hc
      rw [turnBit_get (by rw [turnK_len]; exact hc.2), ih, Option.map_map]
      congr 1
      funext b
      show ((b ^^ _) ^^ _) = _
      by_cases hik : i = at_ + k
      · subst hik
        have h1 : ¬ (at_ ≤ at_ + k ∧ at_ + k < at_ + k) := by omega
        have h2 : at_ ≤ at_ + k ∧ at_ + k < at_ + (k + 1) := by omega
        rw [decide_eq_false h1, decide_eq_true h2, decide_eq_true (rfl : at_ + k = at_ + k), Nat.add_sub_cancel_left, hc.1]
        cases b <;> rfl
      · have h1 : (at_ ≤ i ∧ i < at_ + (k + 1)) ↔ (at_ ≤ i ∧ i < at_ + k) := by omega
        simp only [hik, decide_false, Bool.xor_false, h1]
    · rename_i hc
      rw [ih]
      cases hb : (bitsOf m)[i]? with
      | none => rfl
      | some b =>
        simp only [Option.map_some, Option.some.injEq]
        have hi : i < 8 * m.length := by
          have := (List.getElem?_eq_some_iff.1 hb).1
          rwa [bitsOf_len] at this
        by_cases hik : i = at_ + k
        · subst hik
          have hf : mask.toBitVec.getLsbD k = false := by
            cases hm : mask.toBitVec.getLsbD k
            · rfl
            · exact absurd ⟨hm, hi⟩ hc
          simp only [Nat.add_sub_cancel_left, hf, Bool.and_false]
        · have h1 : (at_ ≤ i ∧ i < at_ + (k + 1)) ↔ (at_ ≤ i ∧ i < at_ + k) := by omega
          simp only [h1]
theorem turned_told {mask : UInt32} {at_ j : Nat} {l : List UInt8} (hat : at_ < 8 * (l.length + 4)) (hj : j < 32) (hm : mask.toBitVec.getLsbD j = true) (hb : at_ + j < 8 * (l.length + 4)) {m' : List UInt8} (h' : turnK mask at_ (l ++ sum4 (crc l)) 32 = m') :
    ¬ le (m'.drop l.length) 0 = (crc (m'.take l.length)).toNat := by
  intro h
  have hml : (l ++ sum4 (crc l)).length = l.length + 4 := by simp [sum4]
  have hm'l : m'.length = l.length + 4 := by rw [← h', turnK_len, hml]
  obtain ⟨r, hr⟩ : ∃ r, min 32 (8 * (l.length + 4) - at_) = r := ⟨_, rfl⟩
  obtain ⟨q, hq⟩ : ∃ q, at_ + r + q = 8 * (l.length + 4) := ⟨8 * (l.length + 4) - at_ - r, by omega⟩
  have hd : ∀ b ∈ (List.range r).map fun i => mask.toBitVec.getLsbD i, b = false := by
    refine burst_told (l := l) (l' := m'.take l.length) (s' := m'.drop l.length) (p := at_) (q := q) (by simp; omega) (by simp; omega) ?_ (by rw [bitsOf_len, hml]; simp; omega) h
    rw [List.take_append_drop]
    apply List.ext_getElem?
    intro i
    rw [← h', turnK_get, List.getElem?_zipWith]
    cases hbi : (bitsOf (l ++ sum4 (crc l)))[i]? with
    | none => rfl
    | some b =>
      have hi : i < 8 * (l.length + 4) := by
        have := (List.getElem?_eq_some_iff.1 hbi).1
        rwa [bitsOf_len, hml] at this
      have e : (List.replicate at_ false ++ (List.range r).map (fun i => mask.toBitVec.getLsbD i) ++ List.replicate q false)[i]? = some (decide (at_ ≤ i ∧ i < at_ + 32) && mask.toBitVec.getLsbD (i - at_)) := by
        by_cases h1 : i < at_
        · have hn : ¬ (at_ ≤ i ∧ i < at_ + 32) := by omega
          rw [List.append_assoc, List.getElem?_append_left (by simpa using h1)]
          simp [h1, hn]
        · by_cases h2 : i < at_ + r
          · have hn : at_ ≤ i ∧ i < at_ + 32 := by omega
            rw [List.getElem?_append_left (by simp; omega), List.getElem?_append_right (by simp; omega)]
            simp only [List.length_replicate, List.getElem?_map, List.getElem?_range (show i - at_ < r by omega), Option.map_some, hn, and_self, decide_true, Bool.true_and]
          · have hn : ¬ (at_ ≤ i ∧ i < at_ + 32) := by omega
            rw [List.getElem?_append_right (by simp; omega)]
            simp only [hn, decide_false, Bool.false_and, List.length_append, List.length_replicate, List.length_map, List.length_range]
            rw [List.getElem?_replicate, if_pos (by omega)]
      rw [e]; rfl
  have := hd true (List.mem_map.2 ⟨j, List.mem_range.2 (by omega), hm⟩)
  cases this
end Go.Proofs.Ytajaloaknfbobaa
