/- What functions of layer 2 compute. -/
import Derived.Test.YtfcmjddpoacenaaW6
import Derived.WalkKit
import Derived.Lib.Hide
import Derived.Deep.LoopGhost
import Derived.WalkSpells
set_option linter.unusedVariables false
set_option linter.unusedSimpArgs false
namespace Go.Proofs.Ytfcmjddpoacenaa
open Go.RowKit Go.Gx Go.Gx.Dsk
set_option maxRecDepth 100000
theorem bs2 {P : Program} {w0 w : World} {D : Nat → Prop} {L : List Ent} {ops : Array Oper} {Q : Exit → Act → World → Prop} {a : Act} {rest : List Oper} {e : TypeId} {z : Value} {m : Nat} {u v : Value} {dst : Option Tmp} {t ty : TypeId} {x y : Operand} {pos : String} {af : Array Edge} {g : Option (Nat × Bool)} (H : Hp w0 D L w)
    (hw : Region.wanted ⟨dst, .buildSlice t 2 #[(0, x), (1, y)], ty, pos, af, g⟩ (yielded ops a.tmps) = true) (hx : a.eval x = u) (hy : a.eval y = v) (ht : sI P t = some (e, z, 1, m)) (hu : u.cells = #[u]) (hv : v.cells = #[v])
    (k : ∀ b w', Hp w0 D (⟨some b, [u, v], e, 2⟩ :: L) w' → wpList P ops Q rest (a.put dst (.slice (some ⟨b, 0, none⟩) 2 2)) w') : wpList P ops Q (⟨dst, .buildSlice t 2 #[(0, x), (1, y)], ty, pos, af, g⟩ :: rest) a w := by
  obtain ⟨hun, i, hi, hz, hsz, rfl, hzs⟩ := sI_spec ht
  have hH := H.alloc #[u, v] e [u, v] rfl
  refine wl_run (v := .slice (some ⟨w.heap.size, 0, none⟩) 2 2) (w' := w.alloc (.cells #[u, v] e)) hw ?_ (k _ _ hH)
  have hfill : Instr.fill (fun j => some (j, 1)) ((Array.range 2).map fun j => z.cells[j % z.cells.size]!) [(0, u), (1, v)] = some #[u, v] := by
    simp [Instr.fill, hu, hv]
    apply Array.ext
    · simp
    · intro j h1 h2
      simp at h2
      rcases j with _ | _ | j
      · simp [Array.getElem_setIfInBounds]
      · simp [Array.getElem_setIfInBounds]
      · omega
  simp [execOp, Instr.buildSlice, run_underlying hun, sizeOf, typeInfo, zeroValue, hi, hz, hx, hy, hsz, hfill, newRow]
theorem Write_at {w0 w : World} {D : Nat → Prop} {R : List Ent} {p : Nat} {f b l : Option Nat} {cf cb cl : Nat} {s : Dk} {s1 : Dk} {i c : Int} {t : ByteArray} (H : Hp w0 D (eD 72 p f b l cf cb cl (s) :: eS f cf (s).first :: eS b cb (s).now :: eW l cl (s).log :: R) w) (h1 : writeE s i t = c) (h2 : s.write i t = s1) (hl : s.log.length ≤ 2000000) : Calls Try.prog 15 #[.pointer (some ⟨p, 0, none⟩), .int .i64 i, .string t] w fun e w' => ∃ l' cl', e = .returned (.int .i64 c) ∧ Hp w0 D (eD 72 p f b l' cf cb cl' (s1) :: eS f cf (s1).first :: eS b cb (s1).now :: eW l' cl' (s1).log :: R) w' := by
  subst h1 h2
  have := Write_spec H i t hl
  refine this.mono fun e w' ⟨l2, cl2, he, hh⟩ => ⟨l2, cl2, he, ?_⟩
  exact hh
theorem Arm_at {w0 w : World} {D : Nat → Prop} {R : List Ent} {p : Nat} {f b l : Option Nat} {cf cb cl : Nat} {s : Dk} {s1 : Dk} {n c : Int} (H : Hp w0 D (eD 72 p f b l cf cb cl (s) :: eS f cf (s).first :: eS b cb (s).now :: eW l cl (s).log :: R) w) (h1 : armE n = c) (h2 : s.arm n = s1) : Calls Try.prog 18 #[.pointer (some ⟨p, 0, none⟩), .int .i64 n] w fun e w' => e = .returned (.int .i64 c) ∧ Hp w0 D (eD 72 p f b l cf cb cl (s1) :: eS f cf (s1).first :: eS b cb (s1).now :: eW l cl (s1).log :: R) w' := by
  subst h1 h2
  have := Arm_spec H n
  exact this.mono fun e w' ⟨he, hh⟩ => ⟨he, by have e1 : (s.arm n).first = s.first := by (unfold Dk.arm; split <;> rfl)
                                               have e2 : (s.arm n).now = s.now := by (unfold Dk.arm; split <;> rfl)
                                               have e3 : (s.arm n).log = s.log := by (unfold Dk.arm; split <;> rfl)
                                               exact hh⟩
theorem Start_at {w0 w : World} {D : Nat → Prop} {R : List Ent} {p : Nat} {f b l : Option Nat} {cf cb cl : Nat} {s : Dk} {s1 : Dk} (H : Hp w0 D (eD 72 p f b l cf cb cl (s) :: eS f cf (s).first :: eS b cb (s).now :: eW l cl (s).log :: R) w) (h2 : s.start = s1) : Calls Try.prog 34 #[.pointer (some ⟨p, 0, none⟩)] w fun e w' => e = .returned (.tuple #[]) ∧ Hp w0 D (eD 72 p f b l cf cb cl (s1) :: eS f cf (s1).first :: eS b cb (s1).now :: eW l cl (s1).log :: R) w' := by
  subst h2
  exact Start_spec H
theorem Read_at {w0 w : World} {D : Nat → Prop} {R : List Ent} {p : Nat} {f b l : Option Nat} {cf cb cl : Nat} {s : Dk} {i c : Int} {t : ByteArray} (H : Hp w0 D (eD 72 p f b l cf cb cl (s) :: eS f cf (s).first :: eS b cb (s).now :: eW l cl (s).log :: R) w) (h1 : readE s i = c) (h2 : readS s i = t) : Calls Try.prog 32 #[.pointer (some ⟨p, 0, none⟩), .int .i64 i] w fun e w' => e = .returned (.tuple #[.string t, .int .i64 c]) ∧ Hp w0 D (eD 72 p f b l cf cb cl (s) :: eS f cf (s).first :: eS b cb (s).now :: eW l cl (s).log :: R) w' := by
  subst h1 h2
  exact Read_spec H i
theorem Cut_at {w0 w : World} {D : Nat → Prop} {R : List Ent} {p : Nat} {f b l : Option Nat} {cf cb cl : Nat} {s : Dk} {s1 : Dk} {n : Nat} {m : Int} (H : Hp w0 D (eD 72 p f b l cf cb cl (s) :: eS f cf (s).first :: eS b cb (s).now :: eW l cl (s).log :: R) w) (hm : m = n) (h2 : s.cut n = s1) (hn : n ≤ s.log.length) (hl : s.log.length ≤ 2000000) (hf : s.first.length ≤ 2000000) (hok : s.ok) : Calls Try.prog 23 #[.pointer (some ⟨p, 0, none⟩), .int .i64 m] w fun e w' => ∃ p2 f2 b2 l2 cf2 cb2 cl2, e = .returned (.tuple #[.pointer (some ⟨p2, 0, none⟩), .int .i64 0]) ∧ Hp w0 D (eD 72 p2 f2 b2 l2 cf2 cb2 cl2 (s1) :: eS f2 cf2 (s1).first :: eS b2 cb2 (s1).now :: eW l2 cl2 (s1).log :: eD 72 p f b l cf cb cl (s) :: eS f cf (s).first :: eS b cb (s).now :: eW l cl (s).log :: R) w' := by
  subst hm h2
  exact Cut_ok H n hn hl hf hok
theorem New_at {w0 w : World} {D : Nat → Prop} {R : List Ent} {s1 : Dk} {n : Nat} {m : Int} (H : Hp w0 D (R) w) (hm : m = n) (h1 : 1 ≤ n) (h2 : n ≤ 4096) (hs : Dk.made (List.replicate n bmt) = s1) : Calls Try.prog 11 #[.int .i64 m] w fun e w' => ∃ bm p f b cf cb, e = .returned (.tuple #[.pointer (some ⟨p, 0, none⟩), .int .i64 0]) ∧ Hp w0 D (eD 72 p f b none cf cb 0 (s1) :: eS f cf (s1).first :: eS b cb (s1).now :: eW none 0 (s1).log :: eS (some bm) n (List.replicate n bmt) :: R) w' := by
  subst hm hs
  exact New_ok H n h1 h2
theorem Dead_at {w0 w : World} {D : Nat → Prop} {R : List Ent} {p : Nat} {f b l : Option Nat} {cf cb cl : Nat} {s : Dk} {c : Bool} (H : Hp w0 D (eD 72 p f b l cf cb cl (s) :: eS f cf (s).first :: eS b cb (s).now :: eW l cl (s).log :: R) w) (h1 : s.off = c) : Calls Try.prog 26 #[.pointer (some ⟨p, 0, none⟩)] w fun e w' => e = .returned (.bool c) ∧ Hp w0 D (eD 72 p f b l cf cb cl (s) :: eS f cf (s).first :: eS b cb (s).now :: eW l cl (s).log :: R) w' := by
  subst h1
  exact Dead_spec H
theorem Writes_at {w0 w : World} {D : Nat → Prop} {R : List Ent} {p : Nat} {f b l : Option Nat} {cf cb cl : Nat} {s : Dk} {c : Int} (H : Hp w0 D (eD 72 p f b l cf cb cl (s) :: eS f cf (s).first :: eS b cb (s).now :: eW l cl (s).log :: R) w) (h1 : (s.log.length : Int) = c) : Calls Try.prog 19 #[.pointer (some ⟨p, 0, none⟩)] w fun e w' => e = .returned (.int .i64 c) ∧ Hp w0 D (eD 72 p f b l cf cb cl (s) :: eS f cf (s).first :: eS b cb (s).now :: eW l cl (s).log :: R) w' := by
  subst h1
  exact Writes_spec H
theorem Image_at {w0 w : World} {D : Nat → Prop} {R : List Ent} {p : Nat} {f b l : Option Nat} {cf cb cl : Nat} {s : Dk} {n : Nat} {l1 : List ByteArray} (H : Hp w0 D (eD 72 p f b l cf cb cl (s) :: eS f cf (s).first :: eS b cb (s).now :: eW l cl (s).log :: R) w) (hl : s.now.length ≤ 2000000) (h1 : s.now.length = n) (h2 : s.now = l1) : Calls Try.prog 25 #[.pointer (some ⟨p, 0, none⟩)] w fun e w' => ∃ a' c', e = .returned (.slice (adr a' 0) n c') ∧ Hp w0 D (eS a' c' l1 :: eD 72 p f b l cf cb cl (s) :: eS f cf (s).first :: eS b cb (s).now :: eW l cl (s).log :: R) w' := by
  subst h1 h2
  exact Image_spec H hl
theorem Texts_at {w0 w : World} {D : Nat → Prop} {R : List Ent} {x y : Option Addr} {c1 c2 n m : Nat} {l1 l2 : List ByteArray} {r : Bool} (H : Hp w0 D (R) w) (h1 : l1.length = n) (h2 : l2.length = m) (hr : lEq l1 l2 = r) (hX : Rd w0 D R x (strs l1)) (hY : Rd w0 D R y (strs l2)) (hl : l1.length ≤ 2000000) : Calls Try.prog 24 #[.slice x n c1, .slice y m c2] w fun e w' => e = .returned (.bool r) ∧ Hp w0 D R w' := by
  subst h1 h2 hr
  exact Texts_spec H hX hY hl
def v0 : Dk := ⟨[bmt, bmt], [bmt, bmt], [], false, 0, false⟩
def v1 : Dk := ⟨[bmt, bmt], [(⟨#[97]⟩ : ByteArray), bmt], [⟨0, (⟨#[97]⟩ : ByteArray)⟩], false, 0, false⟩
def v2 : Dk := ⟨[bmt, bmt], [(⟨#[97]⟩ : ByteArray), bmt], [⟨0, (⟨#[97]⟩ : ByteArray)⟩], true, 1, false⟩
def v3 : Dk := ⟨[bmt, bmt], [(⟨#[97]⟩ : ByteArray), (⟨#[98]⟩ : ByteArray)], [⟨0, (⟨#[97]⟩ : ByteArray)⟩, ⟨1, (⟨#[98]⟩ : ByteArray)⟩], true, 0, false⟩
def v4 : Dk := ⟨[bmt, bmt], [(⟨#[97]⟩ : ByteArray), (⟨#[98]⟩ : ByteArray)], [⟨0, (⟨#[97]⟩ : ByteArray)⟩, ⟨1, (⟨#[98]⟩ : ByteArray)⟩], true, 0, true⟩
def v5 : Dk := ⟨[bmt, bmt], [(⟨#[97]⟩ : ByteArray), (⟨#[98]⟩ : ByteArray)], [⟨0, (⟨#[97]⟩ : ByteArray)⟩, ⟨1, (⟨#[98]⟩ : ByteArray)⟩], false, 0, false⟩
def v6 : Dk := ⟨[bmt, bmt], [(⟨#[97]⟩ : ByteArray), bmt], [⟨0, (⟨#[97]⟩ : ByteArray)⟩], false, 0, false⟩
theorem v5_ok : v5.ok := ⟨rfl, by intro w hw; simp [v5] at hw; rcases hw with rfl | rfl <;> simp [v5], rfl⟩
theorem x1 : writeE v0 0 (⟨#[97]⟩ : ByteArray) = 0 := by decide +kernel
theorem x2 : v0.write 0 (⟨#[97]⟩ : ByteArray) = v1 := by simp [Dk.write, x1]; rfl
theorem x3 : writeE v2 1 (⟨#[98]⟩ : ByteArray) = 0 := by decide +kernel
theorem x4 : v2.write 1 (⟨#[98]⟩ : ByteArray) = v3 := by simp [Dk.write, x3]; simp [Dk.put, v2, v3]; decide +kernel
theorem x5 : writeE v3 0 (⟨#[99]⟩ : ByteArray) = 20 := by decide +kernel
theorem x6 : v3.write 0 (⟨#[99]⟩ : ByteArray) = v4 := by simp [Dk.write, x5]; rfl
theorem x7 : readE v4 0 = 20 := by decide +kernel
theorem x8 : readS v4 0 = bmt := by simp [readS, x7]
theorem x9 : readE v5 0 = 0 := by decide +kernel
theorem x10 : readS v5 0 = (⟨#[97]⟩ : ByteArray) := read_val (k := 0) x9 rfl
theorem y1 : (2 : Int) = ((2 : Nat) : Int) := rfl
theorem y2 : 1 ≤ 2 := by decide
theorem y3 : 2 ≤ 4096 := by decide
theorem y4 : Dk.made (List.replicate 2 bmt) = v0 := rfl
theorem y5 : (0 : Int) < 1 ∨ (4096 : Int) < 0 := .inl (by decide)
theorem y6 : v0.log.length ≤ 2000000 := by decide
theorem y7 : v2.log.length ≤ 2000000 := by decide
theorem y8 : v3.log.length ≤ 2000000 := by decide
theorem y9 : armE 1 = 0 := rfl
theorem y10 : v1.arm 1 = v2 := rfl
theorem y11 : v4.off = true := rfl
theorem y12 : v4.start = v5 := rfl
theorem y13 : (1 : Int) = ((1 : Nat) : Int) := rfl
theorem y14 : v5.cut 1 = v6 := rfl
theorem y15 : 1 ≤ v5.log.length := by decide
theorem y16 : v5.log.length ≤ 2000000 := by decide
theorem y17 : v5.first.length ≤ 2000000 := by decide
theorem y18 : v6.now.length ≤ 2000000 := by decide
theorem y19 : v6.now.length = 2 := rfl
theorem y20 : v6.now = [(⟨#[97]⟩ : ByteArray), bmt] := rfl
theorem y21 : (v5.log.length : Int) = 2 := rfl
set_option maxHeartbeats 4000000 in
theorem live_spec {w0 w : World} {D : Nat → Prop} {R : List Ent}  (H : Hp w0 D (R) w)  :
    Calls Try.prog 10 #[] w fun e w' => e = .returned (.bool true) ∧ Hp w0 D R w' := by
  try simp only [dkC, Wr.cells, bmt, eD, eS, eW] at H
  go_enter Try.func10, Try.ntmps10
  go_wp2_with (first
    | (refine bs2 H rfl rfl rfl S33 rfl rfl ?_; clear H; intro b9 w1 H)
    | (go_at_call 11; ((with_reducible refine (New_at (s1 := v0) (n := 2) H y1 y2 y3 y4).mono ?_); rintro e w1 ⟨bm, p, f, b, cf, cb, rfl, H1⟩; clear H; have H := H1; clear H1))
    | (go_at_call 11; ((with_reducible refine (New_arg H 0 y5).mono ?_); rintro e w1 ⟨rfl, H1⟩; clear H; have H := H1; clear H1))
    | (go_at_call 15; ((with_reducible refine (Write_at (s := v0) (s1 := v1) (t := (⟨#[97]⟩ : ByteArray)) H x1 x2 y6).mono ?_); rintro e w1 ⟨l1, cl1, rfl, H1⟩; clear H; have H := H1; clear H1))
    | (go_at_call 15; ((with_reducible refine (Write_at (s := v2) (s1 := v3) (t := (⟨#[98]⟩ : ByteArray)) H x3 x4 y7).mono ?_); rintro e w1 ⟨l2, cl2, rfl, H1⟩; clear H; have H := H1; clear H1))
    | (go_at_call 15; ((with_reducible refine (Write_at (s := v3) (s1 := v4) (t := (⟨#[99]⟩ : ByteArray)) H x5 x6 y8).mono ?_); rintro e w1 ⟨l3, cl3, rfl, H1⟩; clear H; have H := H1; clear H1))
    | (go_at_call 18; ((with_reducible refine (Arm_at (s := v1) (s1 := v2) (n := 1) H y9 y10).mono ?_); rintro e w1 ⟨rfl, H1⟩; clear H; have H := H1; clear H1))
    | (go_at_call 32; ((with_reducible refine (Read_at (s := v4) (i := 0) H x7 x8).mono ?_); rintro e w1 ⟨rfl, H1⟩; clear H; have H := H1; clear H1))
    | (go_at_call 32; ((with_reducible refine (Read_at (s := v5) (i := 0) H x9 x10).mono ?_); rintro e w1 ⟨rfl, H1⟩; clear H; have H := H1; clear H1))
    | (go_at_call 26; ((with_reducible refine (Dead_at (s := v4) H y11).mono ?_); rintro e w1 ⟨rfl, H1⟩; clear H; have H := H1; clear H1))
    | (go_at_call 34; ((with_reducible refine (Start_at (s := v4) (s1 := v5) H y12).mono ?_); rintro e w1 ⟨rfl, H1⟩; clear H; have H := H1; clear H1))
    | (go_at_call 23; ((with_reducible refine (Cut_at (s := v5) (s1 := v6) (n := 1) H y13 y14 y15 y16 y17 v5_ok).mono ?_); rintro e w1 ⟨p6, f6, b6, l6, cf6, cb6, cl6, rfl, H1⟩; clear H; have H := H1; clear H1))
    | (go_at_call 25; ((with_reducible refine (Image_at (s := v6) (n := 2) (l1 := [(⟨#[97]⟩ : ByteArray), bmt]) H y18 y19 y20).mono ?_); rintro e w1 ⟨a7, c7, rfl, H1⟩; clear H; have H := H1; clear H1))
    | (go_at_call 24; refine (Texts_at (l1 := [(⟨#[97]⟩ : ByteArray), bmt]) (l2 := [(⟨#[97]⟩ : ByteArray), bmt]) H rfl rfl (lEq_true rfl) (Rd.ent H (i := 1) rfl) (Rd.ent H (i := 0) rfl) (by decide)).mono ?_; rintro e w1 ⟨rfl, H1⟩; clear H; have H := H1.dropL (A := [_, _, _, _, _, _]); clear H1)
    | (go_at_call 19; ((with_reducible refine (Writes_at (s := v5) (c := 2) H y21).mono ?_); rintro e w1 ⟨rfl, H1⟩; clear H; have H := H1; clear H1))
    | (go_at_call 13; ((with_reducible refine (num_spec H _).mono ?_); rintro e w1 ⟨rfl, H1⟩; clear H; have H := H1; clear H1))
    | ((with_reducible refine gLd ?_); refine eLd H rfl rfl ?_; first | (refine kLdB 0 rfl rfl (by first | exact T3 | exact T4 | exact T9 | exact T23 | exact T27 | exact T31 | exact T33 | exact T45 | exact T37 | exact T41 | exact T50 | exact T52 | exact T69 | exact T72) rfl ?_; intro rb hrb; cases rb <;> (first | (exfalso; simp at hrb; done) | ((try simp only [decide_eq_true_eq, decide_eq_false_iff_not, beq_iff_eq, beq_eq_false_iff_ne, ne_eq, bne_iff_ne, bne_eq_false_iff_eq, Bool.not_eq_true', Bool.not_eq_false', gt_iff_lt, ge_iff_le, Int.not_lt, Int.not_le, Decidable.not_not] at hrb); (try subst hrb); (try (exfalso; omega))))) | (refine kLdB 1 rfl rfl (by first | exact T3 | exact T4 | exact T9 | exact T23 | exact T27 | exact T31 | exact T33 | exact T45 | exact T37 | exact T41 | exact T50 | exact T52 | exact T69 | exact T72) rfl ?_; intro rb hrb; cases rb <;> (first | (exfalso; simp at hrb; done) | ((try simp only [decide_eq_true_eq, decide_eq_false_iff_not, beq_iff_eq, beq_eq_false_iff_ne, ne_eq, bne_iff_ne, bne_eq_false_iff_eq, Bool.not_eq_true', Bool.not_eq_false', gt_iff_lt, ge_iff_le, Int.not_lt, Int.not_le, Decidable.not_not] at hrb); (try subst hrb); (try (exfalso; omega))))) | (refine kLd 0 rfl rfl (by first | exact T3 | exact T4 | exact T9 | exact T23 | exact T27 | exact T31 | exact T33 | exact T45 | exact T37 | exact T41 | exact T50 | exact T52 | exact T69 | exact T72) rfl ?_) | (refine kLd 1 rfl rfl (by first | exact T3 | exact T4 | exact T9 | exact T23 | exact T27 | exact T31 | exact T33 | exact T45 | exact T37 | exact T41 | exact T50 | exact T52 | exact T69 | exact T72) rfl ?_) | (refine kLdA 0 rfl rfl (by first | exact T3 | exact T4 | exact T9 | exact T23 | exact T27 | exact T31 | exact T33 | exact T45 | exact T37 | exact T41 | exact T50 | exact T52 | exact T69 | exact T72) (Nat.le_of_ble_eq_true rfl) (by simp only [dkC, Wr.cells, bmt, eD, eS, eW, List.drop_succ_cons, List.drop_zero, List.take_succ_cons, List.take_zero, List.set_cons_zero, List.set_cons_succ]; rfl) ?_) | (refine kLdA 1 rfl rfl (by first | exact T3 | exact T4 | exact T9 | exact T23 | exact T27 | exact T31 | exact T33 | exact T45 | exact T37 | exact T41 | exact T50 | exact T52 | exact T69 | exact T72) (Nat.le_of_ble_eq_true rfl) (by simp only [dkC, Wr.cells, bmt, eD, eS, eW, List.drop_succ_cons, List.drop_zero, List.take_succ_cons, List.take_zero, List.set_cons_zero, List.set_cons_succ]; rfl) ?_))
    | ((with_reducible refine gSt ?_); (first | (refine eSt H rfl rfl ⟨.int _ _, rfl, ?_⟩) | (refine eSt H rfl rfl ⟨.bool _, rfl, ?_⟩) | (refine eSt H rfl rfl ⟨.slice _ _ _, rfl, ?_⟩) | (refine eSt H rfl rfl ⟨.pointer _, rfl, ?_⟩) | (refine eSt H rfl rfl ⟨.string _, rfl, ?_⟩) | (refine eSt H rfl rfl ⟨.agg (List.toArray _), rfl, ?_⟩)); (first | (refine kSt 0 rfl rfl (by first | exact T3 | exact T4 | exact T9 | exact T23 | exact T27 | exact T31 | exact T33 | exact T45 | exact T37 | exact T41 | exact T50 | exact T52 | exact T69 | exact T72) rfl (Nat.le_of_ble_eq_true rfl) ?_) | (refine kSt 1 rfl rfl (by first | exact T3 | exact T4 | exact T9 | exact T23 | exact T27 | exact T31 | exact T33 | exact T45 | exact T37 | exact T41 | exact T50 | exact T52 | exact T69 | exact T72) rfl (Nat.le_of_ble_eq_true rfl) ?_) | (refine kStA 0 rfl rfl (by first | exact T3 | exact T4 | exact T9 | exact T23 | exact T27 | exact T31 | exact T33 | exact T45 | exact T37 | exact T41 | exact T50 | exact T52 | exact T69 | exact T72) rfl rfl (Nat.le_of_ble_eq_true rfl) ?_) | (refine kStA 1 rfl rfl (by first | exact T3 | exact T4 | exact T9 | exact T23 | exact T27 | exact T31 | exact T33 | exact T45 | exact T37 | exact T41 | exact T50 | exact T52 | exact T69 | exact T72) rfl rfl (Nat.le_of_ble_eq_true rfl) ?_)); clear H; intro w1 H; simp only [List.set_cons_zero, List.set_cons_succ] at H; (try simp only [lay, List.take_zero, List.nil_append, List.length_cons, List.length_nil, Nat.zero_add, Nat.reduceAdd, List.drop_succ_cons, List.drop_zero, List.drop_nil, List.append_nil, List.take_succ_cons, List.cons_append] at H))
    | ((with_reducible refine gBx ?_); refine bxA H rfl rfl rfl ?_; clear H; intro b1 w1 H)
    | ((with_reducible refine gBs ?_); (first | (refine bs1 H rfl (by first | exact S33 | exact S45 | exact S31) rfl (Nat.le_of_ble_eq_true rfl) (Nat.le_of_ble_eq_true rfl) rfl ?_) | (refine wl_buildSlice0 rfl (by first | exact S33 | exact S45 | exact S31) H ?_)); clear H; intro b1 w1 H)
    | ((with_reducible refine gEq ?_); (first | (refine wl_cmp rfl rfl rfl rfl ?_) | (refine wl_scmp rfl rfl rfl rfl ?_)); intro rb hrb; cases rb <;> (first | (exfalso; simp at hrb; done) | ((try simp only [decide_eq_true_eq, decide_eq_false_iff_not, beq_iff_eq, beq_eq_false_iff_ne, ne_eq, bne_iff_ne, bne_eq_false_iff_eq, Bool.not_eq_true', Bool.not_eq_false', gt_iff_lt, ge_iff_le, Int.not_lt, Int.not_le, Decidable.not_not] at hrb); (try subst hrb); (try (exfalso; omega)))))
    | ((with_reducible refine gEq ?_); (first | (refine wl_eqAgg G50 (eq50 9998 ⟨_, _⟩ ⟨_, _⟩) rfl rfl rfl ?_) | (refine wl_neAgg G50 (eq50 9998 ⟨_, _⟩ ⟨_, _⟩) rfl rfl rfl ?_)); intro rb hrb; cases rb <;> (try simp only [Bool.not_true, Bool.not_false]))
    | ((with_reducible refine gAl ?_); (first | (refine al H Z50 rfl rfl ?_) | (refine al H Z41 rfl rfl ?_)); clear H; intro b1 w1 H)
    | ((with_reducible refine gRg ?_); refine wp_region_text rfl (by decide +kernel) ?_; replace H := H.drew)
    | ((with_reducible refine EndQ.intro ?_ ?_); (· kernel_rfl)))
  all_goals go_ret
  all_goals exact ⟨rfl, H.dropL (A := [_, _, _, _, _])⟩
end Go.Proofs.Ytfcmjddpoacenaa
