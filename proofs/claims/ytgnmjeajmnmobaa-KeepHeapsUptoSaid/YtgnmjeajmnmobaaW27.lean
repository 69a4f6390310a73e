/- What functions of layer 4 compute. -/
import Derived.Test.YtgnmjeajmnmobaaW14
import Derived.WalkKit
import Derived.Lib.Hide
import Derived.Deep.LoopGhost
import Derived.WalkSpells
set_option linter.unusedVariables false
set_option linter.unusedSimpArgs false
namespace Go.Proofs.Ytgnmjeajmnmobaa
open Go.RowKit Go.Gx Go.Gx.Kp
set_option maxRecDepth 100000
/-- a thing: its key, its number -/
abbrev TT := Int × Int
def cellsT : List TT → List Value
  | [] => []
  | x :: l => .int .i64 x.1 :: .int .i64 x.2 :: cellsT l
theorem cellsT_len : ∀ l : List TT, (cellsT l).length = l.length * 2
  | [] => rfl
  | x :: l => by simp only [cellsT, List.length_cons, cellsT_len l]; omega
theorem cellsT_get : ∀ {l : List TT} {j : Nat} {x : TT}, l[j]? = some x → (cellsT l)[j * 2]? = some (.int .i64 x.1)
  | y :: l, 0, x, h => by simp at h; subst h; simp [cellsT]
  | y :: l, j + 1, x, h => by
    have ih := cellsT_get (l := l) (j := j) (x := x) (by simpa using h)
    have e : (j + 1) * 2 = j * 2 + 1 + 1 := by omega
    rw [e]
    simp only [cellsT, List.getElem?_cons_succ]
    exact ih
/-- the first least of the first i things -/
def bst (l : List TT) : Nat → Option Nat
  | 0 => none
  | i + 1 => match bst l i with
    | none => some i
    | some q => if (l[i]?.getD (0, 0)).1 < (l[q]?.getD (0, 0)).1 then some i else some q
theorem bst_lt (l : List TT) : ∀ (i q : Nat), bst l i = some q → q < i
  | 0, q, h => by simp [bst] at h
  | i + 1, q, h => by
    unfold bst at h
    cases hb : bst l i with
    | none => rw [hb] at h; simp at h; omega
    | some q' =>
      rw [hb] at h
      have := bst_lt l i q' hb
      dsimp only at h
      split at h <;> simp at h <;> omega
def bI : Option Nat → Int
  | none => -1
  | some q => (q : Int)
set_option maxHeartbeats 4000000 in
theorem Least_spec {w0 w : World} {D : Nat → Prop} {R : List Ent} {x : Option Addr} {c n : Nat} {l : List TT} (H : Hp w0 D (R) w) (hx : Rd w0 D R x (cellsT l)) (hn : l.length = n) (hs : n ≤ 1000000) :
    Calls Try.prog 50 #[.slice x n c] w fun e w' => e = .returned (.int .i64 (bI (bst l n))) ∧ Hp w0 D R w' := by
  have HN := Lib.hid hn
  have HX := Lib.hid hx
  clear hn hx
  obtain ⟨z, hz⟩ : ∃ z, bI (bst l n) = z := ⟨_, rfl⟩
  rw [hz]
  have HZ := Lib.hid hz
  clear hz
  go_enter Try.func50, Try.ntmps50
  go_wp2_with (first
    | ((with_reducible refine gLd ?_); refine eLd H rfl rfl ?_; first | (refine kLdB 0 rfl rfl (by first | exact T2 | exact T3 | exact T4 | exact T9 | exact T22 | exact T25 | exact T27 | exact T31 | exact T34 | exact T41 | exact T42 | exact T44 | exact T47 | exact T52 | exact T53 | exact T75 | exact T97 | exact T99 | exact T101 | exact T106 | exact T107 | exact T109 | exact T112 | exact T116 | exact T118 | exact T120 | exact T137 | exact T146) rfl ?_; intro rb hrb; cases rb <;> (first | (exfalso; simp at hrb; done) | ((try simp only [decide_eq_true_eq, decide_eq_false_iff_not, beq_iff_eq, beq_eq_false_iff_ne, ne_eq, bne_iff_ne, bne_eq_false_iff_eq, Bool.not_eq_true', Bool.not_eq_false', gt_iff_lt, ge_iff_le, Int.not_lt, Int.not_le, Decidable.not_not] at hrb); (try subst hrb); (try (exfalso; omega))))) | (refine kLd 0 rfl rfl (by first | exact T2 | exact T3 | exact T4 | exact T9 | exact T22 | exact T25 | exact T27 | exact T31 | exact T34 | exact T41 | exact T42 | exact T44 | exact T47 | exact T52 | exact T53 | exact T75 | exact T97 | exact T99 | exact T101 | exact T106 | exact T107 | exact T109 | exact T112 | exact T116 | exact T118 | exact T120 | exact T137 | exact T146) rfl ?_) | (refine kLdA 0 rfl rfl (by first | exact T2 | exact T3 | exact T4 | exact T9 | exact T22 | exact T25 | exact T27 | exact T31 | exact T34 | exact T41 | exact T42 | exact T44 | exact T47 | exact T52 | exact T53 | exact T75 | exact T97 | exact T99 | exact T101 | exact T106 | exact T107 | exact T109 | exact T112 | exact T116 | exact T118 | exact T120 | exact T137 | exact T146) (Nat.le_of_ble_eq_true rfl) (by simp only [List.drop_succ_cons, List.drop_zero, List.take_succ_cons, List.take_zero, List.set_cons_zero, List.set_cons_succ]; rfl) ?_))
    | ((with_reducible refine gSt ?_); (first | (refine eSt H rfl rfl ⟨.int _ _, rfl, ?_⟩) | (refine eSt H rfl rfl ⟨.bool _, rfl, ?_⟩) | (refine eSt H rfl rfl ⟨.slice _ _ _, rfl, ?_⟩) | (refine eSt H rfl rfl ⟨.pointer _, rfl, ?_⟩) | (refine eSt H rfl rfl ⟨.string _, rfl, ?_⟩) | (refine eSt H rfl rfl ⟨.agg (List.toArray _), rfl, ?_⟩)); (first | (refine kSt 0 rfl rfl (by first | exact T2 | exact T3 | exact T4 | exact T9 | exact T22 | exact T25 | exact T27 | exact T31 | exact T34 | exact T41 | exact T42 | exact T44 | exact T47 | exact T52 | exact T53 | exact T75 | exact T97 | exact T99 | exact T101 | exact T106 | exact T107 | exact T109 | exact T112 | exact T116 | exact T118 | exact T120 | exact T137 | exact T146) rfl (Nat.le_of_ble_eq_true rfl) ?_) | (refine kStA 0 rfl rfl (by first | exact T2 | exact T3 | exact T4 | exact T9 | exact T22 | exact T25 | exact T27 | exact T31 | exact T34 | exact T41 | exact T42 | exact T44 | exact T47 | exact T52 | exact T53 | exact T75 | exact T97 | exact T99 | exact T101 | exact T106 | exact T107 | exact T109 | exact T112 | exact T116 | exact T118 | exact T120 | exact T137 | exact T146) rfl rfl (Nat.le_of_ble_eq_true rfl) ?_)); clear H; intro w1 H; simp only [List.set_cons_zero, List.set_cons_succ] at H; (try simp only [lay, List.take_zero, List.nil_append, List.length_cons, List.length_nil, Nat.zero_add, Nat.reduceAdd, List.drop_succ_cons, List.drop_zero, List.drop_nil, List.append_nil, List.take_succ_cons, List.cons_append] at H))
    | ((with_reducible refine gBx ?_); refine bxA H rfl rfl rfl ?_; clear H; intro b1 w1 H)
    | ((with_reducible refine gBs ?_); (first | (refine bs1 H rfl (by first | exact S0) rfl (Nat.le_of_ble_eq_true rfl) (Nat.le_of_ble_eq_true rfl) rfl ?_) | (refine wl_buildSlice0 rfl (by first | exact S0) H ?_)); clear H; intro b1 w1 H)
    | ((with_reducible refine gEq ?_); (first | (refine wl_cmp rfl rfl rfl rfl ?_) | (refine wl_scmp rfl rfl rfl rfl ?_)); intro rb hrb; cases rb <;> (first | (exfalso; simp at hrb; done) | ((try simp only [decide_eq_true_eq, decide_eq_false_iff_not, beq_iff_eq, beq_eq_false_iff_ne, ne_eq, bne_iff_ne, bne_eq_false_iff_eq, Bool.not_eq_true', Bool.not_eq_false', gt_iff_lt, ge_iff_le, Int.not_lt, Int.not_le, Decidable.not_not] at hrb); (try subst hrb); (try (exfalso; omega)))))
    | ((with_reducible refine gRg ?_); refine wp_region_text rfl (by decide +kernel) ?_; replace H := H.drew)
    | ((with_reducible refine EndQ.intro ?_ ?_); (· kernel_rfl)))
  go_loopg [3, 4] n (fun g v3 v4 wr => ∃ (i : Nat) (bv : Int), v3 = .int .i64 bv ∧ v4 = .int .i64 (i : Int) ∧ i + g = n ∧ Hid (bv = bI (bst l i)) ∧ Hp w0 D R wr)
  case atStart => exact ⟨0, -1, rfl, rfl, by omega, Lib.hid rfl, H⟩
  case round =>
    clear H
    obtain ⟨i, bv, rfl, rfl, hig, HB, H⟩ := hrel
    by_cases hi : i < n
    · obtain ⟨⟨k1, m1⟩, hy⟩ : ∃ y, l[i]? = some y := ⟨_, List.getElem?_eq_getElem (by rw [HN.out]; exact hi)⟩
      obtain ⟨bx, ox, rfl, hX⟩ := HX.out.some_of (by rw [cellsT_len, HN.out]; omega)
      have HKI := Lib.hid (cellsT_get hy)
      have hgp : 0 < gk := by omega
      have HG := Lib.hid hig
      cases hb : bst l i with
      | none =>
        have hbv : bv = -1 := by rw [HB.out, hb]; rfl
        subst hbv
        have HS := Lib.hid (show (i : Int) = bI (bst l (i + 1)) by simp [bst, hb, bI])
        clear hy hb hig
        go_wp2_with (first
    | ((with_reducible refine gLd ?_); first | (refine wl_loadR (k := i * 2) (hX [] _ H) rfl rfl (by first | rfl | omega) T3 HKI.out ?_) | (refine wl_loadR (k := q * 2) (hX [] _ H) rfl rfl (by first | rfl | omega) T3 HKQ.out ?_))
    | ((with_reducible refine gLd ?_); refine eLd H rfl rfl ?_; first | (refine kLdB 0 rfl rfl (by first | exact T2 | exact T3 | exact T4 | exact T9 | exact T22 | exact T25 | exact T27 | exact T31 | exact T34 | exact T41 | exact T42 | exact T44 | exact T47 | exact T52 | exact T53 | exact T75 | exact T97 | exact T99 | exact T101 | exact T106 | exact T107 | exact T109 | exact T112 | exact T116 | exact T118 | exact T120 | exact T137 | exact T146) rfl ?_; intro rb hrb; cases rb <;> (first | (exfalso; simp at hrb; done) | ((try simp only [decide_eq_true_eq, decide_eq_false_iff_not, beq_iff_eq, beq_eq_false_iff_ne, ne_eq, bne_iff_ne, bne_eq_false_iff_eq, Bool.not_eq_true', Bool.not_eq_false', gt_iff_lt, ge_iff_le, Int.not_lt, Int.not_le, Decidable.not_not] at hrb); (try subst hrb); (try (exfalso; omega))))) | (refine kLd 0 rfl rfl (by first | exact T2 | exact T3 | exact T4 | exact T9 | exact T22 | exact T25 | exact T27 | exact T31 | exact T34 | exact T41 | exact T42 | exact T44 | exact T47 | exact T52 | exact T53 | exact T75 | exact T97 | exact T99 | exact T101 | exact T106 | exact T107 | exact T109 | exact T112 | exact T116 | exact T118 | exact T120 | exact T137 | exact T146) rfl ?_) | (refine kLdA 0 rfl rfl (by first | exact T2 | exact T3 | exact T4 | exact T9 | exact T22 | exact T25 | exact T27 | exact T31 | exact T34 | exact T41 | exact T42 | exact T44 | exact T47 | exact T52 | exact T53 | exact T75 | exact T97 | exact T99 | exact T101 | exact T106 | exact T107 | exact T109 | exact T112 | exact T116 | exact T118 | exact T120 | exact T137 | exact T146) (Nat.le_of_ble_eq_true rfl) (by simp only [List.drop_succ_cons, List.drop_zero, List.take_succ_cons, List.take_zero, List.set_cons_zero, List.set_cons_succ]; rfl) ?_))
    | ((with_reducible refine gSt ?_); (first | (refine eSt H rfl rfl ⟨.int _ _, rfl, ?_⟩) | (refine eSt H rfl rfl ⟨.bool _, rfl, ?_⟩) | (refine eSt H rfl rfl ⟨.slice _ _ _, rfl, ?_⟩) | (refine eSt H rfl rfl ⟨.pointer _, rfl, ?_⟩) | (refine eSt H rfl rfl ⟨.string _, rfl, ?_⟩) | (refine eSt H rfl rfl ⟨.agg (List.toArray _), rfl, ?_⟩)); (first | (refine kSt 0 rfl rfl (by first | exact T2 | exact T3 | exact T4 | exact T9 | exact T22 | exact T25 | exact T27 | exact T31 | exact T34 | exact T41 | exact T42 | exact T44 | exact T47 | exact T52 | exact T53 | exact T75 | exact T97 | exact T99 | exact T101 | exact T106 | exact T107 | exact T109 | exact T112 | exact T116 | exact T118 | exact T120 | exact T137 | exact T146) rfl (Nat.le_of_ble_eq_true rfl) ?_) | (refine kStA 0 rfl rfl (by first | exact T2 | exact T3 | exact T4 | exact T9 | exact T22 | exact T25 | exact T27 | exact T31 | exact T34 | exact T41 | exact T42 | exact T44 | exact T47 | exact T52 | exact T53 | exact T75 | exact T97 | exact T99 | exact T101 | exact T106 | exact T107 | exact T109 | exact T112 | exact T116 | exact T118 | exact T120 | exact T137 | exact T146) rfl rfl (Nat.le_of_ble_eq_true rfl) ?_)); clear H; intro w1 H; simp only [List.set_cons_zero, List.set_cons_succ] at H; (try simp only [lay, List.take_zero, List.nil_append, List.length_cons, List.length_nil, Nat.zero_add, Nat.reduceAdd, List.drop_succ_cons, List.drop_zero, List.drop_nil, List.append_nil, List.take_succ_cons, List.cons_append] at H))
    | ((with_reducible refine gBx ?_); refine bxA H rfl rfl rfl ?_; clear H; intro b1 w1 H)
    | ((with_reducible refine gBs ?_); (first | (refine bs1 H rfl (by first | exact S0) rfl (Nat.le_of_ble_eq_true rfl) (Nat.le_of_ble_eq_true rfl) rfl ?_) | (refine wl_buildSlice0 rfl (by first | exact S0) H ?_)); clear H; intro b1 w1 H)
    | ((with_reducible refine gEq ?_); (first | (refine wl_cmp rfl rfl rfl rfl ?_) | (refine wl_scmp rfl rfl rfl rfl ?_)); intro rb hrb; cases rb <;> (first | (exfalso; simp at hrb; done) | ((try simp only [decide_eq_true_eq, decide_eq_false_iff_not, beq_iff_eq, beq_eq_false_iff_ne, ne_eq, bne_iff_ne, bne_eq_false_iff_eq, Bool.not_eq_true', Bool.not_eq_false', gt_iff_lt, ge_iff_le, Int.not_lt, Int.not_le, Decidable.not_not] at hrb); (try subst hrb); (try (exfalso; omega)))))
    | ((with_reducible refine gRg ?_); refine wp_region_text rfl (by decide +kernel) ?_; replace H := H.drew)
    | ((with_reducible refine EndQ.intro ?_ ?_); (· kernel_rfl)))
        go_roundg (gk - 1)
        case measure => omega
        case rel => exact ⟨i + 1, _, rfl, by go_num, by have := HG.out; omega, HS, H⟩
      | some q =>
        have hq := bst_lt l i q hb
        have hbv : bv = (q : Int) := by rw [HB.out, hb]; rfl
        subst hbv
        obtain ⟨⟨k2, m2⟩, hy2⟩ : ∃ y, l[q]? = some y := ⟨_, List.getElem?_eq_getElem (by rw [HN.out]; omega)⟩
        have HKQ := Lib.hid (cellsT_get hy2)
        by_cases hk : k1 < k2
        · have HS := Lib.hid (show (i : Int) = bI (bst l (i + 1)) by simp [bst, hb, hy, hy2, hk, bI])
          clear hy hy2 hb hig
          go_wp2_with (first
    | ((with_reducible refine gLd ?_); first | (refine wl_loadR (k := i * 2) (hX [] _ H) rfl rfl (by first | rfl | omega) T3 HKI.out ?_) | (refine wl_loadR (k := q * 2) (hX [] _ H) rfl rfl (by first | rfl | omega) T3 HKQ.out ?_))
    | ((with_reducible refine gLd ?_); refine eLd H rfl rfl ?_; first | (refine kLdB 0 rfl rfl (by first | exact T2 | exact T3 | exact T4 | exact T9 | exact T22 | exact T25 | exact T27 | exact T31 | exact T34 | exact T41 | exact T42 | exact T44 | exact T47 | exact T52 | exact T53 | exact T75 | exact T97 | exact T99 | exact T101 | exact T106 | exact T107 | exact T109 | exact T112 | exact T116 | exact T118 | exact T120 | exact T137 | exact T146) rfl ?_; intro rb hrb; cases rb <;> (first | (exfalso; simp at hrb; done) | ((try simp only [decide_eq_true_eq, decide_eq_false_iff_not, beq_iff_eq, beq_eq_false_iff_ne, ne_eq, bne_iff_ne, bne_eq_false_iff_eq, Bool.not_eq_true', Bool.not_eq_false', gt_iff_lt, ge_iff_le, Int.not_lt, Int.not_le, Decidable.not_not] at hrb); (try subst hrb); (try (exfalso; omega))))) | (refine kLd 0 rfl rfl (by first | exact T2 | exact T3 | exact T4 | exact T9 | exact T22 | exact T25 | exact T27 | exact T31 | exact T34 | exact T41 | exact T42 | exact T44 | exact T47 | exact T52 | exact T53 | exact T75 | exact T97 | exact T99 | exact T101 | exact T106 | exact T107 | exact T109 | exact T112 | exact T116 | exact T118 | exact T120 | exact T137 | exact T146) rfl ?_) | (refine kLdA 0 rfl rfl (by first | exact T2 | exact T3 | exact T4 | exact T9 | exact T22 | exact T25 | exact T27 | exact T31 | exact T34 | exact T41 | exact T42 | exact T44 | exact T47 | exact T52 | exact T53 | exact T75 | exact T97 | exact T99 | exact T101 | exact T106 | exact T107 | exact T109 | exact T112 | exact T116 | exact T118 | exact T120 | exact T137 | exact T146) (Nat.le_of_ble_eq_true rfl) (by simp only [List.drop_succ_cons, List.drop_zero, List.take_succ_cons, List.take_zero, List.set_cons_zero, List.set_cons_succ]; rfl) ?_))
    | ((with_reducible refine gSt ?_); (first | (refine eSt H rfl rfl ⟨.int _ _, rfl, ?_⟩) | (refine eSt H rfl rfl ⟨.bool _, rfl, ?_⟩) | (refine eSt H rfl rfl ⟨.slice _ _ _, rfl, ?_⟩) | (refine eSt H rfl rfl ⟨.pointer _, rfl, ?_⟩) | (refine eSt H rfl rfl ⟨.string _, rfl, ?_⟩) | (refine eSt H rfl rfl ⟨.agg (List.toArray _), rfl, ?_⟩)); (first | (refine kSt 0 rfl rfl (by first | exact T2 | exact T3 | exact T4 | exact T9 | exact T22 | exact T25 | exact T27 | exact T31 | exact T34 | exact T41 | exact T42 | exact T44 | exact T47 | exact T52 | exact T53 | exact T75 | exact T97 | exact T99 | exact T101 | exact T106 | exact T107 | exact T109 | exact T112 | exact T116 | exact T118 | exact T120 | exact T137 | exact T146) rfl (Nat.le_of_ble_eq_true rfl) ?_) | (refine kStA 0 rfl rfl (by first | exact T2 | exact T3 | exact T4 | exact T9 | exact T22 | exact T25 | exact T27 | exact T31 | exact T34 | exact T41 | exact T42 | exact T44 | exact T47 | exact T52 | exact T53 | exact T75 | exact T97 | exact T99 | exact T101 | exact T106 | exact T107 | exact T109 | exact T112 | exact T116 | exact T118 | exact T120 | exact T137 | exact T146) rfl rfl (Nat.le_of_ble_eq_true rfl) ?_)); clear H; intro w1 H; simp only [List.set_cons_zero, List.set_cons_succ] at H; (try simp only [lay, List.take_zero, List.nil_append, List.length_cons, List.length_nil, Nat.zero_add, Nat.reduceAdd, List.drop_succ_cons, List.drop_zero, List.drop_nil, List.append_nil, List.take_succ_cons, List.cons_append] at H))
    | ((with_reducible refine gBx ?_); refine bxA H rfl rfl rfl ?_; clear H; intro b1 w1 H)
    | ((with_reducible refine gBs ?_); (first | (refine bs1 H rfl (by first | exact S0) rfl (Nat.le_of_ble_eq_true rfl) (Nat.le_of_ble_eq_true rfl) rfl ?_) | (refine wl_buildSlice0 rfl (by first | exact S0) H ?_)); clear H; intro b1 w1 H)
    | ((with_reducible refine gEq ?_); (first | (refine wl_cmp rfl rfl rfl rfl ?_) | (refine wl_scmp rfl rfl rfl rfl ?_)); intro rb hrb; cases rb <;> (first | (exfalso; simp at hrb; done) | ((try simp only [decide_eq_true_eq, decide_eq_false_iff_not, beq_iff_eq, beq_eq_false_iff_ne, ne_eq, bne_iff_ne, bne_eq_false_iff_eq, Bool.not_eq_true', Bool.not_eq_false', gt_iff_lt, ge_iff_le, Int.not_lt, Int.not_le, Decidable.not_not] at hrb); (try subst hrb); (try (exfalso; omega)))))
    | ((with_reducible refine gRg ?_); refine wp_region_text rfl (by decide +kernel) ?_; replace H := H.drew)
    | ((with_reducible refine EndQ.intro ?_ ?_); (· kernel_rfl)))
          go_roundg (gk - 1)
          case measure => omega
          case rel => exact ⟨i + 1, _, rfl, by go_num, by have := HG.out; omega, HS, H⟩
        · have HS := Lib.hid (show (q : Int) = bI (bst l (i + 1)) by simp [bst, hb, hy, hy2, hk, bI])
          clear hy hy2 hb hig
          go_wp2_with (first
    | ((with_reducible refine gLd ?_); first | (refine wl_loadR (k := i * 2) (hX [] _ H) rfl rfl (by first | rfl | omega) T3 HKI.out ?_) | (refine wl_loadR (k := q * 2) (hX [] _ H) rfl rfl (by first | rfl | omega) T3 HKQ.out ?_))
    | ((with_reducible refine gLd ?_); refine eLd H rfl rfl ?_; first | (refine kLdB 0 rfl rfl (by first | exact T2 | exact T3 | exact T4 | exact T9 | exact T22 | exact T25 | exact T27 | exact T31 | exact T34 | exact T41 | exact T42 | exact T44 | exact T47 | exact T52 | exact T53 | exact T75 | exact T97 | exact T99 | exact T101 | exact T106 | exact T107 | exact T109 | exact T112 | exact T116 | exact T118 | exact T120 | exact T137 | exact T146) rfl ?_; intro rb hrb; cases rb <;> (first | (exfalso; simp at hrb; done) | ((try simp only [decide_eq_true_eq, decide_eq_false_iff_not, beq_iff_eq, beq_eq_false_iff_ne, ne_eq, bne_iff_ne, bne_eq_false_iff_eq, Bool.not_eq_true', Bool.not_eq_false', gt_iff_lt, ge_iff_le, Int.not_lt, Int.not_le, Decidable.not_not] at hrb); (try subst hrb); (try (exfalso; omega))))) | (refine kLd 0 rfl rfl (by first | exact T2 | exact T3 | exact T4 | exact T9 | exact T22 | exact T25 | exact T27 | exact T31 | exact T34 | exact T41 | exact T42 | exact T44 | exact T47 | exact T52 | exact T53 | exact T75 | exact T97 | exact T99 | exact T101 | exact T106 | exact T107 | exact T109 | exact T112 | exact T116 | exact T118 | exact T120 | exact T137 | exact T146) rfl ?_) | (refine kLdA 0 rfl rfl (by first | exact T2 | exact T3 | exact T4 | exact T9 | exact T22 | exact T25 | exact T27 | exact T31 | exact T34 | exact T41 | exact T42 | exact T44 | exact T47 | exact T52 | exact T53 | exact T75 | exact T97 | exact T99 | exact T101 | exact T106 | exact T107 | exact T109 | exact T112 | exact T116 | exact T118 | exact T120 | exact T137 | exact T146) (Nat.le_of_ble_eq_true rfl) (by simp only [List.drop_succ_cons, List.drop_zero, List.take_succ_cons, List.take_zero, List.set_cons_zero, List.set_cons_succ]; rfl) ?_))
    | ((with_reducible refine gSt ?_); (first | (refine eSt H rfl rfl ⟨.int _ _, rfl, ?_⟩) | (refine eSt H rfl rfl ⟨.bool _, rfl, ?_⟩) | (refine eSt H rfl rfl ⟨.slice _ _ _, rfl, ?_⟩) | (refine eSt H rfl rfl ⟨.pointer _, rfl, ?_⟩) | (refine eSt H rfl rfl ⟨.string _, rfl, ?_⟩) | (refine eSt H rfl rfl ⟨.agg (List.toArray _), rfl, ?_⟩)); (first | (refine kSt 0 rfl rfl (by first | exact T2 | exact T3 | exact T4 | exact T9 | exact T22 | exact T25 | exact T27 | exact T31 | exact T34 | exact T41 | exact T42 | exact T44 | exact T47 | exact T52 | exact T53 | exact T75 | exact T97 | exact T99 | exact T101 | exact T106 | exact T107 | exact T109 | exact T112 | exact T116 | exact T118 | exact T120 | exact T137 | exact T146) rfl (Nat.le_of_ble_eq_true rfl) ?_) | (refine kStA 0 rfl rfl (by first | exact T2 | exact T3 | exact T4 | exact T9 | exact T22 | exact T25 | exact T27 | exact T31 | exact T34 | exact T41 | exact T42 | exact T44 | exact T47 | exact T52 | exact T53 | exact T75 | exact T97 | exact T99 | exact T101 | exact T106 | exact T107 | exact T109 | exact T112 | exact T116 | exact T118 | exact T120 | exact T137 | exact T146) rfl rfl (Nat.le_of_ble_eq_true rfl) ?_)); clear H; intro w1 H; simp only [List.set_cons_zero, List.set_cons_succ] at H; (try simp only [lay, List.take_zero, List.nil_append, List.length_cons, List.length_nil, Nat.zero_add, Nat.reduceAdd, List.drop_succ_cons, List.drop_zero, List.drop_nil, List.append_nil, List.take_succ_cons, List.cons_append] at H))
    | ((with_reducible refine gBx ?_); refine bxA H rfl rfl rfl ?_; clear H; intro b1 w1 H)
    | ((with_reducible refine gBs ?_); (first | (refine bs1 H rfl (by first | exact S0) rfl (Nat.le_of_ble_eq_true rfl) (Nat.le_of_ble_eq_true rfl) rfl ?_) | (refine wl_buildSlice0 rfl (by first | exact S0) H ?_)); clear H; intro b1 w1 H)
    | ((with_reducible refine gEq ?_); (first | (refine wl_cmp rfl rfl rfl rfl ?_) | (refine wl_scmp rfl rfl rfl rfl ?_)); intro rb hrb; cases rb <;> (first | (exfalso; simp at hrb; done) | ((try simp only [decide_eq_true_eq, decide_eq_false_iff_not, beq_iff_eq, beq_eq_false_iff_ne, ne_eq, bne_iff_ne, bne_eq_false_iff_eq, Bool.not_eq_true', Bool.not_eq_false', gt_iff_lt, ge_iff_le, Int.not_lt, Int.not_le, Decidable.not_not] at hrb); (try subst hrb); (try (exfalso; omega)))))
    | ((with_reducible refine gRg ?_); refine wp_region_text rfl (by decide +kernel) ?_; replace H := H.drew)
    | ((with_reducible refine EndQ.intro ?_ ?_); (· kernel_rfl)))
          go_roundg (gk - 1)
          case measure => omega
          case rel => exact ⟨i + 1, _, rfl, by go_num, by have := HG.out; omega, HS, H⟩
    · have ei : i = n := by omega
      subst ei
      have e : bv = z := by rw [HB.out, HZ.out]
      subst e
      clear hig hi
      go_wp2_with (first
    | ((with_reducible refine gLd ?_); refine eLd H rfl rfl ?_; first | (refine kLdB 0 rfl rfl (by first | exact T2 | exact T3 | exact T4 | exact T9 | exact T22 | exact T25 | exact T27 | exact T31 | exact T34 | exact T41 | exact T42 | exact T44 | exact T47 | exact T52 | exact T53 | exact T75 | exact T97 | exact T99 | exact T101 | exact T106 | exact T107 | exact T109 | exact T112 | exact T116 | exact T118 | exact T120 | exact T137 | exact T146) rfl ?_; intro rb hrb; cases rb <;> (first | (exfalso; simp at hrb; done) | ((try simp only [decide_eq_true_eq, decide_eq_false_iff_not, beq_iff_eq, beq_eq_false_iff_ne, ne_eq, bne_iff_ne, bne_eq_false_iff_eq, Bool.not_eq_true', Bool.not_eq_false', gt_iff_lt, ge_iff_le, Int.not_lt, Int.not_le, Decidable.not_not] at hrb); (try subst hrb); (try (exfalso; omega))))) | (refine kLd 0 rfl rfl (by first | exact T2 | exact T3 | exact T4 | exact T9 | exact T22 | exact T25 | exact T27 | exact T31 | exact T34 | exact T41 | exact T42 | exact T44 | exact T47 | exact T52 | exact T53 | exact T75 | exact T97 | exact T99 | exact T101 | exact T106 | exact T107 | exact T109 | exact T112 | exact T116 | exact T118 | exact T120 | exact T137 | exact T146) rfl ?_) | (refine kLdA 0 rfl rfl (by first | exact T2 | exact T3 | exact T4 | exact T9 | exact T22 | exact T25 | exact T27 | exact T31 | exact T34 | exact T41 | exact T42 | exact T44 | exact T47 | exact T52 | exact T53 | exact T75 | exact T97 | exact T99 | exact T101 | exact T106 | exact T107 | exact T109 | exact T112 | exact T116 | exact T118 | exact T120 | exact T137 | exact T146) (Nat.le_of_ble_eq_true rfl) (by simp only [List.drop_succ_cons, List.drop_zero, List.take_succ_cons, List.take_zero, List.set_cons_zero, List.set_cons_succ]; rfl) ?_))
    | ((with_reducible refine gSt ?_); (first | (refine eSt H rfl rfl ⟨.int _ _, rfl, ?_⟩) | (refine eSt H rfl rfl ⟨.bool _, rfl, ?_⟩) | (refine eSt H rfl rfl ⟨.slice _ _ _, rfl, ?_⟩) | (refine eSt H rfl rfl ⟨.pointer _, rfl, ?_⟩) | (refine eSt H rfl rfl ⟨.string _, rfl, ?_⟩) | (refine eSt H rfl rfl ⟨.agg (List.toArray _), rfl, ?_⟩)); (first | (refine kSt 0 rfl rfl (by first | exact T2 | exact T3 | exact T4 | exact T9 | exact T22 | exact T25 | exact T27 | exact T31 | exact T34 | exact T41 | exact T42 | exact T44 | exact T47 | exact T52 | exact T53 | exact T75 | exact T97 | exact T99 | exact T101 | exact T106 | exact T107 | exact T109 | exact T112 | exact T116 | exact T118 | exact T120 | exact T137 | exact T146) rfl (Nat.le_of_ble_eq_true rfl) ?_) | (refine kStA 0 rfl rfl (by first | exact T2 | exact T3 | exact T4 | exact T9 | exact T22 | exact T25 | exact T27 | exact T31 | exact T34 | exact T41 | exact T42 | exact T44 | exact T47 | exact T52 | exact T53 | exact T75 | exact T97 | exact T99 | exact T101 | exact T106 | exact T107 | exact T109 | exact T112 | exact T116 | exact T118 | exact T120 | exact T137 | exact T146) rfl rfl (Nat.le_of_ble_eq_true rfl) ?_)); clear H; intro w1 H; simp only [List.set_cons_zero, List.set_cons_succ] at H; (try simp only [lay, List.take_zero, List.nil_append, List.length_cons, List.length_nil, Nat.zero_add, Nat.reduceAdd, List.drop_succ_cons, List.drop_zero, List.drop_nil, List.append_nil, List.take_succ_cons, List.cons_append] at H))
    | ((with_reducible refine gBx ?_); refine bxA H rfl rfl rfl ?_; clear H; intro b1 w1 H)
    | ((with_reducible refine gBs ?_); (first | (refine bs1 H rfl (by first | exact S0) rfl (Nat.le_of_ble_eq_true rfl) (Nat.le_of_ble_eq_true rfl) rfl ?_) | (refine wl_buildSlice0 rfl (by first | exact S0) H ?_)); clear H; intro b1 w1 H)
    | ((with_reducible refine gEq ?_); (first | (refine wl_cmp rfl rfl rfl rfl ?_) | (refine wl_scmp rfl rfl rfl rfl ?_)); intro rb hrb; cases rb <;> (first | (exfalso; simp at hrb; done) | ((try simp only [decide_eq_true_eq, decide_eq_false_iff_not, beq_iff_eq, beq_eq_false_iff_ne, ne_eq, bne_iff_ne, bne_eq_false_iff_eq, Bool.not_eq_true', Bool.not_eq_false', gt_iff_lt, ge_iff_le, Int.not_lt, Int.not_le, Decidable.not_not] at hrb); (try subst hrb); (try (exfalso; omega)))))
    | ((with_reducible refine gRg ?_); refine wp_region_text rfl (by decide +kernel) ?_; replace H := H.drew)
    | ((with_reducible refine EndQ.intro ?_ ?_); (· kernel_rfl)))
      all_goals (go_ret; exact ⟨rfl, H⟩)
end Go.Proofs.Ytgnmjeajmnmobaa
