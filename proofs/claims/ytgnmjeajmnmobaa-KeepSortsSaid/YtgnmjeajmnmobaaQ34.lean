/- What functions of layer 4 compute. -/
import Derived.Test.YtgnmjeajmnmobaaW14
import Derived.Test.YtgnmjeajmnmobaaQ31
import Derived.Test.YtgnmjeajmnmobaaQ32
import Derived.Test.YtgnmjeajmnmobaaGxSub
import Derived.Test.YtgnmjeajmnmobaaGxMk
import Derived.Test.YtgnmjeajmnmobaaGxRegionT
import Derived.WalkKit
import Derived.Lib.Hide
import Derived.Deep.LoopGhost
import Derived.WalkSpells
set_option linter.unusedVariables false
set_option linter.unusedSimpArgs false
namespace Go.Proofs.Ytgnmjeajmnmobaa
open Go.RowKit Go.Gx Go.Gx.Kp
set_option maxRecDepth 100000
theorem S78 : sI Try.prog 78 = some (4, .bool false, 1, 1) := by kernel_rfl
theorem some_ent41 {w0 w : World} {D : Nat → Prop} {L : List Ent} {i : Nat} {a : Option Nat} {xs : List Value} {e : TypeId} {N : Nat} (H : Hp w0 D L w) (hi : L[i]? = some ⟨a, xs, e, N⟩) (hx : 0 < xs.length) : ∃ b, a = some b := by
  have h := H.ents i _ hi
  unfold Ent.at at h
  cases a with
  | none => simp only [] at h; rw [h.1] at hx; simp at hx
  | some b => exact ⟨b, rfl⟩
/-- the things pushed so far -/
def thgs (l : List Int) : Nat → List HT
  | 0 => []
  | i + 1 => thgs l i ++ [(l[i]?.getD 0, (i : Int), (i : Int))]
theorem thgs_len (l : List Int) : ∀ i, (thgs l i).length = i
  | 0 => rfl
  | i + 1 => by simp [thgs, thgs_len l i]
theorem thgs_mem (l : List Int) : ∀ i (x : HT), x ∈ thgs l i → ∃ j : Nat, j < i ∧ x = (l[j]?.getD 0, (j : Int), (j : Int))
  | 0, x, h => by simp [thgs] at h
  | i + 1, x, h => by
    rcases List.mem_append.1 h with h | h
    · obtain ⟨j, hj, e⟩ := thgs_mem l i x h; exact ⟨j, by omega, e⟩
    · simp at h; exact ⟨i, by omega, h⟩
/-- a least there is -/
theorem HI41.min {l v : List HT} (h : HI41 l v) (hp : 0 < v.length) : ∃ q z, Min41 v q z := by
  obtain ⟨h1, h2, h3⟩ := h
  have hpos : 0 < l.length := by rw [h2.length_eq]; exact hp
  obtain ⟨r, hr⟩ : ∃ r, l[0]? = some r := ⟨_, List.getElem?_eq_getElem hpos⟩
  have hrv : r ∈ v := h2.subset (List.mem_of_getElem? hr)
  obtain ⟨q, hq⟩ := List.getElem?_of_mem hrv
  refine ⟨q, r, hq, fun j x hx hj => ?_⟩
  have hle : ah41 x r = false := by
    have := hroot (le := fun a b : HT => ah41 b a = false) le41_rf le41_tr h1 x (h2.symm.subset (List.mem_of_getElem? hx)); rwa [fl_get hr] at this
  have hne : x.2.2 ≠ r.2.2 := by
    by_cases hjq : j < q
    · have := pw_get h3 hx hq hjq; omega
    · have := pw_get h3 hq hx (by omega); omega
  rw [ah41_no] at hle
  rw [ah41_iff]
  omega
/-- what is known while the heap is emptied -/
def SI (L : List Int) (sb : List Bool) (v : List HT) : Prop := ∀ x ∈ v, ∃ j : Nat, j < L.length ∧ L[j]? = some x.1 ∧ x.2.1 = (j : Int) ∧ x.2.2 = (j : Int) ∧ sb[j]? = some false
def LI (t1 t2 : Int) (v : List HT) : Prop := ∀ x ∈ v, x.1 < t1 ∨ (x.1 = t1 ∧ t2 ≤ x.2.1)
theorem SI.start (L : List Int) : SI L (List.replicate L.length false) (thgs L L.length) := fun x hx => by
  obtain ⟨j, hj, rfl⟩ := thgs_mem L _ x hx
  refine ⟨j, hj, ?_, rfl, rfl, by simp [hj]⟩
  simp [hj]
theorem erase_mem {v : List HT} {q : Nat} {x : HT} (h : x ∈ v.eraseIdx q) : ∃ j, j ≠ q ∧ v[j]? = some x := by
  obtain ⟨j, hj⟩ := List.getElem?_of_mem h
  rw [List.getElem?_eraseIdx] at hj
  split at hj
  · exact ⟨j, by omega, hj⟩
  · exact ⟨j + 1, by omega, hj⟩
theorem SI.step {L : List Int} {sb : List Bool} {l v : List HT} {q j : Nat} {z1 : Int} (h : SI L sb v) (hh : HI41 l v) (hm : Min41 v q (z1, (j : Int), (j : Int))) : SI L (sb.set j true) (v.eraseIdx q) := fun x hx => by
  obtain ⟨i, hi, hxi⟩ := erase_mem hx
  obtain ⟨j', h1, h2, h3, h4, h5⟩ := h x (List.mem_of_getElem? hxi)
  refine ⟨j', h1, h2, h3, h4, ?_⟩
  have hne : j ≠ j' := by
    by_cases hiq : i < q
    · have := pw_get hh.2.2 hxi hm.1 hiq; simp only at this; omega
    · have := pw_get hh.2.2 hm.1 hxi (by omega); simp only at this; omega
  rw [List.getElem?_set_ne hne]
  exact h5
theorem LI.step {L : List Int} {sb : List Bool} {v : List HT} {q j : Nat} {z1 : Int} (h : SI L sb v) (hm : Min41 v q (z1, (j : Int), (j : Int))) : LI z1 (j : Int) (v.eraseIdx q) := fun x hx => by
  obtain ⟨i, hi, hxi⟩ := erase_mem hx
  obtain ⟨j', h1, h2, h3, h4, h5⟩ := h x (List.mem_of_getElem? hxi)
  have := (ah41_iff _ _).1 (hm.2 i x hxi hi)
  simp only at this
  omega
def bools (l : List Bool) : List Value := l.map .bool
theorem bools_len (l : List Bool) : (bools l).length = l.length := by simp [bools]
theorem bools_get {l : List Bool} {j : Nat} {x : Bool} (h : l[j]? = some x) : (bools l)[j]? = some (.bool x) := by simp [bools, h]
theorem bools_rep (n : Nat) : List.replicate n (Value.bool false) = bools (List.replicate n false) := by simp [bools]
theorem bools_set (l : List Bool) (j : Nat) (x : Bool) : (bools l).set j (.bool x) = bools (l.set j x) := by simp [bools, List.map_set]
def PushR (w0 : World) (D : Nat → Prop) (p n k : Nat) (R : List Ent) (LF : List HT) (e : Ending) (w' : World) : Prop :=
  ∃ a' c', e = .returned (.tuple #[]) ∧ Hp w0 D (eHp 41 p (some a') (n + 1) c' (k + 1) :: eHl (some a') c' LF :: R) w'
theorem Push41_c {w0 w : World} {D : Nat → Prop} {R : List Ent} {p n c k : Nat} {a : Option Nat} {l LF : List HT} {key num : Int} (H : Hp w0 D (eHp 41 p a n c k :: eHl a c l :: R) w) (hn : l.length = n) (hs : n ≤ 1000) (hk : k ≤ 1000000) (hlf : up ((0, 0, 0) : HT) ah41 (l ++ [(key, num, (k : Int))]) n = LF) :
    Calls Try.prog 42 #[.pointer (some ⟨p, 0, none⟩), .agg (List.toArray [.int .i64 key, .int .i64 num])] w fun e w' => PushR w0 D p n k R LF e w' := Push41_spec H hn hs hk hlf
set_option maxHeartbeats 8000000 in
theorem Sorts_spec {w0 w : World} {D : Nat → Prop} {x : Option Addr} {cx n : Nat} {l : List Int} (H : Hp w0 D ([]) w) (hx : Rd w0 D [] x (ints l)) (hn : l.length = n) :
    Calls Try.prog 8 #[.slice x n cx] w fun e w' => e = .returned (.bool true) ∧ ∃ L, Hp w0 D L w' := by
  have HN := Lib.hid hn
  have HX := Lib.hid hx
  clear hn hx
  by_cases hn8 : 200 < n
  · go_enter Try.func8, Try.ntmps8
    go_wp2_with (first
    | (go_at_call 13; ((with_reducible refine (live_spec H).mono ?_); rintro e w1 ⟨rfl, H1⟩; clear H; have H := H1; clear H1))
    | ((with_reducible refine gLd ?_); refine eLd H rfl rfl ?_; first | (refine kLd 0 rfl rfl (by first | exact T3 | exact T4 | exact T75 | exact T76 | exact T116 | exact T118 | exact T120) rfl ?_) | (refine kLdA 0 rfl rfl (by first | exact T3 | exact T4 | exact T75 | exact T76 | exact T116 | exact T118 | exact T120) (Nat.le_of_ble_eq_true rfl) (by simp only [List.drop_succ_cons, List.drop_zero, List.take_succ_cons, List.take_zero, List.set_cons_zero, List.set_cons_succ]; rfl) ?_))
    | ((with_reducible refine gSt ?_); (first | (refine eSt H rfl rfl ⟨.int _ _, rfl, ?_⟩) | (refine eSt H rfl rfl ⟨.bool _, rfl, ?_⟩) | (refine eSt H rfl rfl ⟨.slice _ _ _, rfl, ?_⟩) | (refine eSt H rfl rfl ⟨.pointer _, rfl, ?_⟩) | (refine eSt H rfl rfl ⟨.string _, rfl, ?_⟩) | (refine eSt H rfl rfl ⟨.agg (List.toArray _), rfl, ?_⟩)); (first | (refine kSt 0 rfl rfl (by first | exact T3 | exact T4 | exact T75 | exact T76 | exact T116 | exact T118 | exact T120) rfl (Nat.le_of_ble_eq_true rfl) ?_) | (refine kStA 0 rfl rfl (by first | exact T3 | exact T4 | exact T75 | exact T76 | exact T116 | exact T118 | exact T120) rfl rfl (Nat.le_of_ble_eq_true rfl) ?_)); clear H; intro w1 H; simp only [List.set_cons_zero, List.set_cons_succ] at H; (try simp only [lay, List.take_zero, List.nil_append, List.length_cons, List.length_nil, Nat.zero_add, Nat.reduceAdd, List.drop_succ_cons, List.drop_zero, List.drop_nil, List.append_nil, List.take_succ_cons, List.cons_append] at H))
    | ((with_reducible refine gBx ?_); refine bxA H rfl rfl rfl ?_; clear H; intro b1 w1 H)
    | ((with_reducible refine gBs ?_); (first | (refine bs1 H rfl (by first | exact S0) rfl (Nat.le_of_ble_eq_true rfl) (Nat.le_of_ble_eq_true rfl) rfl ?_) | (refine wl_buildSlice0 rfl (by first | exact S0) H ?_)); clear H; intro b1 w1 H)
    | ((with_reducible refine gEq ?_); (first | (refine wl_cmp rfl rfl rfl rfl ?_) | (refine wl_scmp rfl rfl rfl rfl ?_)); intro rb hrb; cases rb <;> (first | (exfalso; simp at hrb; done) | ((try simp only [decide_eq_true_eq, decide_eq_false_iff_not, beq_iff_eq, beq_eq_false_iff_ne, ne_eq, bne_iff_ne, bne_eq_false_iff_eq, Bool.not_eq_true', Bool.not_eq_false', gt_iff_lt, ge_iff_le, Int.not_lt, Int.not_le, Decidable.not_not] at hrb); (try subst hrb); (try (exfalso; omega)))))
    | ((with_reducible refine gAl ?_); (first | (refine al H Z75 rfl rfl ?_)); clear H; intro b1 w1 H)
    | ((with_reducible refine gRg ?_); refine wp_region_text rfl (by decide +kernel) ?_; replace H := H.drew)
    | ((with_reducible refine EndQ.intro ?_ ?_); (· kernel_rfl)))
    all_goals (go_ret; exact ⟨rfl, _, H⟩)
  go_enter Try.func8, Try.ntmps8
  go_wp2_with (first
    | (go_at_call 40; ((with_reducible refine (NewHeap41 H).mono ?_); rintro e w1 ⟨p, rfl, H1⟩; clear H; have H := H1; clear H1))
    | ((with_reducible refine gLd ?_); refine eLd H rfl rfl ?_; first | (refine kLd 0 rfl rfl (by first | exact T3 | exact T4 | exact T75 | exact T76 | exact T116 | exact T118 | exact T120) rfl ?_) | (refine kLdA 0 rfl rfl (by first | exact T3 | exact T4 | exact T75 | exact T76 | exact T116 | exact T118 | exact T120) (Nat.le_of_ble_eq_true rfl) (by simp only [List.drop_succ_cons, List.drop_zero, List.take_succ_cons, List.take_zero, List.set_cons_zero, List.set_cons_succ]; rfl) ?_))
    | ((with_reducible refine gSt ?_); (first | (refine eSt H rfl rfl ⟨.int _ _, rfl, ?_⟩) | (refine eSt H rfl rfl ⟨.bool _, rfl, ?_⟩) | (refine eSt H rfl rfl ⟨.slice _ _ _, rfl, ?_⟩) | (refine eSt H rfl rfl ⟨.pointer _, rfl, ?_⟩) | (refine eSt H rfl rfl ⟨.string _, rfl, ?_⟩) | (refine eSt H rfl rfl ⟨.agg (List.toArray _), rfl, ?_⟩)); (first | (refine kSt 0 rfl rfl (by first | exact T3 | exact T4 | exact T75 | exact T76 | exact T116 | exact T118 | exact T120) rfl (Nat.le_of_ble_eq_true rfl) ?_) | (refine kStA 0 rfl rfl (by first | exact T3 | exact T4 | exact T75 | exact T76 | exact T116 | exact T118 | exact T120) rfl rfl (Nat.le_of_ble_eq_true rfl) ?_)); clear H; intro w1 H; simp only [List.set_cons_zero, List.set_cons_succ] at H; (try simp only [lay, List.take_zero, List.nil_append, List.length_cons, List.length_nil, Nat.zero_add, Nat.reduceAdd, List.drop_succ_cons, List.drop_zero, List.drop_nil, List.append_nil, List.take_succ_cons, List.cons_append] at H))
    | ((with_reducible refine gBx ?_); refine bxA H rfl rfl rfl ?_; clear H; intro b1 w1 H)
    | ((with_reducible refine gBs ?_); (first | (refine bs1 H rfl (by first | exact S0) rfl (Nat.le_of_ble_eq_true rfl) (Nat.le_of_ble_eq_true rfl) rfl ?_) | (refine wl_buildSlice0 rfl (by first | exact S0) H ?_)); clear H; intro b1 w1 H)
    | ((with_reducible refine gEq ?_); (first | (refine wl_cmp rfl rfl rfl rfl ?_) | (refine wl_scmp rfl rfl rfl rfl ?_)); intro rb hrb; cases rb <;> (first | (exfalso; simp at hrb; done) | ((try simp only [decide_eq_true_eq, decide_eq_false_iff_not, beq_iff_eq, beq_eq_false_iff_ne, ne_eq, bne_iff_ne, bne_eq_false_iff_eq, Bool.not_eq_true', Bool.not_eq_false', gt_iff_lt, ge_iff_le, Int.not_lt, Int.not_le, Decidable.not_not] at hrb); (try subst hrb); (try (exfalso; omega)))))
    | ((with_reducible refine gAl ?_); (first | (refine al H Z75 rfl rfl ?_)); clear H; intro b1 w1 H)
    | ((with_reducible refine gRg ?_); refine wp_region_text rfl (by decide +kernel) ?_; replace H := H.drew)
    | ((with_reducible refine EndQ.intro ?_ ?_); (· kernel_rfl)))
  go_loopg [4] n (fun g v4 wr => ∃ (i c : Nat) (a : Option Nat) (lh : List HT), v4 = .int .i64 (i : Int) ∧ i + g = n ∧ Hid (HI41 lh (thgs l i)) ∧ Hp w0 D (eHp 41 p a i c i :: eHl a c lh :: []) wr)
  case atStart => exact ⟨0, 0, none, [], rfl, by omega, Lib.hid HI41.nil, (H.consNone 120).swap (A := [_]) (B := [_])⟩
  case round =>
    clear H
    obtain ⟨i, c, a, lh, rfl, hjg, HI, H⟩ := hrel
    by_cases hi : i < n
    · obtain ⟨key, hy⟩ : ∃ y, l[i]? = some y := ⟨_, List.getElem?_eq_getElem (by rw [HN.out]; exact hi)⟩
      obtain ⟨bx0, ox, rfl, hX⟩ := HX.out.some_of (by rw [ints_len, HN.out]; omega)
      have hA : ∀ (L : List Ent) (w' : World), Hp w0 D L w' → ∀ (j : Nat) (v : Value), (ints l)[j]? = some v → w'.cell? ⟨bx0, ox + j, none⟩ = some v := fun L w' h => hX L w' (by rw [List.append_nil]; exact h)
      have HKI := Lib.hid (show (ints l)[i]? = some (.int .i64 key) by simp [ints, hy])
      obtain ⟨LF, hlf⟩ : ∃ z, up ((0, 0, 0) : HT) ah41 (lh ++ [(key, (i : Int), (i : Int))]) i = z := ⟨_, rfl⟩
      have hln : lh.length = i := by rw [HI.out.2.1.length_eq, thgs_len]
      have HI2 : Hid (HI41 LF (thgs l (i + 1))) := Lib.hid (by
        have := HI.out.push (key, (i : Int), (i : Int)) (fun y hy => by obtain ⟨j, hj, rfl⟩ := thgs_mem l _ y hy; show (j : Int) < (i : Int); omega)
        rw [hln, hlf] at this
        simpa [thgs, hy] using this)
      have HLL := Lib.hid hln
      have HLF := Lib.hid hlf
      have HGN := Lib.hid hjg
      have hgp : 0 < gk := by omega
      clear hy hX hjg hln hlf
      go_wp2_with (first
    | ((with_reducible refine gLd ?_); refine wl_loadR (k := i) (hA _ _ H) rfl rfl (by first | rfl | omega) T3 HKI.out ?_)
    | (go_at_call 42; ((with_reducible refine (Push41_c H HLL.out (by omega) (by omega) HLF.out).mono ?_); rintro e w1 ⟨a1, c1, rfl, H1⟩; clear H; have H := H1; clear H1))
    | ((with_reducible refine gLd ?_); refine eLd H rfl rfl ?_; first | (refine kLd 0 rfl rfl (by first | exact T3 | exact T4 | exact T75 | exact T76 | exact T116 | exact T118 | exact T120) rfl ?_) | (refine kLdA 0 rfl rfl (by first | exact T3 | exact T4 | exact T75 | exact T76 | exact T116 | exact T118 | exact T120) (Nat.le_of_ble_eq_true rfl) (by simp only [List.drop_succ_cons, List.drop_zero, List.take_succ_cons, List.take_zero, List.set_cons_zero, List.set_cons_succ]; rfl) ?_))
    | ((with_reducible refine gSt ?_); (first | (refine eSt H rfl rfl ⟨.int _ _, rfl, ?_⟩) | (refine eSt H rfl rfl ⟨.bool _, rfl, ?_⟩) | (refine eSt H rfl rfl ⟨.slice _ _ _, rfl, ?_⟩) | (refine eSt H rfl rfl ⟨.pointer _, rfl, ?_⟩) | (refine eSt H rfl rfl ⟨.string _, rfl, ?_⟩) | (refine eSt H rfl rfl ⟨.agg (List.toArray _), rfl, ?_⟩)); (first | (refine kSt 0 rfl rfl (by first | exact T3 | exact T4 | exact T75 | exact T76 | exact T116 | exact T118 | exact T120) rfl (Nat.le_of_ble_eq_true rfl) ?_) | (refine kStA 0 rfl rfl (by first | exact T3 | exact T4 | exact T75 | exact T76 | exact T116 | exact T118 | exact T120) rfl rfl (Nat.le_of_ble_eq_true rfl) ?_)); clear H; intro w1 H; simp only [List.set_cons_zero, List.set_cons_succ] at H; (try simp only [lay, List.take_zero, List.nil_append, List.length_cons, List.length_nil, Nat.zero_add, Nat.reduceAdd, List.drop_succ_cons, List.drop_zero, List.drop_nil, List.append_nil, List.take_succ_cons, List.cons_append] at H))
    | ((with_reducible refine gBx ?_); refine bxA H rfl rfl rfl ?_; clear H; intro b1 w1 H)
    | ((with_reducible refine gBs ?_); (first | (refine bs1 H rfl (by first | exact S0) rfl (Nat.le_of_ble_eq_true rfl) (Nat.le_of_ble_eq_true rfl) rfl ?_) | (refine wl_buildSlice0 rfl (by first | exact S0) H ?_)); clear H; intro b1 w1 H)
    | ((with_reducible refine gEq ?_); (first | (refine wl_cmp rfl rfl rfl rfl ?_) | (refine wl_scmp rfl rfl rfl rfl ?_)); intro rb hrb; cases rb <;> (first | (exfalso; simp at hrb; done) | ((try simp only [decide_eq_true_eq, decide_eq_false_iff_not, beq_iff_eq, beq_eq_false_iff_ne, ne_eq, bne_iff_ne, bne_eq_false_iff_eq, Bool.not_eq_true', Bool.not_eq_false', gt_iff_lt, ge_iff_le, Int.not_lt, Int.not_le, Decidable.not_not] at hrb); (try subst hrb); (try (exfalso; omega)))))
    | ((with_reducible refine gAl ?_); (first | (refine al H Z75 rfl rfl ?_)); clear H; intro b1 w1 H)
    | ((with_reducible refine gRg ?_); refine wp_region_text rfl (by decide +kernel) ?_; replace H := H.drew)
    | ((with_reducible refine EndQ.intro ?_ ?_); (· kernel_rfl)))
      go_roundg (gk - 1)
      case measure => omega
      case rel => exact ⟨i + 1, c1, some a1, LF, by go_num, by have := HGN.out; omega, HI2, H⟩
    · have ej : n = i := by omega
      subst ej
      clear hi hjg
      have HSI0 : Hid (SI l (List.replicate n false) (thgs l n)) := Lib.hid (by have := SI.start l; rwa [HN.out] at this)
      go_wp2_with (first
    | ((with_reducible refine gMk ?_); refine wl_make (n := n) rfl rfl rfl H S78 rfl (by omega) (by omega) ?_; clear H; intro sd w1 H; rw [bools_rep] at H)
    | ((with_reducible refine gAl ?_); (refine al H Z75 rfl rfl ?_); clear H; intro bt w1 H)
    | ((with_reducible refine gLd ?_); refine eLd H rfl rfl ?_; first | (refine kLd 0 rfl rfl (by first | exact T3 | exact T4 | exact T75 | exact T76 | exact T116 | exact T118 | exact T120) rfl ?_) | (refine kLdA 0 rfl rfl (by first | exact T3 | exact T4 | exact T75 | exact T76 | exact T116 | exact T118 | exact T120) (Nat.le_of_ble_eq_true rfl) (by simp only [List.drop_succ_cons, List.drop_zero, List.take_succ_cons, List.take_zero, List.set_cons_zero, List.set_cons_succ]; rfl) ?_))
    | ((with_reducible refine gSt ?_); (first | (refine eSt H rfl rfl ⟨.int _ _, rfl, ?_⟩) | (refine eSt H rfl rfl ⟨.bool _, rfl, ?_⟩) | (refine eSt H rfl rfl ⟨.slice _ _ _, rfl, ?_⟩) | (refine eSt H rfl rfl ⟨.pointer _, rfl, ?_⟩) | (refine eSt H rfl rfl ⟨.string _, rfl, ?_⟩) | (refine eSt H rfl rfl ⟨.agg (List.toArray _), rfl, ?_⟩)); (first | (refine kSt 0 rfl rfl (by first | exact T3 | exact T4 | exact T75 | exact T76 | exact T116 | exact T118 | exact T120) rfl (Nat.le_of_ble_eq_true rfl) ?_) | (refine kStA 0 rfl rfl (by first | exact T3 | exact T4 | exact T75 | exact T76 | exact T116 | exact T118 | exact T120) rfl rfl (Nat.le_of_ble_eq_true rfl) ?_)); clear H; intro w1 H; simp only [List.set_cons_zero, List.set_cons_succ] at H; (try simp only [lay, List.take_zero, List.nil_append, List.length_cons, List.length_nil, Nat.zero_add, Nat.reduceAdd, List.drop_succ_cons, List.drop_zero, List.drop_nil, List.append_nil, List.take_succ_cons, List.cons_append] at H))
    | ((with_reducible refine gBx ?_); refine bxA H rfl rfl rfl ?_; clear H; intro b1 w1 H)
    | ((with_reducible refine gBs ?_); (first | (refine bs1 H rfl (by first | exact S0) rfl (Nat.le_of_ble_eq_true rfl) (Nat.le_of_ble_eq_true rfl) rfl ?_) | (refine wl_buildSlice0 rfl (by first | exact S0) H ?_)); clear H; intro b1 w1 H)
    | ((with_reducible refine gEq ?_); (first | (refine wl_cmp rfl rfl rfl rfl ?_) | (refine wl_scmp rfl rfl rfl rfl ?_)); intro rb hrb; cases rb <;> (first | (exfalso; simp at hrb; done) | ((try simp only [decide_eq_true_eq, decide_eq_false_iff_not, beq_iff_eq, beq_eq_false_iff_ne, ne_eq, bne_iff_ne, bne_eq_false_iff_eq, Bool.not_eq_true', Bool.not_eq_false', gt_iff_lt, ge_iff_le, Int.not_lt, Int.not_le, Decidable.not_not] at hrb); (try subst hrb); (try (exfalso; omega)))))
    | ((with_reducible refine gAl ?_); (first | (refine al H Z75 rfl rfl ?_)); clear H; intro b1 w1 H)
    | ((with_reducible refine gRg ?_); refine wp_region_text rfl (by decide +kernel) ?_; replace H := H.drew)
    | ((with_reducible refine EndQ.intro ?_ ?_); (· kernel_rfl)))
      have H9 := H.swap (A := [_, _]) (B := [_, _])
      clear H
      have H := H9
      clear H9
      go_loopg [7] n (fun g v7 wr => ∃ (i m c : Nat) (a : Option Nat) (lh v : List HT) (sb : List Bool) (t1 t2 : Int), v7 = .int .i64 (i : Int) ∧ i + g = n ∧ m = g ∧ Hid (HI41 lh v) ∧ Hid (v.length = m) ∧ Hid (SI l sb v) ∧ Hid (0 < i → LI t1 t2 v) ∧ Hid (sb.length = n) ∧ Hp w0 D (eHp 41 p a m c n :: eHl a c lh :: ⟨some bt, [.int .i64 t1, .int .i64 t2], 75, 2⟩ :: ⟨some sd, bools sb, 4, n⟩ :: []) wr)
      case atStart => exact ⟨0, n, c, a, lh, thgs l n, List.replicate n false, 0, 0, rfl, by omega, rfl, HI, Lib.hid (thgs_len l n), HSI0, Lib.hid (fun h => absurd h (Nat.lt_irrefl _)), Lib.hid (by simp), H⟩
      case round =>
        clear H HI HSI0
        obtain ⟨i, m, c, a, lh, v, sb, t1, t2, rfl, hjg, hmg, HI, HVL, HSI, HLI, HSL, H⟩ := hrel
        by_cases hi : i < n
        · cases m with
          | zero => omega
          | succ m =>
            obtain ⟨a, rfl⟩ := some_ent41 H (i := 1) rfl (by rw [cellsH_len, HI.out.2.1.length_eq, HVL.out]; omega)
            obtain ⟨bx0, ox, rfl, hX⟩ := HX.out.some_of (by rw [ints_len, HN.out]; omega)
            have hA : ∀ (L : List Ent) (w' : World), Hp w0 D L w' → ∀ (j : Nat) (v : Value), (ints l)[j]? = some v → w'.cell? ⟨bx0, ox + j, none⟩ = some v := fun L w' h => hX L w' (by rw [List.append_nil]; exact h)
            obtain ⟨q, ⟨z1, z2, z3⟩, hm⟩ := HI.out.min (by rw [HVL.out]; omega)
            obtain ⟨j, hjn, hlj, e2, e3, hsb⟩ := HSI.out _ (List.mem_of_getElem? hm.1)
            dsimp only at e2 e3 hlj
            subst e2
            subst e3
            have hqn : q < m + 1 := by rw [← HVL.out]; exact (List.getElem?_eq_some_iff.1 hm.1).1
            have hln : lh.length = m + 1 := by rw [HI.out.2.1.length_eq, HVL.out]
            obtain ⟨⟨u1, u2, u3⟩, hzm⟩ : ∃ x, lh[m]? = some x := ⟨_, List.getElem?_eq_getElem (by omega)⟩
            obtain ⟨LF, hlf⟩ : ∃ z, down ((0, 0, 0) : HT) ah41 m (((lh.set 0 (u1, u2, u3)).set m (0, 0, 0)).take m) 0 = z := ⟨_, rfl⟩
            have HI2 : Hid (HI41 LF (v.eraseIdx q)) := Lib.hid (by
              have := HI.out.pop hm
              rw [hrest_eq hln hzm, hlf] at this
              exact this)
            have HVL2 : Hid ((v.eraseIdx q).length = m) := Lib.hid (by rw [List.length_eraseIdx, HVL.out, if_pos hqn]; rfl)
            have HSI2 : Hid (SI l (sb.set j true) (v.eraseIdx q)) := Lib.hid (HSI.out.step HI.out hm)
            have HLI2 : Hid (LI z1 (j : Int) (v.eraseIdx q)) := Lib.hid (LI.step HSI.out hm)
            have HSL2 : Hid ((sb.set j true).length = n) := Lib.hid (by rw [List.length_set]; exact HSL.out)
            have HKJ := Lib.hid (show (ints l)[j]? = some (.int .i64 z1) by simp [ints, hlj])
            have HSB := Lib.hid (bools_get hsb)
            have HZ0 := Lib.hid (HI.out.root hm)
            have HZM := Lib.hid hzm
            have HLL := Lib.hid hln
            have HLF := Lib.hid hlf
            have HGN := Lib.hid hjg
            have HMG := Lib.hid hmg
            have hjN : j < n := by have := HN.out; omega
            have hgp : 0 < gk := by omega
            have hm8 : m ≤ 1000 := by omega
            have hcs : 0 < i → z1 < t1 ∨ (z1 = t1 ∧ t2 ≤ (j : Int)) := fun h => HLI.out h _ (List.mem_of_getElem? hm.1)
            have HCS := Lib.hid hcs
            clear hX hm hlj hsb hqn hln hzm hlf hjg hmg hjn hcs
            by_cases h0 : 0 < i
            · rcases HCS.out h0 with hc | ⟨hc, hc2⟩
              · go_wp2_with (first
                    | (go_at_call 43; ((with_reducible refine (Pop41_w H HLL.out (by omega) HZ0.out HZM.out HLF.out).mono ?_); rintro e w1 ⟨rfl, H1⟩; clear H; have H := H1; clear H1))
                    | ((with_reducible refine gAl ?_); (refine al H Z75 rfl rfl ?_); clear H; intro bx w1 H)
                    | ((with_reducible refine gLd ?_); first | (refine wl_loadR (k := j) (hA _ _ H) rfl rfl (by first | rfl | omega) T3 HKJ.out ?_) | (refine wl_loadR (k := j) ((Rd.ent H (i := 4) rfl).cells [] _ H) rfl rfl (by first | rfl | omega) T4 HSB.out ?_))
                    | ((with_reducible refine gSt ?_); refine eSt H rfl rfl ⟨.bool _, rfl, ?_⟩; refine kSt 4 rfl rfl T4 rfl (by rw [bools_len, HSL.out]; omega) ?_; clear H; intro w1 H; simp only [List.set_cons_zero, List.set_cons_succ] at H)
                    | ((with_reducible refine gRg ?_); refine wp_region_textU rfl (by decide +kernel) ?_; replace H := H.drew)
                    | ((with_reducible refine gLd ?_); refine eLd H rfl rfl ?_; first | (refine kLd 0 rfl rfl (by first | exact T3 | exact T4 | exact T75 | exact T76 | exact T116 | exact T118 | exact T120) rfl ?_) | (refine kLd 1 rfl rfl (by first | exact T3 | exact T4 | exact T75 | exact T76 | exact T116 | exact T118 | exact T120) rfl ?_) | (refine kLd 2 rfl rfl (by first | exact T3 | exact T4 | exact T75 | exact T76 | exact T116 | exact T118 | exact T120) rfl ?_) | (refine kLd 3 rfl rfl (by first | exact T3 | exact T4 | exact T75 | exact T76 | exact T116 | exact T118 | exact T120) rfl ?_) | (refine kLdA 0 rfl rfl (by first | exact T3 | exact T4 | exact T75 | exact T76 | exact T116 | exact T118 | exact T120) (Nat.le_of_ble_eq_true rfl) (by simp only [List.drop_succ_cons, List.drop_zero, List.take_succ_cons, List.take_zero, List.set_cons_zero, List.set_cons_succ]; rfl) ?_) | (refine kLdA 1 rfl rfl (by first | exact T3 | exact T4 | exact T75 | exact T76 | exact T116 | exact T118 | exact T120) (Nat.le_of_ble_eq_true rfl) (by simp only [List.drop_succ_cons, List.drop_zero, List.take_succ_cons, List.take_zero, List.set_cons_zero, List.set_cons_succ]; rfl) ?_) | (refine kLdA 2 rfl rfl (by first | exact T3 | exact T4 | exact T75 | exact T76 | exact T116 | exact T118 | exact T120) (Nat.le_of_ble_eq_true rfl) (by simp only [List.drop_succ_cons, List.drop_zero, List.take_succ_cons, List.take_zero, List.set_cons_zero, List.set_cons_succ]; rfl) ?_) | (refine kLdA 3 rfl rfl (by first | exact T3 | exact T4 | exact T75 | exact T76 | exact T116 | exact T118 | exact T120) (Nat.le_of_ble_eq_true rfl) (by simp only [List.drop_succ_cons, List.drop_zero, List.take_succ_cons, List.take_zero, List.set_cons_zero, List.set_cons_succ]; rfl) ?_))
                    | ((with_reducible refine gSt ?_); (first | (refine eSt H rfl rfl ⟨.int _ _, rfl, ?_⟩) | (refine eSt H rfl rfl ⟨.bool _, rfl, ?_⟩) | (refine eSt H rfl rfl ⟨.slice _ _ _, rfl, ?_⟩) | (refine eSt H rfl rfl ⟨.pointer _, rfl, ?_⟩) | (refine eSt H rfl rfl ⟨.string _, rfl, ?_⟩) | (refine eSt H rfl rfl ⟨.agg (List.toArray _), rfl, ?_⟩)); (first | (refine kSt 0 rfl rfl (by first | exact T3 | exact T4 | exact T75 | exact T76 | exact T116 | exact T118 | exact T120) rfl (Nat.le_of_ble_eq_true rfl) ?_) | (refine kSt 1 rfl rfl (by first | exact T3 | exact T4 | exact T75 | exact T76 | exact T116 | exact T118 | exact T120) rfl (Nat.le_of_ble_eq_true rfl) ?_) | (refine kSt 2 rfl rfl (by first | exact T3 | exact T4 | exact T75 | exact T76 | exact T116 | exact T118 | exact T120) rfl (Nat.le_of_ble_eq_true rfl) ?_) | (refine kSt 3 rfl rfl (by first | exact T3 | exact T4 | exact T75 | exact T76 | exact T116 | exact T118 | exact T120) rfl (Nat.le_of_ble_eq_true rfl) ?_) | (refine kStA 0 rfl rfl (by first | exact T3 | exact T4 | exact T75 | exact T76 | exact T116 | exact T118 | exact T120) rfl rfl (Nat.le_of_ble_eq_true rfl) ?_) | (refine kStA 1 rfl rfl (by first | exact T3 | exact T4 | exact T75 | exact T76 | exact T116 | exact T118 | exact T120) rfl rfl (Nat.le_of_ble_eq_true rfl) ?_) | (refine kStA 2 rfl rfl (by first | exact T3 | exact T4 | exact T75 | exact T76 | exact T116 | exact T118 | exact T120) rfl rfl (Nat.le_of_ble_eq_true rfl) ?_) | (refine kStA 3 rfl rfl (by first | exact T3 | exact T4 | exact T75 | exact T76 | exact T116 | exact T118 | exact T120) rfl rfl (Nat.le_of_ble_eq_true rfl) ?_)); clear H; intro w1 H; simp only [List.set_cons_zero, List.set_cons_succ] at H; (try simp only [lay, List.take_zero, List.nil_append, List.length_cons, List.length_nil, Nat.zero_add, Nat.reduceAdd, List.drop_succ_cons, List.drop_zero, List.drop_nil, List.append_nil, List.take_succ_cons, List.cons_append] at H))
                    | ((with_reducible refine gBx ?_); refine bxA H rfl rfl rfl ?_; clear H; intro b1 w1 H)
                    | ((with_reducible refine gBs ?_); (first | (refine bs1 H rfl (by first | exact S0) rfl (Nat.le_of_ble_eq_true rfl) (Nat.le_of_ble_eq_true rfl) rfl ?_) | (refine wl_buildSlice0 rfl (by first | exact S0) H ?_)); clear H; intro b1 w1 H)
                    | ((with_reducible refine gEq ?_); (first | (refine wl_cmp rfl rfl rfl rfl ?_) | (refine wl_scmp rfl rfl rfl rfl ?_)); intro rb hrb; cases rb <;> (first | (exfalso; simp at hrb; done) | ((try simp only [decide_eq_true_eq, decide_eq_false_iff_not, beq_iff_eq, beq_eq_false_iff_ne, ne_eq, bne_iff_ne, bne_eq_false_iff_eq, Bool.not_eq_true', Bool.not_eq_false', gt_iff_lt, ge_iff_le, Int.not_lt, Int.not_le, Decidable.not_not] at hrb); (try subst hrb); (try (exfalso; omega)))))
                    | ((with_reducible refine gAl ?_); (first | (refine al H Z75 rfl rfl ?_)); clear H; intro b1 w1 H)
                    | ((with_reducible refine gRg ?_); refine wp_region_text rfl (by decide +kernel) ?_; replace H := H.drew)
                    | ((with_reducible refine EndQ.intro ?_ ?_); (· kernel_rfl)))
                go_roundg (gk - 1)
                case measure => omega
                case rel =>
                  have H9 := H.drop
                  refine ⟨i + 1, m, c, some a, LF, v.eraseIdx q, sb.set j true, z1, (j : Int), by go_num, by have := HGN.out; omega, by have := HGN.out; have := HMG.out; omega, HI2, HVL2, HSI2, Lib.hid (fun _ => HLI2.out), HSL2, ?_⟩
                  rw [← bools_set]
                  exact H9
              · subst hc
                go_wp2_with (first
                    | (go_at_call 43; ((with_reducible refine (Pop41_w H HLL.out (by omega) HZ0.out HZM.out HLF.out).mono ?_); rintro e w1 ⟨rfl, H1⟩; clear H; have H := H1; clear H1))
                    | ((with_reducible refine gAl ?_); (refine al H Z75 rfl rfl ?_); clear H; intro bx w1 H)
                    | ((with_reducible refine gLd ?_); first | (refine wl_loadR (k := j) (hA _ _ H) rfl rfl (by first | rfl | omega) T3 HKJ.out ?_) | (refine wl_loadR (k := j) ((Rd.ent H (i := 4) rfl).cells [] _ H) rfl rfl (by first | rfl | omega) T4 HSB.out ?_))
                    | ((with_reducible refine gSt ?_); refine eSt H rfl rfl ⟨.bool _, rfl, ?_⟩; refine kSt 4 rfl rfl T4 rfl (by rw [bools_len, HSL.out]; omega) ?_; clear H; intro w1 H; simp only [List.set_cons_zero, List.set_cons_succ] at H)
                    | ((with_reducible refine gRg ?_); refine wp_region_textU rfl (by decide +kernel) ?_; replace H := H.drew)
                    | ((with_reducible refine gLd ?_); refine eLd H rfl rfl ?_; first | (refine kLd 0 rfl rfl (by first | exact T3 | exact T4 | exact T75 | exact T76 | exact T116 | exact T118 | exact T120) rfl ?_) | (refine kLd 1 rfl rfl (by first | exact T3 | exact T4 | exact T75 | exact T76 | exact T116 | exact T118 | exact T120) rfl ?_) | (refine kLd 2 rfl rfl (by first | exact T3 | exact T4 | exact T75 | exact T76 | exact T116 | exact T118 | exact T120) rfl ?_) | (refine kLd 3 rfl rfl (by first | exact T3 | exact T4 | exact T75 | exact T76 | exact T116 | exact T118 | exact T120) rfl ?_) | (refine kLdA 0 rfl rfl (by first | exact T3 | exact T4 | exact T75 | exact T76 | exact T116 | exact T118 | exact T120) (Nat.le_of_ble_eq_true rfl) (by simp only [List.drop_succ_cons, List.drop_zero, List.take_succ_cons, List.take_zero, List.set_cons_zero, List.set_cons_succ]; rfl) ?_) | (refine kLdA 1 rfl rfl (by first | exact T3 | exact T4 | exact T75 | exact T76 | exact T116 | exact T118 | exact T120) (Nat.le_of_ble_eq_true rfl) (by simp only [List.drop_succ_cons, List.drop_zero, List.take_succ_cons, List.take_zero, List.set_cons_zero, List.set_cons_succ]; rfl) ?_) | (refine kLdA 2 rfl rfl (by first | exact T3 | exact T4 | exact T75 | exact T76 | exact T116 | exact T118 | exact T120) (Nat.le_of_ble_eq_true rfl) (by simp only [List.drop_succ_cons, List.drop_zero, List.take_succ_cons, List.take_zero, List.set_cons_zero, List.set_cons_succ]; rfl) ?_) | (refine kLdA 3 rfl rfl (by first | exact T3 | exact T4 | exact T75 | exact T76 | exact T116 | exact T118 | exact T120) (Nat.le_of_ble_eq_true rfl) (by simp only [List.drop_succ_cons, List.drop_zero, List.take_succ_cons, List.take_zero, List.set_cons_zero, List.set_cons_succ]; rfl) ?_))
                    | ((with_reducible refine gSt ?_); (first | (refine eSt H rfl rfl ⟨.int _ _, rfl, ?_⟩) | (refine eSt H rfl rfl ⟨.bool _, rfl, ?_⟩) | (refine eSt H rfl rfl ⟨.slice _ _ _, rfl, ?_⟩) | (refine eSt H rfl rfl ⟨.pointer _, rfl, ?_⟩) | (refine eSt H rfl rfl ⟨.string _, rfl, ?_⟩) | (refine eSt H rfl rfl ⟨.agg (List.toArray _), rfl, ?_⟩)); (first | (refine kSt 0 rfl rfl (by first | exact T3 | exact T4 | exact T75 | exact T76 | exact T116 | exact T118 | exact T120) rfl (Nat.le_of_ble_eq_true rfl) ?_) | (refine kSt 1 rfl rfl (by first | exact T3 | exact T4 | exact T75 | exact T76 | exact T116 | exact T118 | exact T120) rfl (Nat.le_of_ble_eq_true rfl) ?_) | (refine kSt 2 rfl rfl (by first | exact T3 | exact T4 | exact T75 | exact T76 | exact T116 | exact T118 | exact T120) rfl (Nat.le_of_ble_eq_true rfl) ?_) | (refine kSt 3 rfl rfl (by first | exact T3 | exact T4 | exact T75 | exact T76 | exact T116 | exact T118 | exact T120) rfl (Nat.le_of_ble_eq_true rfl) ?_) | (refine kStA 0 rfl rfl (by first | exact T3 | exact T4 | exact T75 | exact T76 | exact T116 | exact T118 | exact T120) rfl rfl (Nat.le_of_ble_eq_true rfl) ?_) | (refine kStA 1 rfl rfl (by first | exact T3 | exact T4 | exact T75 | exact T76 | exact T116 | exact T118 | exact T120) rfl rfl (Nat.le_of_ble_eq_true rfl) ?_) | (refine kStA 2 rfl rfl (by first | exact T3 | exact T4 | exact T75 | exact T76 | exact T116 | exact T118 | exact T120) rfl rfl (Nat.le_of_ble_eq_true rfl) ?_) | (refine kStA 3 rfl rfl (by first | exact T3 | exact T4 | exact T75 | exact T76 | exact T116 | exact T118 | exact T120) rfl rfl (Nat.le_of_ble_eq_true rfl) ?_)); clear H; intro w1 H; simp only [List.set_cons_zero, List.set_cons_succ] at H; (try simp only [lay, List.take_zero, List.nil_append, List.length_cons, List.length_nil, Nat.zero_add, Nat.reduceAdd, List.drop_succ_cons, List.drop_zero, List.drop_nil, List.append_nil, List.take_succ_cons, List.cons_append] at H))
                    | ((with_reducible refine gBx ?_); refine bxA H rfl rfl rfl ?_; clear H; intro b1 w1 H)
                    | ((with_reducible refine gBs ?_); (first | (refine bs1 H rfl (by first | exact S0) rfl (Nat.le_of_ble_eq_true rfl) (Nat.le_of_ble_eq_true rfl) rfl ?_) | (refine wl_buildSlice0 rfl (by first | exact S0) H ?_)); clear H; intro b1 w1 H)
                    | ((with_reducible refine gEq ?_); (first | (refine wl_cmp rfl rfl rfl rfl ?_) | (refine wl_scmp rfl rfl rfl rfl ?_)); intro rb hrb; cases rb <;> (first | (exfalso; simp at hrb; done) | ((try simp only [decide_eq_true_eq, decide_eq_false_iff_not, beq_iff_eq, beq_eq_false_iff_ne, ne_eq, bne_iff_ne, bne_eq_false_iff_eq, Bool.not_eq_true', Bool.not_eq_false', gt_iff_lt, ge_iff_le, Int.not_lt, Int.not_le, Decidable.not_not] at hrb); (try subst hrb); (try (exfalso; omega)))))
                    | ((with_reducible refine gAl ?_); (first | (refine al H Z75 rfl rfl ?_)); clear H; intro b1 w1 H)
                    | ((with_reducible refine gRg ?_); refine wp_region_text rfl (by decide +kernel) ?_; replace H := H.drew)
                    | ((with_reducible refine EndQ.intro ?_ ?_); (· kernel_rfl)))
                go_roundg (gk - 1)
                case measure => omega
                case rel =>
                  have H9 := H.drop
                  refine ⟨i + 1, m, c, some a, LF, v.eraseIdx q, sb.set j true, z1, (j : Int), by go_num, by have := HGN.out; omega, by have := HGN.out; have := HMG.out; omega, HI2, HVL2, HSI2, Lib.hid (fun _ => HLI2.out), HSL2, ?_⟩
                  rw [← bools_set]
                  exact H9
            · go_wp2_with (first
                  | (go_at_call 43; ((with_reducible refine (Pop41_w H HLL.out (by omega) HZ0.out HZM.out HLF.out).mono ?_); rintro e w1 ⟨rfl, H1⟩; clear H; have H := H1; clear H1))
                  | ((with_reducible refine gAl ?_); (refine al H Z75 rfl rfl ?_); clear H; intro bx w1 H)
                  | ((with_reducible refine gLd ?_); first | (refine wl_loadR (k := j) (hA _ _ H) rfl rfl (by first | rfl | omega) T3 HKJ.out ?_) | (refine wl_loadR (k := j) ((Rd.ent H (i := 4) rfl).cells [] _ H) rfl rfl (by first | rfl | omega) T4 HSB.out ?_))
                  | ((with_reducible refine gSt ?_); refine eSt H rfl rfl ⟨.bool _, rfl, ?_⟩; refine kSt 4 rfl rfl T4 rfl (by rw [bools_len, HSL.out]; omega) ?_; clear H; intro w1 H; simp only [List.set_cons_zero, List.set_cons_succ] at H)
                  | ((with_reducible refine gRg ?_); refine wp_region_textU rfl (by decide +kernel) ?_; replace H := H.drew)
                  | ((with_reducible refine gLd ?_); refine eLd H rfl rfl ?_; first | (refine kLd 0 rfl rfl (by first | exact T3 | exact T4 | exact T75 | exact T76 | exact T116 | exact T118 | exact T120) rfl ?_) | (refine kLd 1 rfl rfl (by first | exact T3 | exact T4 | exact T75 | exact T76 | exact T116 | exact T118 | exact T120) rfl ?_) | (refine kLd 2 rfl rfl (by first | exact T3 | exact T4 | exact T75 | exact T76 | exact T116 | exact T118 | exact T120) rfl ?_) | (refine kLd 3 rfl rfl (by first | exact T3 | exact T4 | exact T75 | exact T76 | exact T116 | exact T118 | exact T120) rfl ?_) | (refine kLdA 0 rfl rfl (by first | exact T3 | exact T4 | exact T75 | exact T76 | exact T116 | exact T118 | exact T120) (Nat.le_of_ble_eq_true rfl) (by simp only [List.drop_succ_cons, List.drop_zero, List.take_succ_cons, List.take_zero, List.set_cons_zero, List.set_cons_succ]; rfl) ?_) | (refine kLdA 1 rfl rfl (by first | exact T3 | exact T4 | exact T75 | exact T76 | exact T116 | exact T118 | exact T120) (Nat.le_of_ble_eq_true rfl) (by simp only [List.drop_succ_cons, List.drop_zero, List.take_succ_cons, List.take_zero, List.set_cons_zero, List.set_cons_succ]; rfl) ?_) | (refine kLdA 2 rfl rfl (by first | exact T3 | exact T4 | exact T75 | exact T76 | exact T116 | exact T118 | exact T120) (Nat.le_of_ble_eq_true rfl) (by simp only [List.drop_succ_cons, List.drop_zero, List.take_succ_cons, List.take_zero, List.set_cons_zero, List.set_cons_succ]; rfl) ?_) | (refine kLdA 3 rfl rfl (by first | exact T3 | exact T4 | exact T75 | exact T76 | exact T116 | exact T118 | exact T120) (Nat.le_of_ble_eq_true rfl) (by simp only [List.drop_succ_cons, List.drop_zero, List.take_succ_cons, List.take_zero, List.set_cons_zero, List.set_cons_succ]; rfl) ?_))
                  | ((with_reducible refine gSt ?_); (first | (refine eSt H rfl rfl ⟨.int _ _, rfl, ?_⟩) | (refine eSt H rfl rfl ⟨.bool _, rfl, ?_⟩) | (refine eSt H rfl rfl ⟨.slice _ _ _, rfl, ?_⟩) | (refine eSt H rfl rfl ⟨.pointer _, rfl, ?_⟩) | (refine eSt H rfl rfl ⟨.string _, rfl, ?_⟩) | (refine eSt H rfl rfl ⟨.agg (List.toArray _), rfl, ?_⟩)); (first | (refine kSt 0 rfl rfl (by first | exact T3 | exact T4 | exact T75 | exact T76 | exact T116 | exact T118 | exact T120) rfl (Nat.le_of_ble_eq_true rfl) ?_) | (refine kSt 1 rfl rfl (by first | exact T3 | exact T4 | exact T75 | exact T76 | exact T116 | exact T118 | exact T120) rfl (Nat.le_of_ble_eq_true rfl) ?_) | (refine kSt 2 rfl rfl (by first | exact T3 | exact T4 | exact T75 | exact T76 | exact T116 | exact T118 | exact T120) rfl (Nat.le_of_ble_eq_true rfl) ?_) | (refine kSt 3 rfl rfl (by first | exact T3 | exact T4 | exact T75 | exact T76 | exact T116 | exact T118 | exact T120) rfl (Nat.le_of_ble_eq_true rfl) ?_) | (refine kStA 0 rfl rfl (by first | exact T3 | exact T4 | exact T75 | exact T76 | exact T116 | exact T118 | exact T120) rfl rfl (Nat.le_of_ble_eq_true rfl) ?_) | (refine kStA 1 rfl rfl (by first | exact T3 | exact T4 | exact T75 | exact T76 | exact T116 | exact T118 | exact T120) rfl rfl (Nat.le_of_ble_eq_true rfl) ?_) | (refine kStA 2 rfl rfl (by first | exact T3 | exact T4 | exact T75 | exact T76 | exact T116 | exact T118 | exact T120) rfl rfl (Nat.le_of_ble_eq_true rfl) ?_) | (refine kStA 3 rfl rfl (by first | exact T3 | exact T4 | exact T75 | exact T76 | exact T116 | exact T118 | exact T120) rfl rfl (Nat.le_of_ble_eq_true rfl) ?_)); clear H; intro w1 H; simp only [List.set_cons_zero, List.set_cons_succ] at H; (try simp only [lay, List.take_zero, List.nil_append, List.length_cons, List.length_nil, Nat.zero_add, Nat.reduceAdd, List.drop_succ_cons, List.drop_zero, List.drop_nil, List.append_nil, List.take_succ_cons, List.cons_append] at H))
                  | ((with_reducible refine gBx ?_); refine bxA H rfl rfl rfl ?_; clear H; intro b1 w1 H)
                  | ((with_reducible refine gBs ?_); (first | (refine bs1 H rfl (by first | exact S0) rfl (Nat.le_of_ble_eq_true rfl) (Nat.le_of_ble_eq_true rfl) rfl ?_) | (refine wl_buildSlice0 rfl (by first | exact S0) H ?_)); clear H; intro b1 w1 H)
                  | ((with_reducible refine gEq ?_); (first | (refine wl_cmp rfl rfl rfl rfl ?_) | (refine wl_scmp rfl rfl rfl rfl ?_)); intro rb hrb; cases rb <;> (first | (exfalso; simp at hrb; done) | ((try simp only [decide_eq_true_eq, decide_eq_false_iff_not, beq_iff_eq, beq_eq_false_iff_ne, ne_eq, bne_iff_ne, bne_eq_false_iff_eq, Bool.not_eq_true', Bool.not_eq_false', gt_iff_lt, ge_iff_le, Int.not_lt, Int.not_le, Decidable.not_not] at hrb); (try subst hrb); (try (exfalso; omega)))))
                  | ((with_reducible refine gAl ?_); (first | (refine al H Z75 rfl rfl ?_)); clear H; intro b1 w1 H)
                  | ((with_reducible refine gRg ?_); refine wp_region_text rfl (by decide +kernel) ?_; replace H := H.drew)
                  | ((with_reducible refine EndQ.intro ?_ ?_); (· kernel_rfl)))
              go_roundg (gk - 1)
              case measure => omega
              case rel =>
                have H9 := H.drop
                refine ⟨i + 1, m, c, some a, LF, v.eraseIdx q, sb.set j true, z1, (j : Int), by go_num, by have := HGN.out; omega, by have := HGN.out; have := HMG.out; omega, HI2, HVL2, HSI2, Lib.hid (fun _ => HLI2.out), HSL2, ?_⟩
                rw [← bools_set]
                exact H9
        · have em : m = 0 := by omega
          subst em
          clear hjg hmg
          go_wp2_with (first
    | (go_at_call 43; ((with_reducible refine (Pop41_nil H).mono ?_); rintro e w1 ⟨rfl, H1⟩; clear H; have H := H1; clear H1))
    | ((with_reducible refine gAl ?_); (refine al H Z75 rfl rfl ?_); clear H; intro bx w1 H)
    | (go_at_call 13; ((with_reducible refine (live_spec H).mono ?_); rintro e w1 ⟨rfl, H1⟩; clear H; have H := H1; clear H1))
    | ((with_reducible refine gLd ?_); refine eLd H rfl rfl ?_; first | (refine kLd 0 rfl rfl (by first | exact T3 | exact T4 | exact T75 | exact T76 | exact T116 | exact T118 | exact T120) rfl ?_) | (refine kLdA 0 rfl rfl (by first | exact T3 | exact T4 | exact T75 | exact T76 | exact T116 | exact T118 | exact T120) (Nat.le_of_ble_eq_true rfl) (by simp only [List.drop_succ_cons, List.drop_zero, List.take_succ_cons, List.take_zero, List.set_cons_zero, List.set_cons_succ]; rfl) ?_))
    | ((with_reducible refine gSt ?_); (first | (refine eSt H rfl rfl ⟨.int _ _, rfl, ?_⟩) | (refine eSt H rfl rfl ⟨.bool _, rfl, ?_⟩) | (refine eSt H rfl rfl ⟨.slice _ _ _, rfl, ?_⟩) | (refine eSt H rfl rfl ⟨.pointer _, rfl, ?_⟩) | (refine eSt H rfl rfl ⟨.string _, rfl, ?_⟩) | (refine eSt H rfl rfl ⟨.agg (List.toArray _), rfl, ?_⟩)); (first | (refine kSt 0 rfl rfl (by first | exact T3 | exact T4 | exact T75 | exact T76 | exact T116 | exact T118 | exact T120) rfl (Nat.le_of_ble_eq_true rfl) ?_) | (refine kStA 0 rfl rfl (by first | exact T3 | exact T4 | exact T75 | exact T76 | exact T116 | exact T118 | exact T120) rfl rfl (Nat.le_of_ble_eq_true rfl) ?_)); clear H; intro w1 H; simp only [List.set_cons_zero, List.set_cons_succ] at H; (try simp only [lay, List.take_zero, List.nil_append, List.length_cons, List.length_nil, Nat.zero_add, Nat.reduceAdd, List.drop_succ_cons, List.drop_zero, List.drop_nil, List.append_nil, List.take_succ_cons, List.cons_append] at H))
    | ((with_reducible refine gBx ?_); refine bxA H rfl rfl rfl ?_; clear H; intro b1 w1 H)
    | ((with_reducible refine gBs ?_); (first | (refine bs1 H rfl (by first | exact S0) rfl (Nat.le_of_ble_eq_true rfl) (Nat.le_of_ble_eq_true rfl) rfl ?_) | (refine wl_buildSlice0 rfl (by first | exact S0) H ?_)); clear H; intro b1 w1 H)
    | ((with_reducible refine gEq ?_); (first | (refine wl_cmp rfl rfl rfl rfl ?_) | (refine wl_scmp rfl rfl rfl rfl ?_)); intro rb hrb; cases rb <;> (first | (exfalso; simp at hrb; done) | ((try simp only [decide_eq_true_eq, decide_eq_false_iff_not, beq_iff_eq, beq_eq_false_iff_ne, ne_eq, bne_iff_ne, bne_eq_false_iff_eq, Bool.not_eq_true', Bool.not_eq_false', gt_iff_lt, ge_iff_le, Int.not_lt, Int.not_le, Decidable.not_not] at hrb); (try subst hrb); (try (exfalso; omega)))))
    | ((with_reducible refine gAl ?_); (first | (refine al H Z75 rfl rfl ?_)); clear H; intro b1 w1 H)
    | ((with_reducible refine gRg ?_); refine wp_region_text rfl (by decide +kernel) ?_; replace H := H.drew)
    | ((with_reducible refine EndQ.intro ?_ ?_); (· kernel_rfl)))
          all_goals (go_ret; exact ⟨rfl, _, H⟩)
end Go.Proofs.Ytgnmjeajmnmobaa
