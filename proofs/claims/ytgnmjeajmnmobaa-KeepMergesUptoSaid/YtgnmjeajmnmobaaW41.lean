/- What functions of layer 4 compute. -/
import Derived.Test.YtgnmjeajmnmobaaW16
import Derived.Test.YtgnmjeajmnmobaaGxRfC
import Derived.TacticsInMore
import Derived.Shelf.Abstract
import Derived.WalkKit
import Derived.Lib.Hide
import Derived.Deep.LoopGhost
import Derived.WalkSpells
set_option linter.unusedVariables false
set_option linter.unusedSimpArgs false
namespace Go.Proofs.Ytgnmjeajmnmobaa
open Go.RowKit Go.Gx Go.Gx.Kp
set_option maxRecDepth 100000
open KeyOrd
attribute [local go_sem] Oper.semAt_some
theorem Z34 : zI Try.prog 34 = some (.agg (List.toArray [.string ⟨#[]⟩, .int .i64 0])) := by kernel_rfl
/-- an entry, if there is one -/
abbrev EO := Option (ByteArray × Int)
abbrev pairE (o : EO) : Value := .tuple #[.agg (List.toArray [.string (keyO o), .int .i64 (valO o)]), .bool o.isSome]
def atL (l : Ents) (i : Int) : EO := if i < 0 then none else l[i.toNat]?
theorem atL_nat (l : Ents) (j : Nat) : atL l (j : Int) = l[j]? := by unfold atL; rw [if_neg (by omega)]; simp
theorem rd_c {w0 : World} {D : Nat → Prop} {R : List Ent} {e : Ent} {x : Option Addr} {xs : List Value} (h : Rd w0 D R x xs) : Rd w0 D (e :: R) x xs := h.push [e]
def floorL (l : Ents) (k : ByteArray) : EO := match lget l k with
  | some v => some (k, v)
  | none => atL l ((rank l k : Int) - 1)
set_option maxHeartbeats 4000000 in
theorem rRank_spec {w0 w : World} {D : Nat → Prop} {R : List Ent} {x : Option Addr} {c n : Nat} {l : Ents} {k : ByteArray} {r : Nat} (H : Hp w0 D (R) w) (hx : Rd w0 D R x (cellsE l)) (hn : l.length = n) (hb : n ≤ 1000000) (hr : rank l k = r) :
    Calls Try.prog 67 #[.slice x n c, .string k] w fun e w' => e = .returned (.int .i64 (r : Int)) ∧ Hp w0 D R w' := by
  have HN := Lib.hid hn
  have HX := Lib.hid hx
  clear hn hx
  have HR := Lib.hid hr
  have hrn : r ≤ n := by rw [← hr, ← HN.out]; exact rank_le l k
  clear hr
  go_enter Try.func67, Try.ntmps67
  go_wp2_with (first
    | ((with_reducible refine gLd ?_); refine eLd H rfl rfl ?_; first | (refine kLd 0 rfl rfl (by first | exact T3 | exact T4 | exact T9 | exact T22 | exact T25 | exact T27 | exact T34) rfl ?_) | (refine kLdA 0 rfl rfl (by first | exact T3 | exact T4 | exact T9 | exact T22 | exact T25 | exact T27 | exact T34) (Nat.le_of_ble_eq_true rfl) (by simp only [List.drop_succ_cons, List.drop_zero, List.take_succ_cons, List.take_zero, List.set_cons_zero, List.set_cons_succ]; rfl) ?_))
    | ((with_reducible refine gSt ?_); (first | (refine eSt H rfl rfl ⟨.int _ _, rfl, ?_⟩) | (refine eSt H rfl rfl ⟨.bool _, rfl, ?_⟩) | (refine eSt H rfl rfl ⟨.slice _ _ _, rfl, ?_⟩) | (refine eSt H rfl rfl ⟨.pointer _, rfl, ?_⟩) | (refine eSt H rfl rfl ⟨.string _, rfl, ?_⟩) | (refine eSt H rfl rfl ⟨.agg (List.toArray _), rfl, ?_⟩)); (first | (refine kSt 0 rfl rfl (by first | exact T3 | exact T4 | exact T9 | exact T22 | exact T25 | exact T27 | exact T34) rfl (Nat.le_of_ble_eq_true rfl) ?_) | (refine kStA 0 rfl rfl (by first | exact T3 | exact T4 | exact T9 | exact T22 | exact T25 | exact T27 | exact T34) rfl rfl (Nat.le_of_ble_eq_true rfl) ?_)); clear H; intro w1 H; simp only [List.set_cons_zero, List.set_cons_succ] at H; (try simp only [lay, List.take_zero, List.nil_append, List.length_cons, List.length_nil, Nat.zero_add, Nat.reduceAdd, List.drop_succ_cons, List.drop_zero, List.drop_nil, List.append_nil, List.take_succ_cons, List.cons_append] at H))
    | ((with_reducible refine gBx ?_); refine bxA H rfl rfl rfl ?_; clear H; intro b1 w1 H)
    | ((with_reducible refine gBs ?_); (first | (refine bs1 H rfl (by first | exact S22) rfl (Nat.le_of_ble_eq_true rfl) (Nat.le_of_ble_eq_true rfl) rfl ?_) | (refine wl_buildSlice0 rfl (by first | exact S22) H ?_)); clear H; intro b1 w1 H)
    | ((with_reducible refine gEq ?_); (first | (refine wl_cmp rfl rfl rfl rfl ?_) | (refine wl_scmp rfl rfl rfl rfl ?_)); intro rb hrb; cases rb <;> (first | (exfalso; simp at hrb; done) | ((try simp only [decide_eq_true_eq, decide_eq_false_iff_not, beq_iff_eq, beq_eq_false_iff_ne, ne_eq, bne_iff_ne, bne_eq_false_iff_eq, Bool.not_eq_true', Bool.not_eq_false', gt_iff_lt, ge_iff_le, Int.not_lt, Int.not_le, Decidable.not_not] at hrb); (try subst hrb); (try (exfalso; omega)))))
    | ((with_reducible refine gRg ?_); refine wp_region_text rfl (by decide +kernel) ?_; replace H := H.drew)
    | ((with_reducible refine EndQ.intro ?_ ?_); (· kernel_rfl)))
  go_loopg [5] n (fun g v5 wr => ∃ m : Nat, v5 = .int .i64 (m : Int) ∧ m + g = n ∧ m ≤ r ∧ Hp w0 D R wr)
  case atStart => exact ⟨0, rfl, by omega, by omega, H⟩
  case round =>
    clear H
    obtain ⟨m, rfl, hmg, hmr, H⟩ := hrel
    by_cases hm : m < n
    · obtain ⟨⟨yk, yv⟩, hy⟩ : ∃ y, l[m]? = some y := ⟨_, List.getElem?_eq_getElem (by rw [HN.out]; exact hm)⟩
      obtain ⟨bx, ox, rfl, hX⟩ := HX.out.some_of (by rw [cellsE_len, HN.out]; omega)
      have HK := Lib.hid (cellsE_get hy).1
      have hrk := (rank_drop (k := k) l m (by rw [HR.out]; exact hmr)).1 _ hy
      rw [HR.out] at hrk
      have hgp : 0 < gk := by omega
      cases c1 : lt yk k with
      | true =>
        have C1 := Lib.hid c1
        have hm2 : m < r := hrk.1 c1
        clear hy hrk c1
        go_wp2_with (first
    | ((with_reducible refine gLd ?_); first | (refine wl_loadR (k := m * 2) (hX [] _ H) rfl rfl (by first | rfl | omega) T9 HK.out ?_))
    | ((with_reducible refine gEq ?_); refine wl_ocmp rfl rfl (by first | exact congrArg some C1.out) rfl ?_)
    | ((with_reducible refine gLd ?_); refine eLd H rfl rfl ?_; first | (refine kLd 0 rfl rfl (by first | exact T3 | exact T4 | exact T9 | exact T22 | exact T25 | exact T27 | exact T34) rfl ?_) | (refine kLdA 0 rfl rfl (by first | exact T3 | exact T4 | exact T9 | exact T22 | exact T25 | exact T27 | exact T34) (Nat.le_of_ble_eq_true rfl) (by simp only [List.drop_succ_cons, List.drop_zero, List.take_succ_cons, List.take_zero, List.set_cons_zero, List.set_cons_succ]; rfl) ?_))
    | ((with_reducible refine gSt ?_); (first | (refine eSt H rfl rfl ⟨.int _ _, rfl, ?_⟩) | (refine eSt H rfl rfl ⟨.bool _, rfl, ?_⟩) | (refine eSt H rfl rfl ⟨.slice _ _ _, rfl, ?_⟩) | (refine eSt H rfl rfl ⟨.pointer _, rfl, ?_⟩) | (refine eSt H rfl rfl ⟨.string _, rfl, ?_⟩) | (refine eSt H rfl rfl ⟨.agg (List.toArray _), rfl, ?_⟩)); (first | (refine kSt 0 rfl rfl (by first | exact T3 | exact T4 | exact T9 | exact T22 | exact T25 | exact T27 | exact T34) rfl (Nat.le_of_ble_eq_true rfl) ?_) | (refine kStA 0 rfl rfl (by first | exact T3 | exact T4 | exact T9 | exact T22 | exact T25 | exact T27 | exact T34) rfl rfl (Nat.le_of_ble_eq_true rfl) ?_)); clear H; intro w1 H; simp only [List.set_cons_zero, List.set_cons_succ] at H; (try simp only [lay, List.take_zero, List.nil_append, List.length_cons, List.length_nil, Nat.zero_add, Nat.reduceAdd, List.drop_succ_cons, List.drop_zero, List.drop_nil, List.append_nil, List.take_succ_cons, List.cons_append] at H))
    | ((with_reducible refine gBx ?_); refine bxA H rfl rfl rfl ?_; clear H; intro b1 w1 H)
    | ((with_reducible refine gBs ?_); (first | (refine bs1 H rfl (by first | exact S22) rfl (Nat.le_of_ble_eq_true rfl) (Nat.le_of_ble_eq_true rfl) rfl ?_) | (refine wl_buildSlice0 rfl (by first | exact S22) H ?_)); clear H; intro b1 w1 H)
    | ((with_reducible refine gEq ?_); (first | (refine wl_cmp rfl rfl rfl rfl ?_) | (refine wl_scmp rfl rfl rfl rfl ?_)); intro rb hrb; cases rb <;> (first | (exfalso; simp at hrb; done) | ((try simp only [decide_eq_true_eq, decide_eq_false_iff_not, beq_iff_eq, beq_eq_false_iff_ne, ne_eq, bne_iff_ne, bne_eq_false_iff_eq, Bool.not_eq_true', Bool.not_eq_false', gt_iff_lt, ge_iff_le, Int.not_lt, Int.not_le, Decidable.not_not] at hrb); (try subst hrb); (try (exfalso; omega)))))
    | ((with_reducible refine gRg ?_); refine wp_region_text rfl (by decide +kernel) ?_; replace H := H.drew)
    | ((with_reducible refine EndQ.intro ?_ ?_); (· kernel_rfl)))
        go_roundg (gk - 1)
        case measure => omega
        case rel => exact ⟨m + 1, by go_num, by omega, by omega, H⟩
      | false =>
        have C1 := Lib.hid c1
        have hm2 : m = r := by
          by_cases h : m < r
          · rw [hrk.2 h] at c1; cases c1
          · omega
        clear hy hrk c1
        subst hm2
        go_wp2_with (first
    | ((with_reducible refine gLd ?_); first | (refine wl_loadR (k := m * 2) (hX [] _ H) rfl rfl (by first | rfl | omega) T9 HK.out ?_))
    | ((with_reducible refine gEq ?_); refine wl_ocmp rfl rfl (by first | exact congrArg some C1.out) rfl ?_)
    | ((with_reducible refine gLd ?_); refine eLd H rfl rfl ?_; first | (refine kLd 0 rfl rfl (by first | exact T3 | exact T4 | exact T9 | exact T22 | exact T25 | exact T27 | exact T34) rfl ?_) | (refine kLdA 0 rfl rfl (by first | exact T3 | exact T4 | exact T9 | exact T22 | exact T25 | exact T27 | exact T34) (Nat.le_of_ble_eq_true rfl) (by simp only [List.drop_succ_cons, List.drop_zero, List.take_succ_cons, List.take_zero, List.set_cons_zero, List.set_cons_succ]; rfl) ?_))
    | ((with_reducible refine gSt ?_); (first | (refine eSt H rfl rfl ⟨.int _ _, rfl, ?_⟩) | (refine eSt H rfl rfl ⟨.bool _, rfl, ?_⟩) | (refine eSt H rfl rfl ⟨.slice _ _ _, rfl, ?_⟩) | (refine eSt H rfl rfl ⟨.pointer _, rfl, ?_⟩) | (refine eSt H rfl rfl ⟨.string _, rfl, ?_⟩) | (refine eSt H rfl rfl ⟨.agg (List.toArray _), rfl, ?_⟩)); (first | (refine kSt 0 rfl rfl (by first | exact T3 | exact T4 | exact T9 | exact T22 | exact T25 | exact T27 | exact T34) rfl (Nat.le_of_ble_eq_true rfl) ?_) | (refine kStA 0 rfl rfl (by first | exact T3 | exact T4 | exact T9 | exact T22 | exact T25 | exact T27 | exact T34) rfl rfl (Nat.le_of_ble_eq_true rfl) ?_)); clear H; intro w1 H; simp only [List.set_cons_zero, List.set_cons_succ] at H; (try simp only [lay, List.take_zero, List.nil_append, List.length_cons, List.length_nil, Nat.zero_add, Nat.reduceAdd, List.drop_succ_cons, List.drop_zero, List.drop_nil, List.append_nil, List.take_succ_cons, List.cons_append] at H))
    | ((with_reducible refine gBx ?_); refine bxA H rfl rfl rfl ?_; clear H; intro b1 w1 H)
    | ((with_reducible refine gBs ?_); (first | (refine bs1 H rfl (by first | exact S22) rfl (Nat.le_of_ble_eq_true rfl) (Nat.le_of_ble_eq_true rfl) rfl ?_) | (refine wl_buildSlice0 rfl (by first | exact S22) H ?_)); clear H; intro b1 w1 H)
    | ((with_reducible refine gEq ?_); (first | (refine wl_cmp rfl rfl rfl rfl ?_) | (refine wl_scmp rfl rfl rfl rfl ?_)); intro rb hrb; cases rb <;> (first | (exfalso; simp at hrb; done) | ((try simp only [decide_eq_true_eq, decide_eq_false_iff_not, beq_iff_eq, beq_eq_false_iff_ne, ne_eq, bne_iff_ne, bne_eq_false_iff_eq, Bool.not_eq_true', Bool.not_eq_false', gt_iff_lt, ge_iff_le, Int.not_lt, Int.not_le, Decidable.not_not] at hrb); (try subst hrb); (try (exfalso; omega)))))
    | ((with_reducible refine gRg ?_); refine wp_region_text rfl (by decide +kernel) ?_; replace H := H.drew)
    | ((with_reducible refine EndQ.intro ?_ ?_); (· kernel_rfl)))
        all_goals (go_ret; exact ⟨rfl, H⟩)
    · have e : m = r := by
        have := (rank_drop (k := k) l m (by rw [HR.out]; exact hmr)).2 (List.getElem?_eq_none (by rw [HN.out]; omega))
        rw [HR.out] at this; exact this
      subst e
      go_wp2_with (first
    | ((with_reducible refine gLd ?_); refine eLd H rfl rfl ?_; first | (refine kLd 0 rfl rfl (by first | exact T3 | exact T4 | exact T9 | exact T22 | exact T25 | exact T27 | exact T34) rfl ?_) | (refine kLdA 0 rfl rfl (by first | exact T3 | exact T4 | exact T9 | exact T22 | exact T25 | exact T27 | exact T34) (Nat.le_of_ble_eq_true rfl) (by simp only [List.drop_succ_cons, List.drop_zero, List.take_succ_cons, List.take_zero, List.set_cons_zero, List.set_cons_succ]; rfl) ?_))
    | ((with_reducible refine gSt ?_); (first | (refine eSt H rfl rfl ⟨.int _ _, rfl, ?_⟩) | (refine eSt H rfl rfl ⟨.bool _, rfl, ?_⟩) | (refine eSt H rfl rfl ⟨.slice _ _ _, rfl, ?_⟩) | (refine eSt H rfl rfl ⟨.pointer _, rfl, ?_⟩) | (refine eSt H rfl rfl ⟨.string _, rfl, ?_⟩) | (refine eSt H rfl rfl ⟨.agg (List.toArray _), rfl, ?_⟩)); (first | (refine kSt 0 rfl rfl (by first | exact T3 | exact T4 | exact T9 | exact T22 | exact T25 | exact T27 | exact T34) rfl (Nat.le_of_ble_eq_true rfl) ?_) | (refine kStA 0 rfl rfl (by first | exact T3 | exact T4 | exact T9 | exact T22 | exact T25 | exact T27 | exact T34) rfl rfl (Nat.le_of_ble_eq_true rfl) ?_)); clear H; intro w1 H; simp only [List.set_cons_zero, List.set_cons_succ] at H; (try simp only [lay, List.take_zero, List.nil_append, List.length_cons, List.length_nil, Nat.zero_add, Nat.reduceAdd, List.drop_succ_cons, List.drop_zero, List.drop_nil, List.append_nil, List.take_succ_cons, List.cons_append] at H))
    | ((with_reducible refine gBx ?_); refine bxA H rfl rfl rfl ?_; clear H; intro b1 w1 H)
    | ((with_reducible refine gBs ?_); (first | (refine bs1 H rfl (by first | exact S22) rfl (Nat.le_of_ble_eq_true rfl) (Nat.le_of_ble_eq_true rfl) rfl ?_) | (refine wl_buildSlice0 rfl (by first | exact S22) H ?_)); clear H; intro b1 w1 H)
    | ((with_reducible refine gEq ?_); (first | (refine wl_cmp rfl rfl rfl rfl ?_) | (refine wl_scmp rfl rfl rfl rfl ?_)); intro rb hrb; cases rb <;> (first | (exfalso; simp at hrb; done) | ((try simp only [decide_eq_true_eq, decide_eq_false_iff_not, beq_iff_eq, beq_eq_false_iff_ne, ne_eq, bne_iff_ne, bne_eq_false_iff_eq, Bool.not_eq_true', Bool.not_eq_false', gt_iff_lt, ge_iff_le, Int.not_lt, Int.not_le, Decidable.not_not] at hrb); (try subst hrb); (try (exfalso; omega)))))
    | ((with_reducible refine gRg ?_); refine wp_region_text rfl (by decide +kernel) ?_; replace H := H.drew)
    | ((with_reducible refine EndQ.intro ?_ ?_); (· kernel_rfl)))
      all_goals (go_ret; exact ⟨rfl, H⟩)
section
variable {P : Program} {w0 w : World} {D : Nat → Prop} {L : List Ent} {a : Act}
theorem ret_ctE {fn : Func} {R : Ending → World → Prop} {p p2 : Tmp} {ty : TypeId} {b o n : Nat} {x : Ent} {vs : List Value} {u2 : Value} (i : Nat) (H : Hp w0 D L w) (hres : fn.results = #[.cell p ty, .tmp p2]) (hd : a.defers = [])
    (hp : a.tmps.getD p undef = .pointer (some ⟨b, o, none⟩)) (h2 : a.tmps.getD p2 undef = u2) (hi : L[i]? = some x) (hb : x.a = some b) (ht : tI P ty = some (true, n)) (hle : o + n ≤ x.xs.length) (hv : (x.xs.drop o).take n = vs)
    (hR : R (.returned (.tuple #[.agg vs.toArray, u2])) w) : bodyPost P fn R .ret a w := by
  refine ⟨hd, .tuple #[.agg vs.toArray, u2], ?_, hR⟩
  have := H.load (o := o) (v := .agg vs.toArray) hi hb ht (by simp [pick, hle, hv])
  have hp' : a.tmps[p]?.getD undef = .pointer (some ⟨b, o, none⟩) := by simpa using hp
  have h2' : a.tmps[p2]?.getD undef = u2 := by simpa using h2
  simp [results, hres, hp', h2', asAddr, this]
end
set_option maxHeartbeats 4000000 in
theorem rAt_no {w0 w : World} {D : Nat → Prop} {R : List Ent} {x : Option Addr} {c n : Nat} {l : Ents} {i : Int} (H : Hp w0 D (R) w) (hn : l.length = n) (hb : n ≤ 1000000) (hi : i < 0 ∨ (n : Int) ≤ i) :
    Calls Try.prog 66 #[.slice x n c, .int .i64 i] w fun e w' => e = .returned (pairE none) ∧ Hp w0 D R w' := by
  have HN := Lib.hid hn
  clear hn
  rcases hi with hi | hi
  · go_enter Try.func66, Try.ntmps66
    go_wp2_with (first
    | ((with_reducible refine gLd ?_); refine eLd H rfl rfl ?_; first | (refine kLd 0 rfl rfl (by first | exact T3 | exact T4 | exact T9 | exact T22 | exact T25 | exact T27 | exact T34) rfl ?_) | (refine kLdA 0 rfl rfl (by first | exact T3 | exact T4 | exact T9 | exact T22 | exact T25 | exact T27 | exact T34) (Nat.le_of_ble_eq_true rfl) (by simp only [List.drop_succ_cons, List.drop_zero, List.take_succ_cons, List.take_zero, List.set_cons_zero, List.set_cons_succ]; rfl) ?_))
    | ((with_reducible refine gSt ?_); (first | (refine eSt H rfl rfl ⟨.int _ _, rfl, ?_⟩) | (refine eSt H rfl rfl ⟨.bool _, rfl, ?_⟩) | (refine eSt H rfl rfl ⟨.slice _ _ _, rfl, ?_⟩) | (refine eSt H rfl rfl ⟨.pointer _, rfl, ?_⟩) | (refine eSt H rfl rfl ⟨.string _, rfl, ?_⟩) | (refine eSt H rfl rfl ⟨.agg (List.toArray _), rfl, ?_⟩)); (first | (refine kSt 0 rfl rfl (by first | exact T3 | exact T4 | exact T9 | exact T22 | exact T25 | exact T27 | exact T34) rfl (Nat.le_of_ble_eq_true rfl) ?_) | (refine kStA 0 rfl rfl (by first | exact T3 | exact T4 | exact T9 | exact T22 | exact T25 | exact T27 | exact T34) rfl rfl (Nat.le_of_ble_eq_true rfl) ?_)); clear H; intro w1 H; simp only [List.set_cons_zero, List.set_cons_succ] at H; (try simp only [lay, List.take_zero, List.nil_append, List.length_cons, List.length_nil, Nat.zero_add, Nat.reduceAdd, List.drop_succ_cons, List.drop_zero, List.drop_nil, List.append_nil, List.take_succ_cons, List.cons_append] at H))
    | ((with_reducible refine gBx ?_); refine bxA H rfl rfl rfl ?_; clear H; intro b1 w1 H)
    | ((with_reducible refine gBs ?_); (first | (refine bs1 H rfl (by first | exact S22) rfl (Nat.le_of_ble_eq_true rfl) (Nat.le_of_ble_eq_true rfl) rfl ?_) | (refine wl_buildSlice0 rfl (by first | exact S22) H ?_)); clear H; intro b1 w1 H)
    | ((with_reducible refine gEq ?_); (first | (refine wl_cmp rfl rfl rfl rfl ?_) | (refine wl_scmp rfl rfl rfl rfl ?_)); intro rb hrb; cases rb <;> (first | (exfalso; simp at hrb; done) | ((try simp only [decide_eq_true_eq, decide_eq_false_iff_not, beq_iff_eq, beq_eq_false_iff_ne, ne_eq, bne_iff_ne, bne_eq_false_iff_eq, Bool.not_eq_true', Bool.not_eq_false', gt_iff_lt, ge_iff_le, Int.not_lt, Int.not_le, Decidable.not_not] at hrb); (try subst hrb); (try (exfalso; omega)))))
    | ((with_reducible refine gAl ?_); (first | (refine al H Z34 rfl rfl ?_)); clear H; intro b1 w1 H)
    | ((with_reducible refine gRg ?_); refine wp_region_text rfl (by decide +kernel) ?_; replace H := H.drew)
    | ((with_reducible refine EndQ.intro ?_ ?_); (· kernel_rfl)))
    refine ret_ctE 0 H rfl rfl rfl rfl rfl rfl T34 (Nat.le_of_ble_eq_true rfl) rfl ?_
    exact ⟨rfl, H.drop⟩
  · have h0 : ¬ i < 0 := by omega
    go_enter Try.func66, Try.ntmps66
    go_wp2_with (first
    | ((with_reducible refine gLd ?_); refine eLd H rfl rfl ?_; first | (refine kLd 0 rfl rfl (by first | exact T3 | exact T4 | exact T9 | exact T22 | exact T25 | exact T27 | exact T34) rfl ?_) | (refine kLdA 0 rfl rfl (by first | exact T3 | exact T4 | exact T9 | exact T22 | exact T25 | exact T27 | exact T34) (Nat.le_of_ble_eq_true rfl) (by simp only [List.drop_succ_cons, List.drop_zero, List.take_succ_cons, List.take_zero, List.set_cons_zero, List.set_cons_succ]; rfl) ?_))
    | ((with_reducible refine gSt ?_); (first | (refine eSt H rfl rfl ⟨.int _ _, rfl, ?_⟩) | (refine eSt H rfl rfl ⟨.bool _, rfl, ?_⟩) | (refine eSt H rfl rfl ⟨.slice _ _ _, rfl, ?_⟩) | (refine eSt H rfl rfl ⟨.pointer _, rfl, ?_⟩) | (refine eSt H rfl rfl ⟨.string _, rfl, ?_⟩) | (refine eSt H rfl rfl ⟨.agg (List.toArray _), rfl, ?_⟩)); (first | (refine kSt 0 rfl rfl (by first | exact T3 | exact T4 | exact T9 | exact T22 | exact T25 | exact T27 | exact T34) rfl (Nat.le_of_ble_eq_true rfl) ?_) | (refine kStA 0 rfl rfl (by first | exact T3 | exact T4 | exact T9 | exact T22 | exact T25 | exact T27 | exact T34) rfl rfl (Nat.le_of_ble_eq_true rfl) ?_)); clear H; intro w1 H; simp only [List.set_cons_zero, List.set_cons_succ] at H; (try simp only [lay, List.take_zero, List.nil_append, List.length_cons, List.length_nil, Nat.zero_add, Nat.reduceAdd, List.drop_succ_cons, List.drop_zero, List.drop_nil, List.append_nil, List.take_succ_cons, List.cons_append] at H))
    | ((with_reducible refine gBx ?_); refine bxA H rfl rfl rfl ?_; clear H; intro b1 w1 H)
    | ((with_reducible refine gBs ?_); (first | (refine bs1 H rfl (by first | exact S22) rfl (Nat.le_of_ble_eq_true rfl) (Nat.le_of_ble_eq_true rfl) rfl ?_) | (refine wl_buildSlice0 rfl (by first | exact S22) H ?_)); clear H; intro b1 w1 H)
    | ((with_reducible refine gEq ?_); (first | (refine wl_cmp rfl rfl rfl rfl ?_) | (refine wl_scmp rfl rfl rfl rfl ?_)); intro rb hrb; cases rb <;> (first | (exfalso; simp at hrb; done) | ((try simp only [decide_eq_true_eq, decide_eq_false_iff_not, beq_iff_eq, beq_eq_false_iff_ne, ne_eq, bne_iff_ne, bne_eq_false_iff_eq, Bool.not_eq_true', Bool.not_eq_false', gt_iff_lt, ge_iff_le, Int.not_lt, Int.not_le, Decidable.not_not] at hrb); (try subst hrb); (try (exfalso; omega)))))
    | ((with_reducible refine gAl ?_); (first | (refine al H Z34 rfl rfl ?_)); clear H; intro b1 w1 H)
    | ((with_reducible refine gRg ?_); refine wp_region_text rfl (by decide +kernel) ?_; replace H := H.drew)
    | ((with_reducible refine EndQ.intro ?_ ?_); (· kernel_rfl)))
    refine ret_ctE 0 H rfl rfl rfl rfl rfl rfl T34 (Nat.le_of_ble_eq_true rfl) rfl ?_
    exact ⟨rfl, H.drop⟩
set_option maxHeartbeats 4000000 in
theorem rAt_yes {w0 w : World} {D : Nat → Prop} {R : List Ent} {x : Option Addr} {c n : Nat} {l : Ents} {j : Nat} {yk : ByteArray} {yv : Int} (H : Hp w0 D (R) w) (hx : Rd w0 D R x (cellsE l)) (hn : l.length = n) (hb : n ≤ 1000000) (hj : l[j]? = some (yk, yv)) :
    Calls Try.prog 66 #[.slice x n c, .int .i64 (j : Int)] w fun e w' => e = .returned (pairE (some (yk, yv))) ∧ Hp w0 D R w' := by
  have HN := Lib.hid hn
  have HX := Lib.hid hx
  clear hn hx
  have hjn : j < n := by rw [← HN.out]; exact (List.getElem?_eq_some_iff.1 hj).1
  obtain ⟨bx, ox, rfl, hX⟩ := HX.out.some_of (by rw [cellsE_len, HN.out]; omega)
  have HG := Lib.hid (cellsE_pick hj)
  clear hj
  go_enter Try.func66, Try.ntmps66
  go_wp2_with (first
    | ((with_reducible refine gLd ?_); refine wl_loadR (k := j * 2) (hX [_] _ H) rfl rfl (by first | rfl | omega) T34 HG.out ?_)
    | ((with_reducible refine gLd ?_); refine eLd H rfl rfl ?_; first | (refine kLd 0 rfl rfl (by first | exact T3 | exact T4 | exact T9 | exact T22 | exact T25 | exact T27 | exact T34) rfl ?_) | (refine kLdA 0 rfl rfl (by first | exact T3 | exact T4 | exact T9 | exact T22 | exact T25 | exact T27 | exact T34) (Nat.le_of_ble_eq_true rfl) (by simp only [List.drop_succ_cons, List.drop_zero, List.take_succ_cons, List.take_zero, List.set_cons_zero, List.set_cons_succ]; rfl) ?_))
    | ((with_reducible refine gSt ?_); (first | (refine eSt H rfl rfl ⟨.int _ _, rfl, ?_⟩) | (refine eSt H rfl rfl ⟨.bool _, rfl, ?_⟩) | (refine eSt H rfl rfl ⟨.slice _ _ _, rfl, ?_⟩) | (refine eSt H rfl rfl ⟨.pointer _, rfl, ?_⟩) | (refine eSt H rfl rfl ⟨.string _, rfl, ?_⟩) | (refine eSt H rfl rfl ⟨.agg (List.toArray _), rfl, ?_⟩)); (first | (refine kSt 0 rfl rfl (by first | exact T3 | exact T4 | exact T9 | exact T22 | exact T25 | exact T27 | exact T34) rfl (Nat.le_of_ble_eq_true rfl) ?_) | (refine kStA 0 rfl rfl (by first | exact T3 | exact T4 | exact T9 | exact T22 | exact T25 | exact T27 | exact T34) rfl rfl (Nat.le_of_ble_eq_true rfl) ?_)); clear H; intro w1 H; simp only [List.set_cons_zero, List.set_cons_succ] at H; (try simp only [lay, List.take_zero, List.nil_append, List.length_cons, List.length_nil, Nat.zero_add, Nat.reduceAdd, List.drop_succ_cons, List.drop_zero, List.drop_nil, List.append_nil, List.take_succ_cons, List.cons_append] at H))
    | ((with_reducible refine gBx ?_); refine bxA H rfl rfl rfl ?_; clear H; intro b1 w1 H)
    | ((with_reducible refine gBs ?_); (first | (refine bs1 H rfl (by first | exact S22) rfl (Nat.le_of_ble_eq_true rfl) (Nat.le_of_ble_eq_true rfl) rfl ?_) | (refine wl_buildSlice0 rfl (by first | exact S22) H ?_)); clear H; intro b1 w1 H)
    | ((with_reducible refine gEq ?_); (first | (refine wl_cmp rfl rfl rfl rfl ?_) | (refine wl_scmp rfl rfl rfl rfl ?_)); intro rb hrb; cases rb <;> (first | (exfalso; simp at hrb; done) | ((try simp only [decide_eq_true_eq, decide_eq_false_iff_not, beq_iff_eq, beq_eq_false_iff_ne, ne_eq, bne_iff_ne, bne_eq_false_iff_eq, Bool.not_eq_true', Bool.not_eq_false', gt_iff_lt, ge_iff_le, Int.not_lt, Int.not_le, Decidable.not_not] at hrb); (try subst hrb); (try (exfalso; omega)))))
    | ((with_reducible refine gAl ?_); (first | (refine al H Z34 rfl rfl ?_)); clear H; intro b1 w1 H)
    | ((with_reducible refine gRg ?_); refine wp_region_text rfl (by decide +kernel) ?_; replace H := H.drew)
    | ((with_reducible refine EndQ.intro ?_ ?_); (· kernel_rfl)))
  refine ret_ctE 0 H rfl rfl rfl rfl rfl rfl T34 (Nat.le_of_ble_eq_true rfl) rfl ?_
  exact ⟨rfl, H.drop⟩
theorem rAt_spec {w0 w : World} {D : Nat → Prop} {R : List Ent} {x : Option Addr} {c n : Nat} {l : Ents} {i : Int} {eo : EO} (H : Hp w0 D R w) (hx : Rd w0 D R x (cellsE l)) (hn : l.length = n) (hb : n ≤ 1000000) (he : atL l i = eo) :
    Calls Try.prog 66 #[.slice x n c, .int .i64 i] w fun e w' => e = .returned (pairE eo) ∧ Hp w0 D R w' := by
  subst he
  by_cases h0 : i < 0
  · have : atL l i = none := by unfold atL; rw [if_pos h0]
    rw [this]
    exact rAt_no (l := l) H hn hb (.inl h0)
  · obtain ⟨j, rfl⟩ : ∃ j : Nat, i = (j : Int) := ⟨i.toNat, by omega⟩
    rw [atL_nat]
    cases hj : l[j]? with
    | none => exact rAt_no (l := l) H hn hb (.inr (by have := List.getElem?_eq_none_iff.1 hj; omega))
    | some y => exact rAt_yes H hx hn hb hj
set_option maxHeartbeats 4000000 in
theorem rGet_y {w0 w : World} {D : Nat → Prop} {R : List Ent} {x : Option Addr} {c n : Nat} {l : Ents} {k : ByteArray} {v : Int} (H : Hp w0 D (R) w) (hx : Rd w0 D R x (cellsE l)) (hn : l.length = n) (hb : n ≤ 1000000) (hv : lget l k = some v) :
    Calls Try.prog 35 #[.slice x n c, .string k] w fun e w' => e = .returned (.tuple #[.int .i64 v, .bool true]) ∧ Hp w0 D R w' := by
  have HN := Lib.hid hn
  have HX := Lib.hid hx
  clear hn hx
  have HXR := HX
  obtain ⟨r, hr⟩ : ∃ r, rank l k = r := ⟨_, rfl⟩
  have HR := Lib.hid hr
  have HAT : Hid (atL l (r : Int) = some (k, v)) := Lib.hid (by rw [atL_nat, ← hr]; exact lget_some hv)
  have C1 : Hid (other k k = false) := Lib.hid (by unfold other; rw [irr]; rfl)
  clear hr hv
  go_enter Try.func35, Try.ntmps35
  go_wp2_with (first
    | (go_at_call 67; ((with_reducible refine (rRank_spec H HXR.out HN.out hb HR.out).mono ?_); rintro e w1 ⟨rfl, H1⟩; clear H; have H := H1; clear H1))
    | (go_at_call 66; ((with_reducible refine (rAt_spec (eo := some (k, v)) H HXR.out HN.out hb HAT.out).mono ?_); rintro e w1 ⟨rfl, H1⟩; clear H; have H := H1; clear H1))
    | ((with_reducible refine gAl ?_); (refine al H Z34 rfl rfl ?_); clear H; intro b6 w1 H)
    | ((with_reducible refine gEq ?_); refine wl_ocmp rfl rfl (by first | exact congrArg some C1.out) rfl ?_)
    | ((with_reducible refine gLd ?_); refine eLd H rfl rfl ?_; first | (refine kLd 0 rfl rfl (by first | exact T3 | exact T4 | exact T9 | exact T22 | exact T25 | exact T27 | exact T34) rfl ?_) | (refine kLdA 0 rfl rfl (by first | exact T3 | exact T4 | exact T9 | exact T22 | exact T25 | exact T27 | exact T34) (Nat.le_of_ble_eq_true rfl) (by simp only [List.drop_succ_cons, List.drop_zero, List.take_succ_cons, List.take_zero, List.set_cons_zero, List.set_cons_succ]; rfl) ?_))
    | ((with_reducible refine gSt ?_); (first | (refine eSt H rfl rfl ⟨.int _ _, rfl, ?_⟩) | (refine eSt H rfl rfl ⟨.bool _, rfl, ?_⟩) | (refine eSt H rfl rfl ⟨.slice _ _ _, rfl, ?_⟩) | (refine eSt H rfl rfl ⟨.pointer _, rfl, ?_⟩) | (refine eSt H rfl rfl ⟨.string _, rfl, ?_⟩) | (refine eSt H rfl rfl ⟨.agg (List.toArray _), rfl, ?_⟩)); (first | (refine kSt 0 rfl rfl (by first | exact T3 | exact T4 | exact T9 | exact T22 | exact T25 | exact T27 | exact T34) rfl (Nat.le_of_ble_eq_true rfl) ?_) | (refine kStA 0 rfl rfl (by first | exact T3 | exact T4 | exact T9 | exact T22 | exact T25 | exact T27 | exact T34) rfl rfl (Nat.le_of_ble_eq_true rfl) ?_)); clear H; intro w1 H; simp only [List.set_cons_zero, List.set_cons_succ] at H; (try simp only [lay, List.take_zero, List.nil_append, List.length_cons, List.length_nil, Nat.zero_add, Nat.reduceAdd, List.drop_succ_cons, List.drop_zero, List.drop_nil, List.append_nil, List.take_succ_cons, List.cons_append] at H))
    | ((with_reducible refine gBx ?_); refine bxA H rfl rfl rfl ?_; clear H; intro b1 w1 H)
    | ((with_reducible refine gBs ?_); (first | (refine bs1 H rfl (by first | exact S22) rfl (Nat.le_of_ble_eq_true rfl) (Nat.le_of_ble_eq_true rfl) rfl ?_) | (refine wl_buildSlice0 rfl (by first | exact S22) H ?_)); clear H; intro b1 w1 H)
    | ((with_reducible refine gEq ?_); (first | (refine wl_cmp rfl rfl rfl rfl ?_) | (refine wl_scmp rfl rfl rfl rfl ?_)); intro rb hrb; cases rb <;> (first | (exfalso; simp at hrb; done) | ((try simp only [decide_eq_true_eq, decide_eq_false_iff_not, beq_iff_eq, beq_eq_false_iff_ne, ne_eq, bne_iff_ne, bne_eq_false_iff_eq, Bool.not_eq_true', Bool.not_eq_false', gt_iff_lt, ge_iff_le, Int.not_lt, Int.not_le, Decidable.not_not] at hrb); (try subst hrb); (try (exfalso; omega)))))
    | ((with_reducible refine gAl ?_); (first | (refine al H Z34 rfl rfl ?_)); clear H; intro b1 w1 H)
    | ((with_reducible refine gRg ?_); refine wp_region_text rfl (by decide +kernel) ?_; replace H := H.drew)
    | ((with_reducible refine EndQ.intro ?_ ?_); (· kernel_rfl)))
  all_goals (go_ret2; exact ⟨rfl, H.drop⟩)
set_option maxHeartbeats 4000000 in
theorem rGet_n {w0 w : World} {D : Nat → Prop} {R : List Ent} {x : Option Addr} {c n : Nat} {l : Ents} {k : ByteArray} {yk : ByteArray} {yv : Int} (H : Hp w0 D (R) w) (hx : Rd w0 D R x (cellsE l)) (hn : l.length = n) (hb : n ≤ 1000000) (hv : lget l k = none) (hy : l[rank l k]? = some (yk, yv)) :
    Calls Try.prog 35 #[.slice x n c, .string k] w fun e w' => e = .returned (.tuple #[.int .i64 0, .bool false]) ∧ Hp w0 D R w' := by
  have HN := Lib.hid hn
  have HX := Lib.hid hx
  clear hn hx
  have HXR := HX
  obtain ⟨r, hr⟩ : ∃ r, rank l k = r := ⟨_, rfl⟩
  have HR := Lib.hid hr
  have HAT : Hid (atL l (r : Int) = some (yk, yv)) := Lib.hid (by rw [atL_nat, ← hr]; exact hy)
  have C1 : Hid (other yk k = true) := Lib.hid (lget_none hv _ hy)
  clear hr hv hy
  go_enter Try.func35, Try.ntmps35
  go_wp2_with (first
    | (go_at_call 67; ((with_reducible refine (rRank_spec H HXR.out HN.out hb HR.out).mono ?_); rintro e w1 ⟨rfl, H1⟩; clear H; have H := H1; clear H1))
    | (go_at_call 66; ((with_reducible refine (rAt_spec (eo := some (yk, yv)) H HXR.out HN.out hb HAT.out).mono ?_); rintro e w1 ⟨rfl, H1⟩; clear H; have H := H1; clear H1))
    | ((with_reducible refine gAl ?_); (refine al H Z34 rfl rfl ?_); clear H; intro b6 w1 H)
    | ((with_reducible refine gEq ?_); refine wl_ocmp rfl rfl (by first | exact congrArg some C1.out) rfl ?_)
    | ((with_reducible refine gLd ?_); refine eLd H rfl rfl ?_; first | (refine kLd 0 rfl rfl (by first | exact T3 | exact T4 | exact T9 | exact T22 | exact T25 | exact T27 | exact T34) rfl ?_) | (refine kLdA 0 rfl rfl (by first | exact T3 | exact T4 | exact T9 | exact T22 | exact T25 | exact T27 | exact T34) (Nat.le_of_ble_eq_true rfl) (by simp only [List.drop_succ_cons, List.drop_zero, List.take_succ_cons, List.take_zero, List.set_cons_zero, List.set_cons_succ]; rfl) ?_))
    | ((with_reducible refine gSt ?_); (first | (refine eSt H rfl rfl ⟨.int _ _, rfl, ?_⟩) | (refine eSt H rfl rfl ⟨.bool _, rfl, ?_⟩) | (refine eSt H rfl rfl ⟨.slice _ _ _, rfl, ?_⟩) | (refine eSt H rfl rfl ⟨.pointer _, rfl, ?_⟩) | (refine eSt H rfl rfl ⟨.string _, rfl, ?_⟩) | (refine eSt H rfl rfl ⟨.agg (List.toArray _), rfl, ?_⟩)); (first | (refine kSt 0 rfl rfl (by first | exact T3 | exact T4 | exact T9 | exact T22 | exact T25 | exact T27 | exact T34) rfl (Nat.le_of_ble_eq_true rfl) ?_) | (refine kStA 0 rfl rfl (by first | exact T3 | exact T4 | exact T9 | exact T22 | exact T25 | exact T27 | exact T34) rfl rfl (Nat.le_of_ble_eq_true rfl) ?_)); clear H; intro w1 H; simp only [List.set_cons_zero, List.set_cons_succ] at H; (try simp only [lay, List.take_zero, List.nil_append, List.length_cons, List.length_nil, Nat.zero_add, Nat.reduceAdd, List.drop_succ_cons, List.drop_zero, List.drop_nil, List.append_nil, List.take_succ_cons, List.cons_append] at H))
    | ((with_reducible refine gBx ?_); refine bxA H rfl rfl rfl ?_; clear H; intro b1 w1 H)
    | ((with_reducible refine gBs ?_); (first | (refine bs1 H rfl (by first | exact S22) rfl (Nat.le_of_ble_eq_true rfl) (Nat.le_of_ble_eq_true rfl) rfl ?_) | (refine wl_buildSlice0 rfl (by first | exact S22) H ?_)); clear H; intro b1 w1 H)
    | ((with_reducible refine gEq ?_); (first | (refine wl_cmp rfl rfl rfl rfl ?_) | (refine wl_scmp rfl rfl rfl rfl ?_)); intro rb hrb; cases rb <;> (first | (exfalso; simp at hrb; done) | ((try simp only [decide_eq_true_eq, decide_eq_false_iff_not, beq_iff_eq, beq_eq_false_iff_ne, ne_eq, bne_iff_ne, bne_eq_false_iff_eq, Bool.not_eq_true', Bool.not_eq_false', gt_iff_lt, ge_iff_le, Int.not_lt, Int.not_le, Decidable.not_not] at hrb); (try subst hrb); (try (exfalso; omega)))))
    | ((with_reducible refine gAl ?_); (first | (refine al H Z34 rfl rfl ?_)); clear H; intro b1 w1 H)
    | ((with_reducible refine gRg ?_); refine wp_region_text rfl (by decide +kernel) ?_; replace H := H.drew)
    | ((with_reducible refine EndQ.intro ?_ ?_); (· kernel_rfl)))
  all_goals (go_ret2; exact ⟨rfl, H.drop⟩)
set_option maxHeartbeats 4000000 in
theorem rGet_z {w0 w : World} {D : Nat → Prop} {R : List Ent} {x : Option Addr} {c n : Nat} {l : Ents} {k : ByteArray} (H : Hp w0 D (R) w) (hx : Rd w0 D R x (cellsE l)) (hn : l.length = n) (hb : n ≤ 1000000) (hv : lget l k = none) (hy : l[rank l k]? = none) :
    Calls Try.prog 35 #[.slice x n c, .string k] w fun e w' => e = .returned (.tuple #[.int .i64 0, .bool false]) ∧ Hp w0 D R w' := by
  have HN := Lib.hid hn
  have HX := Lib.hid hx
  clear hn hx
  have HXR := HX
  obtain ⟨r, hr⟩ : ∃ r, rank l k = r := ⟨_, rfl⟩
  have HR := Lib.hid hr
  have HAT : Hid (atL l (r : Int) = none) := Lib.hid (by rw [atL_nat, ← hr]; exact hy)
  clear hr hv hy
  go_enter Try.func35, Try.ntmps35
  go_wp2_with (first
    | (go_at_call 67; ((with_reducible refine (rRank_spec H HXR.out HN.out hb HR.out).mono ?_); rintro e w1 ⟨rfl, H1⟩; clear H; have H := H1; clear H1))
    | (go_at_call 66; ((with_reducible refine (rAt_spec (eo := none) H HXR.out HN.out hb HAT.out).mono ?_); rintro e w1 ⟨rfl, H1⟩; clear H; have H := H1; clear H1))
    | ((with_reducible refine gAl ?_); (refine al H Z34 rfl rfl ?_); clear H; intro b6 w1 H)
    | ((with_reducible refine gLd ?_); refine eLd H rfl rfl ?_; first | (refine kLd 0 rfl rfl (by first | exact T3 | exact T4 | exact T9 | exact T22 | exact T25 | exact T27 | exact T34) rfl ?_) | (refine kLdA 0 rfl rfl (by first | exact T3 | exact T4 | exact T9 | exact T22 | exact T25 | exact T27 | exact T34) (Nat.le_of_ble_eq_true rfl) (by simp only [List.drop_succ_cons, List.drop_zero, List.take_succ_cons, List.take_zero, List.set_cons_zero, List.set_cons_succ]; rfl) ?_))
    | ((with_reducible refine gSt ?_); (first | (refine eSt H rfl rfl ⟨.int _ _, rfl, ?_⟩) | (refine eSt H rfl rfl ⟨.bool _, rfl, ?_⟩) | (refine eSt H rfl rfl ⟨.slice _ _ _, rfl, ?_⟩) | (refine eSt H rfl rfl ⟨.pointer _, rfl, ?_⟩) | (refine eSt H rfl rfl ⟨.string _, rfl, ?_⟩) | (refine eSt H rfl rfl ⟨.agg (List.toArray _), rfl, ?_⟩)); (first | (refine kSt 0 rfl rfl (by first | exact T3 | exact T4 | exact T9 | exact T22 | exact T25 | exact T27 | exact T34) rfl (Nat.le_of_ble_eq_true rfl) ?_) | (refine kStA 0 rfl rfl (by first | exact T3 | exact T4 | exact T9 | exact T22 | exact T25 | exact T27 | exact T34) rfl rfl (Nat.le_of_ble_eq_true rfl) ?_)); clear H; intro w1 H; simp only [List.set_cons_zero, List.set_cons_succ] at H; (try simp only [lay, List.take_zero, List.nil_append, List.length_cons, List.length_nil, Nat.zero_add, Nat.reduceAdd, List.drop_succ_cons, List.drop_zero, List.drop_nil, List.append_nil, List.take_succ_cons, List.cons_append] at H))
    | ((with_reducible refine gBx ?_); refine bxA H rfl rfl rfl ?_; clear H; intro b1 w1 H)
    | ((with_reducible refine gBs ?_); (first | (refine bs1 H rfl (by first | exact S22) rfl (Nat.le_of_ble_eq_true rfl) (Nat.le_of_ble_eq_true rfl) rfl ?_) | (refine wl_buildSlice0 rfl (by first | exact S22) H ?_)); clear H; intro b1 w1 H)
    | ((with_reducible refine gEq ?_); (first | (refine wl_cmp rfl rfl rfl rfl ?_) | (refine wl_scmp rfl rfl rfl rfl ?_)); intro rb hrb; cases rb <;> (first | (exfalso; simp at hrb; done) | ((try simp only [decide_eq_true_eq, decide_eq_false_iff_not, beq_iff_eq, beq_eq_false_iff_ne, ne_eq, bne_iff_ne, bne_eq_false_iff_eq, Bool.not_eq_true', Bool.not_eq_false', gt_iff_lt, ge_iff_le, Int.not_lt, Int.not_le, Decidable.not_not] at hrb); (try subst hrb); (try (exfalso; omega)))))
    | ((with_reducible refine gAl ?_); (first | (refine al H Z34 rfl rfl ?_)); clear H; intro b1 w1 H)
    | ((with_reducible refine gRg ?_); refine wp_region_text rfl (by decide +kernel) ?_; replace H := H.drew)
    | ((with_reducible refine EndQ.intro ?_ ?_); (· kernel_rfl)))
  all_goals (go_ret2; exact ⟨rfl, H.drop⟩)
theorem rGet_spec {w0 w : World} {D : Nat → Prop} {R : List Ent} {x : Option Addr} {c n : Nat} {l : Ents} {k : ByteArray} {ov : Option Int} (H : Hp w0 D R w) (hx : Rd w0 D R x (cellsE l)) (hn : l.length = n) (hb : n ≤ 1000000) (hv : lget l k = ov) :
    Calls Try.prog 35 #[.slice x n c, .string k] w fun e w' => e = .returned (.tuple #[.int .i64 (ov.getD 0), .bool ov.isSome]) ∧ Hp w0 D R w' := by
  cases ov with
  | some v => exact rGet_y H hx hn hb hv
  | none =>
    cases hy : l[rank l k]? with
    | some y => exact rGet_n H hx hn hb hv hy
    | none => exact rGet_z H hx hn hb hv hy
set_option maxHeartbeats 4000000 in
theorem rCeil_spec {w0 w : World} {D : Nat → Prop} {R : List Ent} {x : Option Addr} {c n : Nat} {l : Ents} {k : ByteArray} {eo : EO} (H : Hp w0 D (R) w) (hx : Rd w0 D R x (cellsE l)) (hn : l.length = n) (hb : n ≤ 1000000) (he : atL l (rank l k : Int) = eo) :
    Calls Try.prog 72 #[.slice x n c, .string k] w fun e w' => e = .returned (pairE eo) ∧ Hp w0 D R w' := by
  have HN := Lib.hid hn
  have HX := Lib.hid hx
  clear hn hx
  have HXR := Lib.hid (HX.out.push [⟨some 0, [], 0, 0⟩])
  clear HXR
  obtain ⟨r, hr⟩ : ∃ r, rank l k = r := ⟨_, rfl⟩
  have HR := Lib.hid hr
  rw [hr] at he
  have HAT := Lib.hid he
  clear hr he
  go_enter Try.func72, Try.ntmps72
  go_wp2_with (first
    | ((with_reducible refine gAl ?_); (refine al H Z34 rfl rfl ?_); clear H; intro b4 w1 H)
    | (go_at_call 67; ((with_reducible refine (rRank_spec H (rd_c HX.out) HN.out hb HR.out).mono ?_); rintro e w1 ⟨rfl, H1⟩; clear H; have H := H1; clear H1))
    | (go_at_call 66; ((with_reducible refine (rAt_spec (eo := eo) H (rd_c HX.out) HN.out hb HAT.out).mono ?_); rintro e w1 ⟨rfl, H1⟩; clear H; have H := H1; clear H1))
    | ((with_reducible refine gLd ?_); refine eLd H rfl rfl ?_; first | (refine kLd 0 rfl rfl (by first | exact T3 | exact T4 | exact T9 | exact T22 | exact T25 | exact T27 | exact T34) rfl ?_) | (refine kLdA 0 rfl rfl (by first | exact T3 | exact T4 | exact T9 | exact T22 | exact T25 | exact T27 | exact T34) (Nat.le_of_ble_eq_true rfl) (by simp only [List.drop_succ_cons, List.drop_zero, List.take_succ_cons, List.take_zero, List.set_cons_zero, List.set_cons_succ]; rfl) ?_))
    | ((with_reducible refine gSt ?_); (first | (refine eSt H rfl rfl ⟨.int _ _, rfl, ?_⟩) | (refine eSt H rfl rfl ⟨.bool _, rfl, ?_⟩) | (refine eSt H rfl rfl ⟨.slice _ _ _, rfl, ?_⟩) | (refine eSt H rfl rfl ⟨.pointer _, rfl, ?_⟩) | (refine eSt H rfl rfl ⟨.string _, rfl, ?_⟩) | (refine eSt H rfl rfl ⟨.agg (List.toArray _), rfl, ?_⟩)); (first | (refine kSt 0 rfl rfl (by first | exact T3 | exact T4 | exact T9 | exact T22 | exact T25 | exact T27 | exact T34) rfl (Nat.le_of_ble_eq_true rfl) ?_) | (refine kStA 0 rfl rfl (by first | exact T3 | exact T4 | exact T9 | exact T22 | exact T25 | exact T27 | exact T34) rfl rfl (Nat.le_of_ble_eq_true rfl) ?_)); clear H; intro w1 H; simp only [List.set_cons_zero, List.set_cons_succ] at H; (try simp only [lay, List.take_zero, List.nil_append, List.length_cons, List.length_nil, Nat.zero_add, Nat.reduceAdd, List.drop_succ_cons, List.drop_zero, List.drop_nil, List.append_nil, List.take_succ_cons, List.cons_append] at H))
    | ((with_reducible refine gBx ?_); refine bxA H rfl rfl rfl ?_; clear H; intro b1 w1 H)
    | ((with_reducible refine gBs ?_); (first | (refine bs1 H rfl (by first | exact S22) rfl (Nat.le_of_ble_eq_true rfl) (Nat.le_of_ble_eq_true rfl) rfl ?_) | (refine wl_buildSlice0 rfl (by first | exact S22) H ?_)); clear H; intro b1 w1 H)
    | ((with_reducible refine gEq ?_); (first | (refine wl_cmp rfl rfl rfl rfl ?_) | (refine wl_scmp rfl rfl rfl rfl ?_)); intro rb hrb; cases rb <;> (first | (exfalso; simp at hrb; done) | ((try simp only [decide_eq_true_eq, decide_eq_false_iff_not, beq_iff_eq, beq_eq_false_iff_ne, ne_eq, bne_iff_ne, bne_eq_false_iff_eq, Bool.not_eq_true', Bool.not_eq_false', gt_iff_lt, ge_iff_le, Int.not_lt, Int.not_le, Decidable.not_not] at hrb); (try subst hrb); (try (exfalso; omega)))))
    | ((with_reducible refine gAl ?_); (first | (refine al H Z34 rfl rfl ?_)); clear H; intro b1 w1 H)
    | ((with_reducible refine gRg ?_); refine wp_region_text rfl (by decide +kernel) ?_; replace H := H.drew)
    | ((with_reducible refine EndQ.intro ?_ ?_); (· kernel_rfl)))
  refine ret_ctE 0 H rfl rfl rfl rfl rfl rfl T34 (Nat.le_of_ble_eq_true rfl) rfl ?_
  exact ⟨rfl, H.drop⟩
set_option maxHeartbeats 4000000 in
theorem rFloor_y {w0 w : World} {D : Nat → Prop} {R : List Ent} {x : Option Addr} {c n : Nat} {l : Ents} {k : ByteArray} {v : Int} (H : Hp w0 D (R) w) (hx : Rd w0 D R x (cellsE l)) (hn : l.length = n) (hb : n ≤ 1000000) (hv : lget l k = some v) :
    Calls Try.prog 71 #[.slice x n c, .string k] w fun e w' => e = .returned (pairE (some (k, v))) ∧ Hp w0 D R w' := by
  have HN := Lib.hid hn
  have HX := Lib.hid hx
  clear hn hx
  obtain ⟨r, hr⟩ : ∃ r, rank l k = r := ⟨_, rfl⟩
  have HR := Lib.hid hr
  have hrn : r ≤ n := by rw [← hr, ← HN.out]; exact rank_le l k
  have HAT : Hid (atL l (r : Int) = some (k, v)) := Lib.hid (by rw [atL_nat, ← hr]; exact lget_some hv)
  have C1 : Hid ((!other k k) = true) := Lib.hid (by unfold other; rw [irr]; rfl)
  clear hr hv
  go_enter Try.func71, Try.ntmps71
  go_wp2_with (first
    | ((with_reducible refine gAl ?_); (refine al H Z34 rfl rfl ?_); clear H; intro b4 w1 H)
    | (go_at_call 67; ((with_reducible refine (rRank_spec H (rd_c HX.out) HN.out hb HR.out).mono ?_); rintro e w1 ⟨rfl, H1⟩; clear H; have H := H1; clear H1))
    | (go_at_call 66; ((with_reducible refine (rAt_spec (eo := some (k, v)) H (rd_c HX.out) HN.out hb HAT.out).mono ?_); rintro e w1 ⟨rfl, H1⟩; clear H; have H := H1; clear H1))
    | ((with_reducible refine gEq ?_); refine wl_ocmp rfl rfl (by first | exact congrArg some C1.out) rfl ?_)
    | ((with_reducible refine gLd ?_); refine eLd H rfl rfl ?_; first | (refine kLd 0 rfl rfl (by first | exact T3 | exact T4 | exact T9 | exact T22 | exact T25 | exact T27 | exact T34) rfl ?_) | (refine kLd 1 rfl rfl (by first | exact T3 | exact T4 | exact T9 | exact T22 | exact T25 | exact T27 | exact T34) rfl ?_) | (refine kLdA 0 rfl rfl (by first | exact T3 | exact T4 | exact T9 | exact T22 | exact T25 | exact T27 | exact T34) (Nat.le_of_ble_eq_true rfl) (by simp only [List.drop_succ_cons, List.drop_zero, List.take_succ_cons, List.take_zero, List.set_cons_zero, List.set_cons_succ]; rfl) ?_) | (refine kLdA 1 rfl rfl (by first | exact T3 | exact T4 | exact T9 | exact T22 | exact T25 | exact T27 | exact T34) (Nat.le_of_ble_eq_true rfl) (by simp only [List.drop_succ_cons, List.drop_zero, List.take_succ_cons, List.take_zero, List.set_cons_zero, List.set_cons_succ]; rfl) ?_))
    | ((with_reducible refine gSt ?_); (first | (refine eSt H rfl rfl ⟨.int _ _, rfl, ?_⟩) | (refine eSt H rfl rfl ⟨.bool _, rfl, ?_⟩) | (refine eSt H rfl rfl ⟨.slice _ _ _, rfl, ?_⟩) | (refine eSt H rfl rfl ⟨.pointer _, rfl, ?_⟩) | (refine eSt H rfl rfl ⟨.string _, rfl, ?_⟩) | (refine eSt H rfl rfl ⟨.agg (List.toArray _), rfl, ?_⟩)); (first | (refine kSt 0 rfl rfl (by first | exact T3 | exact T4 | exact T9 | exact T22 | exact T25 | exact T27 | exact T34) rfl (Nat.le_of_ble_eq_true rfl) ?_) | (refine kSt 1 rfl rfl (by first | exact T3 | exact T4 | exact T9 | exact T22 | exact T25 | exact T27 | exact T34) rfl (Nat.le_of_ble_eq_true rfl) ?_) | (refine kStA 0 rfl rfl (by first | exact T3 | exact T4 | exact T9 | exact T22 | exact T25 | exact T27 | exact T34) rfl rfl (Nat.le_of_ble_eq_true rfl) ?_) | (refine kStA 1 rfl rfl (by first | exact T3 | exact T4 | exact T9 | exact T22 | exact T25 | exact T27 | exact T34) rfl rfl (Nat.le_of_ble_eq_true rfl) ?_)); clear H; intro w1 H; simp only [List.set_cons_zero, List.set_cons_succ] at H; (try simp only [lay, List.take_zero, List.nil_append, List.length_cons, List.length_nil, Nat.zero_add, Nat.reduceAdd, List.drop_succ_cons, List.drop_zero, List.drop_nil, List.append_nil, List.take_succ_cons, List.cons_append] at H))
    | ((with_reducible refine gBx ?_); refine bxA H rfl rfl rfl ?_; clear H; intro b1 w1 H)
    | ((with_reducible refine gBs ?_); (first | (refine bs1 H rfl (by first | exact S22) rfl (Nat.le_of_ble_eq_true rfl) (Nat.le_of_ble_eq_true rfl) rfl ?_) | (refine wl_buildSlice0 rfl (by first | exact S22) H ?_)); clear H; intro b1 w1 H)
    | ((with_reducible refine gEq ?_); (first | (refine wl_cmp rfl rfl rfl rfl ?_) | (refine wl_scmp rfl rfl rfl rfl ?_)); intro rb hrb; cases rb <;> (first | (exfalso; simp at hrb; done) | ((try simp only [decide_eq_true_eq, decide_eq_false_iff_not, beq_iff_eq, beq_eq_false_iff_ne, ne_eq, bne_iff_ne, bne_eq_false_iff_eq, Bool.not_eq_true', Bool.not_eq_false', gt_iff_lt, ge_iff_le, Int.not_lt, Int.not_le, Decidable.not_not] at hrb); (try subst hrb); (try (exfalso; omega)))))
    | ((with_reducible refine gAl ?_); (first | (refine al H Z34 rfl rfl ?_)); clear H; intro b1 w1 H)
    | ((with_reducible refine gRg ?_); refine wp_region_text rfl (by decide +kernel) ?_; replace H := H.drew)
    | ((with_reducible refine EndQ.intro ?_ ?_); (· kernel_rfl)))
  all_goals
    refine ret_ctE 1 H rfl rfl rfl rfl rfl rfl T34 (Nat.le_of_ble_eq_true rfl) rfl ?_
    exact ⟨rfl, H.drop.drop⟩
set_option maxHeartbeats 4000000 in
theorem rFloor_n {w0 w : World} {D : Nat → Prop} {R : List Ent} {x : Option Addr} {c n : Nat} {l : Ents} {k : ByteArray} {yk : ByteArray} {yv : Int} {eo : EO} (H : Hp w0 D (R) w) (hx : Rd w0 D R x (cellsE l)) (hn : l.length = n) (hb : n ≤ 1000000) (hv : lget l k = none) (hy : l[rank l k]? = some (yk, yv)) (he : atL l ((rank l k : Int) - 1) = eo) :
    Calls Try.prog 71 #[.slice x n c, .string k] w fun e w' => e = .returned (pairE (eo)) ∧ Hp w0 D R w' := by
  have HN := Lib.hid hn
  have HX := Lib.hid hx
  clear hn hx
  obtain ⟨r, hr⟩ : ∃ r, rank l k = r := ⟨_, rfl⟩
  have HR := Lib.hid hr
  have hrn : r ≤ n := by rw [← hr, ← HN.out]; exact rank_le l k
  have HAT : Hid (atL l (r : Int) = some (yk, yv)) := Lib.hid (by rw [atL_nat, ← hr]; exact hy)
  have C1 : Hid ((!other yk k) = false) := Lib.hid (by rw [lget_none hv _ hy]; rfl)
  rw [hr] at he
  have HA2 := Lib.hid he
  clear he
  clear hr hv hy
  go_enter Try.func71, Try.ntmps71
  go_wp2_with (first
    | ((with_reducible refine gAl ?_); (refine al H Z34 rfl rfl ?_); clear H; intro b4 w1 H)
    | (go_at_call 67; ((with_reducible refine (rRank_spec H (rd_c HX.out) HN.out hb HR.out).mono ?_); rintro e w1 ⟨rfl, H1⟩; clear H; have H := H1; clear H1))
    | (go_at_call 66; ((with_reducible refine (rAt_spec (eo := some (yk, yv)) H (rd_c HX.out) HN.out hb HAT.out).mono ?_); rintro e w1 ⟨rfl, H1⟩; clear H; have H := H1; clear H1))
    | (go_at_call 66; ((with_reducible refine (rAt_spec (eo := eo) H (rd_c (rd_c HX.out)) HN.out hb HA2.out).mono ?_); rintro e w1 ⟨rfl, H1⟩; clear H; have H := H1; clear H1))
    | ((with_reducible refine gEq ?_); refine wl_ocmp rfl rfl (by first | exact congrArg some C1.out) rfl ?_)
    | ((with_reducible refine gLd ?_); refine eLd H rfl rfl ?_; first | (refine kLd 0 rfl rfl (by first | exact T3 | exact T4 | exact T9 | exact T22 | exact T25 | exact T27 | exact T34) rfl ?_) | (refine kLd 1 rfl rfl (by first | exact T3 | exact T4 | exact T9 | exact T22 | exact T25 | exact T27 | exact T34) rfl ?_) | (refine kLdA 0 rfl rfl (by first | exact T3 | exact T4 | exact T9 | exact T22 | exact T25 | exact T27 | exact T34) (Nat.le_of_ble_eq_true rfl) (by simp only [List.drop_succ_cons, List.drop_zero, List.take_succ_cons, List.take_zero, List.set_cons_zero, List.set_cons_succ]; rfl) ?_) | (refine kLdA 1 rfl rfl (by first | exact T3 | exact T4 | exact T9 | exact T22 | exact T25 | exact T27 | exact T34) (Nat.le_of_ble_eq_true rfl) (by simp only [List.drop_succ_cons, List.drop_zero, List.take_succ_cons, List.take_zero, List.set_cons_zero, List.set_cons_succ]; rfl) ?_))
    | ((with_reducible refine gSt ?_); (first | (refine eSt H rfl rfl ⟨.int _ _, rfl, ?_⟩) | (refine eSt H rfl rfl ⟨.bool _, rfl, ?_⟩) | (refine eSt H rfl rfl ⟨.slice _ _ _, rfl, ?_⟩) | (refine eSt H rfl rfl ⟨.pointer _, rfl, ?_⟩) | (refine eSt H rfl rfl ⟨.string _, rfl, ?_⟩) | (refine eSt H rfl rfl ⟨.agg (List.toArray _), rfl, ?_⟩)); (first | (refine kSt 0 rfl rfl (by first | exact T3 | exact T4 | exact T9 | exact T22 | exact T25 | exact T27 | exact T34) rfl (Nat.le_of_ble_eq_true rfl) ?_) | (refine kSt 1 rfl rfl (by first | exact T3 | exact T4 | exact T9 | exact T22 | exact T25 | exact T27 | exact T34) rfl (Nat.le_of_ble_eq_true rfl) ?_) | (refine kStA 0 rfl rfl (by first | exact T3 | exact T4 | exact T9 | exact T22 | exact T25 | exact T27 | exact T34) rfl rfl (Nat.le_of_ble_eq_true rfl) ?_) | (refine kStA 1 rfl rfl (by first | exact T3 | exact T4 | exact T9 | exact T22 | exact T25 | exact T27 | exact T34) rfl rfl (Nat.le_of_ble_eq_true rfl) ?_)); clear H; intro w1 H; simp only [List.set_cons_zero, List.set_cons_succ] at H; (try simp only [lay, List.take_zero, List.nil_append, List.length_cons, List.length_nil, Nat.zero_add, Nat.reduceAdd, List.drop_succ_cons, List.drop_zero, List.drop_nil, List.append_nil, List.take_succ_cons, List.cons_append] at H))
    | ((with_reducible refine gBx ?_); refine bxA H rfl rfl rfl ?_; clear H; intro b1 w1 H)
    | ((with_reducible refine gBs ?_); (first | (refine bs1 H rfl (by first | exact S22) rfl (Nat.le_of_ble_eq_true rfl) (Nat.le_of_ble_eq_true rfl) rfl ?_) | (refine wl_buildSlice0 rfl (by first | exact S22) H ?_)); clear H; intro b1 w1 H)
    | ((with_reducible refine gEq ?_); (first | (refine wl_cmp rfl rfl rfl rfl ?_) | (refine wl_scmp rfl rfl rfl rfl ?_)); intro rb hrb; cases rb <;> (first | (exfalso; simp at hrb; done) | ((try simp only [decide_eq_true_eq, decide_eq_false_iff_not, beq_iff_eq, beq_eq_false_iff_ne, ne_eq, bne_iff_ne, bne_eq_false_iff_eq, Bool.not_eq_true', Bool.not_eq_false', gt_iff_lt, ge_iff_le, Int.not_lt, Int.not_le, Decidable.not_not] at hrb); (try subst hrb); (try (exfalso; omega)))))
    | ((with_reducible refine gAl ?_); (first | (refine al H Z34 rfl rfl ?_)); clear H; intro b1 w1 H)
    | ((with_reducible refine gRg ?_); refine wp_region_text rfl (by decide +kernel) ?_; replace H := H.drew)
    | ((with_reducible refine EndQ.intro ?_ ?_); (· kernel_rfl)))
  all_goals
    refine ret_ctE 1 H rfl rfl rfl rfl rfl rfl T34 (Nat.le_of_ble_eq_true rfl) rfl ?_
    exact ⟨rfl, H.drop.drop⟩
set_option maxHeartbeats 4000000 in
theorem rFloor_z {w0 w : World} {D : Nat → Prop} {R : List Ent} {x : Option Addr} {c n : Nat} {l : Ents} {k : ByteArray} {eo : EO} (H : Hp w0 D (R) w) (hx : Rd w0 D R x (cellsE l)) (hn : l.length = n) (hb : n ≤ 1000000) (hv : lget l k = none) (hy : l[rank l k]? = none) (he : atL l ((rank l k : Int) - 1) = eo) :
    Calls Try.prog 71 #[.slice x n c, .string k] w fun e w' => e = .returned (pairE (eo)) ∧ Hp w0 D R w' := by
  have HN := Lib.hid hn
  have HX := Lib.hid hx
  clear hn hx
  obtain ⟨r, hr⟩ : ∃ r, rank l k = r := ⟨_, rfl⟩
  have HR := Lib.hid hr
  have hrn : r ≤ n := by rw [← hr, ← HN.out]; exact rank_le l k
  have HAT : Hid (atL l (r : Int) = none) := Lib.hid (by rw [atL_nat, ← hr]; exact hy)
  rw [hr] at he
  have HA2 := Lib.hid he
  clear he
  clear hr hv hy
  go_enter Try.func71, Try.ntmps71
  go_wp2_with (first
    | ((with_reducible refine gAl ?_); (refine al H Z34 rfl rfl ?_); clear H; intro b4 w1 H)
    | (go_at_call 67; ((with_reducible refine (rRank_spec H (rd_c HX.out) HN.out hb HR.out).mono ?_); rintro e w1 ⟨rfl, H1⟩; clear H; have H := H1; clear H1))
    | (go_at_call 66; ((with_reducible refine (rAt_spec (eo := none) H (rd_c HX.out) HN.out hb HAT.out).mono ?_); rintro e w1 ⟨rfl, H1⟩; clear H; have H := H1; clear H1))
    | (go_at_call 66; ((with_reducible refine (rAt_spec (eo := eo) H (rd_c (rd_c HX.out)) HN.out hb HA2.out).mono ?_); rintro e w1 ⟨rfl, H1⟩; clear H; have H := H1; clear H1))
    | ((with_reducible refine gLd ?_); refine eLd H rfl rfl ?_; first | (refine kLd 0 rfl rfl (by first | exact T3 | exact T4 | exact T9 | exact T22 | exact T25 | exact T27 | exact T34) rfl ?_) | (refine kLd 1 rfl rfl (by first | exact T3 | exact T4 | exact T9 | exact T22 | exact T25 | exact T27 | exact T34) rfl ?_) | (refine kLdA 0 rfl rfl (by first | exact T3 | exact T4 | exact T9 | exact T22 | exact T25 | exact T27 | exact T34) (Nat.le_of_ble_eq_true rfl) (by simp only [List.drop_succ_cons, List.drop_zero, List.take_succ_cons, List.take_zero, List.set_cons_zero, List.set_cons_succ]; rfl) ?_) | (refine kLdA 1 rfl rfl (by first | exact T3 | exact T4 | exact T9 | exact T22 | exact T25 | exact T27 | exact T34) (Nat.le_of_ble_eq_true rfl) (by simp only [List.drop_succ_cons, List.drop_zero, List.take_succ_cons, List.take_zero, List.set_cons_zero, List.set_cons_succ]; rfl) ?_))
    | ((with_reducible refine gSt ?_); (first | (refine eSt H rfl rfl ⟨.int _ _, rfl, ?_⟩) | (refine eSt H rfl rfl ⟨.bool _, rfl, ?_⟩) | (refine eSt H rfl rfl ⟨.slice _ _ _, rfl, ?_⟩) | (refine eSt H rfl rfl ⟨.pointer _, rfl, ?_⟩) | (refine eSt H rfl rfl ⟨.string _, rfl, ?_⟩) | (refine eSt H rfl rfl ⟨.agg (List.toArray _), rfl, ?_⟩)); (first | (refine kSt 0 rfl rfl (by first | exact T3 | exact T4 | exact T9 | exact T22 | exact T25 | exact T27 | exact T34) rfl (Nat.le_of_ble_eq_true rfl) ?_) | (refine kSt 1 rfl rfl (by first | exact T3 | exact T4 | exact T9 | exact T22 | exact T25 | exact T27 | exact T34) rfl (Nat.le_of_ble_eq_true rfl) ?_) | (refine kStA 0 rfl rfl (by first | exact T3 | exact T4 | exact T9 | exact T22 | exact T25 | exact T27 | exact T34) rfl rfl (Nat.le_of_ble_eq_true rfl) ?_) | (refine kStA 1 rfl rfl (by first | exact T3 | exact T4 | exact T9 | exact T22 | exact T25 | exact T27 | exact T34) rfl rfl (Nat.le_of_ble_eq_true rfl) ?_)); clear H; intro w1 H; simp only [List.set_cons_zero, List.set_cons_succ] at H; (try simp only [lay, List.take_zero, List.nil_append, List.length_cons, List.length_nil, Nat.zero_add, Nat.reduceAdd, List.drop_succ_cons, List.drop_zero, List.drop_nil, List.append_nil, List.take_succ_cons, List.cons_append] at H))
    | ((with_reducible refine gBx ?_); refine bxA H rfl rfl rfl ?_; clear H; intro b1 w1 H)
    | ((with_reducible refine gBs ?_); (first | (refine bs1 H rfl (by first | exact S22) rfl (Nat.le_of_ble_eq_true rfl) (Nat.le_of_ble_eq_true rfl) rfl ?_) | (refine wl_buildSlice0 rfl (by first | exact S22) H ?_)); clear H; intro b1 w1 H)
    | ((with_reducible refine gEq ?_); (first | (refine wl_cmp rfl rfl rfl rfl ?_) | (refine wl_scmp rfl rfl rfl rfl ?_)); intro rb hrb; cases rb <;> (first | (exfalso; simp at hrb; done) | ((try simp only [decide_eq_true_eq, decide_eq_false_iff_not, beq_iff_eq, beq_eq_false_iff_ne, ne_eq, bne_iff_ne, bne_eq_false_iff_eq, Bool.not_eq_true', Bool.not_eq_false', gt_iff_lt, ge_iff_le, Int.not_lt, Int.not_le, Decidable.not_not] at hrb); (try subst hrb); (try (exfalso; omega)))))
    | ((with_reducible refine gAl ?_); (first | (refine al H Z34 rfl rfl ?_)); clear H; intro b1 w1 H)
    | ((with_reducible refine gRg ?_); refine wp_region_text rfl (by decide +kernel) ?_; replace H := H.drew)
    | ((with_reducible refine EndQ.intro ?_ ?_); (· kernel_rfl)))
  all_goals
    refine ret_ctE 1 H rfl rfl rfl rfl rfl rfl T34 (Nat.le_of_ble_eq_true rfl) rfl ?_
    exact ⟨rfl, H.drop.drop⟩
theorem rFloor_spec {w0 w : World} {D : Nat → Prop} {R : List Ent} {x : Option Addr} {c n : Nat} {l : Ents} {k : ByteArray} {eo : EO} (H : Hp w0 D R w) (hx : Rd w0 D R x (cellsE l)) (hn : l.length = n) (hb : n ≤ 1000000) (he : floorL l k = eo) :
    Calls Try.prog 71 #[.slice x n c, .string k] w fun e w' => e = .returned (pairE eo) ∧ Hp w0 D R w' := by
  unfold floorL at he
  cases hv : lget l k with
  | some v => rw [hv] at he; subst he; exact rFloor_y H hx hn hb hv
  | none =>
    rw [hv] at he
    cases hy : l[rank l k]? with
    | some y => exact rFloor_n H hx hn hb hv hy he
    | none => exact rFloor_z H hx hn hb hv hy he
end Go.Proofs.Ytgnmjeajmnmobaa
