/- What functions of layer 4 compute. -/
import Derived.Test.YtgnmjeajmnmobaaW17
import Derived.WalkKit
import Derived.Lib.Hide
import Derived.Deep.LoopGhost
import Derived.WalkSpells
set_option linter.unusedVariables false
set_option linter.unusedSimpArgs false
namespace Go.Proofs.Ytgnmjeajmnmobaa
open Go.RowKit Go.Gx Go.Gx.Kp
set_option maxRecDepth 100000
open KeyOrd
theorem atT_nat (t : T ByteArray Int) (n : Nat) : atT t (n : Int) = t.list[n]? := by
  unfold atT; rw [if_neg (by omega), tat_eq]; simp
theorem ranks_some {t : T ByteArray Int} {k : ByteArray} {u : Int} (hs : Srt t.list) (h : tget t k = some u) : atT t ((trank t k : Nat) : Int) = some (k, u) := by
  rw [atT_nat, trank_eq t k hs]
  exact lget_some (by rw [← tget_eq t k hs]; exact h)
theorem ranks_none {t : T ByteArray Int} {k : ByteArray} (hs : Srt t.list) (h : tget t k = none) : (∀ x, atT t (((trank t k : Nat) : Int) - 1) = some x → lt x.1 k = true) ∧ (∀ x, atT t ((trank t k : Nat) : Int) = some x → lt k x.1 = true) := by
  rw [atT_nat, trank_eq t k hs]
  rw [tget_eq t k hs] at h
  refine ⟨fun x hx => ?_, fun x hx => ?_⟩
  · cases hr : rank t.list k with
    | zero => rw [hr] at hx; simp [atT] at hx
    | succ m =>
      rw [hr, show (((m + 1 : Nat) : Int) - 1) = (m : Int) by omega, atT_nat] at hx
      exact ((rank_drop t.list m (by omega)).1 x hx).2 (by omega)
  · have h1 := lget_none h x hx
    have h2 : lt x.1 k = false := by
      cases hc : lt x.1 k with
      | false => rfl
      | true => have := ((rank_drop t.list _ (Nat.le_refl _)).1 x hx).1 hc; omega
    unfold other at h1
    rw [h2] at h1
    simpa using h1
theorem ins_has {l : List (ByteArray × Int)} {k : ByteArray} {v : Int} : (k, v) ∈ ins l k v := by
  induction l with
  | nil => simp [ins]
  | cons x l ih => unfold ins; split <;> (try split) <;> simp [ih]
theorem ins_keeps {l : List (ByteArray × Int)} {k j : ByteArray} {v u : Int} (h : (j, u) ∈ l) : ∃ u', (j, u') ∈ ins l k v := by
  induction l with
  | nil => simp at h
  | cons x l ih =>
    unfold ins
    rcases List.mem_cons.1 h with e | h
    · subst e
      split
      · exact ⟨u, by simp⟩
      · split
        · exact ⟨u, by simp⟩
        · rename_i c1 c2
          have := tri k j (by simpa using c1) (by simpa using c2)
          subst this
          exact ⟨v, by simp⟩
    · split
      · exact ⟨u, by simp [h]⟩
      · split
        · obtain ⟨u', hu⟩ := ih h; exact ⟨u', by simp [hu]⟩
        · exact ⟨u, by simp [h]⟩
theorem builtT_has : ∀ (l : Ents) (x : ByteArray × Int), x ∈ l → ∃ u, (x.1, u) ∈ (builtT l).list := fun l => by
  induction h : l.length generalizing l with
  | zero => rw [List.length_eq_zero_iff.1 h]; simp
  | succ n ih =>
    intro x hx
    rcases List.eq_nil_or_concat l with rfl | ⟨m, y, rfl⟩
    · simp at h
    · rw [List.concat_eq_append] at *
      rw [builtT_snoc, put_list _ _ _ (builtT_srt m)]
      rcases List.mem_append.1 hx with hx | hx
      · obtain ⟨u, hu⟩ := ih m (by simpa using h) x hx
        exact ins_keeps hu
      · simp at hx; subst hx; exact ⟨_, ins_has⟩
theorem builtT_get {l : Ents} {j : Nat} {x : ByteArray × Int} (h : l[j]? = some x) : ∃ u, tget (builtT l) x.1 = some u := by
  obtain ⟨u, hu⟩ := builtT_has l x (List.mem_of_getElem? h)
  exact ⟨u, by rw [tget_eq _ _ (builtT_srt l)]; exact (lget_mem (builtT_srt l)).2 hu⟩
theorem At_S {w0 w : World} {D : Nat → Prop} {R : List Ent} {t : T ByteArray Int} {p : Option Nat} {n : Nat} {k9 : ByteArray} {u9 : Int} (H : Hp w0 D R w) (ht : Td hS w0 D R t p) {i : Int} (hn : t.size = n) (hb : n ≤ 1000000) (ho : atT t i = some (k9, u9)) : Calls Try.prog 28 #[mapV p, .int .i64 i] w fun e w' => e = .returned (.tuple #[.string k9, .int .i64 u9, .bool true]) ∧ Hp w0 D R w' := At_spec H ht hn hb ho
theorem Ceil_S {w0 w : World} {D : Nat → Prop} {R : List Ent} {t : T ByteArray Int} {p : Option Nat} {n : Nat} {k9 : ByteArray} {u9 : Int} (H : Hp w0 D R w) (ht : Td hS w0 D R t p) {k : ByteArray} (hr : trank t k = n) (hb : t.size ≤ 1000000) (ho : atT t (n : Int) = some (k9, u9)) : Calls Try.prog 31 #[mapV p, .string k] w fun e w' => e = .returned (.tuple #[.string k9, .int .i64 u9, .bool true]) ∧ Hp w0 D R w' := Ceil_spec H ht hr hb ho
theorem FloorY_S {w0 w : World} {D : Nat → Prop} {R : List Ent} {t : T ByteArray Int} {p : Option Nat} {n : Nat} {k9 : ByteArray} {u9 : Int} (H : Hp w0 D R w) (ht : Td hS w0 D R t p) {k : ByteArray} {u : Int} (hv : tget t k = some u) (hr : trank t k = n) (hn : n ≤ 1000000) (hb : t.size ≤ 1000000) (ho : atT t (n : Int) = some (k9, u9)) : Calls Try.prog 30 #[mapV p, .string k] w fun e w' => e = .returned (.tuple #[.string k9, .int .i64 u9, .bool true]) ∧ Hp w0 D R w' := Floor_yes H ht hv hr hn hb ho
theorem FloorN_S {w0 w : World} {D : Nat → Prop} {R : List Ent} {t : T ByteArray Int} {p : Option Nat} {n : Nat} {k9 : ByteArray} {u9 : Int} (H : Hp w0 D R w) (ht : Td hS w0 D R t p) {k : ByteArray} (hv : tget t k = none) (hr : trank t k = n) (hn : n ≤ 1000000) (hb : t.size ≤ 1000000) (ho : atT t ((n : Int) - 1) = some (k9, u9)) : Calls Try.prog 30 #[mapV p, .string k] w fun e w' => e = .returned (.tuple #[.string k9, .int .i64 u9, .bool true]) ∧ Hp w0 D R w' := Floor_no H ht hv hr hn hb ho
theorem At_N {w0 w : World} {D : Nat → Prop} {R : List Ent} {t : T ByteArray Int} {p : Option Nat} {n : Nat} (H : Hp w0 D R w) (ht : Td hS w0 D R t p) {i : Int} (hn : t.size = n) (hb : n ≤ 1000000) (ho : atT t i = none) : Calls Try.prog 28 #[mapV p, .int .i64 i] w fun e w' => e = .returned (.tuple #[.string ⟨#[]⟩, .int .i64 0, .bool false]) ∧ Hp w0 D R w' := At_spec H ht hn hb ho
theorem Ceil_N {w0 w : World} {D : Nat → Prop} {R : List Ent} {t : T ByteArray Int} {p : Option Nat} {n : Nat} (H : Hp w0 D R w) (ht : Td hS w0 D R t p) {k : ByteArray} (hr : trank t k = n) (hb : t.size ≤ 1000000) (ho : atT t (n : Int) = none) : Calls Try.prog 31 #[mapV p, .string k] w fun e w' => e = .returned (.tuple #[.string ⟨#[]⟩, .int .i64 0, .bool false]) ∧ Hp w0 D R w' := Ceil_spec H ht hr hb ho
theorem FloorY_N {w0 w : World} {D : Nat → Prop} {R : List Ent} {t : T ByteArray Int} {p : Option Nat} {n : Nat} (H : Hp w0 D R w) (ht : Td hS w0 D R t p) {k : ByteArray} {u : Int} (hv : tget t k = some u) (hr : trank t k = n) (hn : n ≤ 1000000) (hb : t.size ≤ 1000000) (ho : atT t (n : Int) = none) : Calls Try.prog 30 #[mapV p, .string k] w fun e w' => e = .returned (.tuple #[.string ⟨#[]⟩, .int .i64 0, .bool false]) ∧ Hp w0 D R w' := Floor_yes H ht hv hr hn hb ho
theorem FloorN_N {w0 w : World} {D : Nat → Prop} {R : List Ent} {t : T ByteArray Int} {p : Option Nat} {n : Nat} (H : Hp w0 D R w) (ht : Td hS w0 D R t p) {k : ByteArray} (hv : tget t k = none) (hr : trank t k = n) (hn : n ≤ 1000000) (hb : t.size ≤ 1000000) (ho : atT t ((n : Int) - 1) = none) : Calls Try.prog 30 #[mapV p, .string k] w fun e w' => e = .returned (.tuple #[.string ⟨#[]⟩, .int .i64 0, .bool false]) ∧ Hp w0 D R w' := Floor_no H ht hv hr hn hb ho
set_option maxHeartbeats 8000000 in
theorem Ranks_spec {w0 w : World} {D : Nat → Prop} {R : List Ent} {x : Option Addr} {c n : Nat} {l : Ents} {k : ByteArray} (H : Hp w0 D (R) w) (hx : Rd w0 D R x (cellsE l)) (hn : l.length = n) (hb : n ≤ 1048576) :
    Calls Try.prog 6 #[.slice x n c, .string k] w fun e w' => e = .returned (.bool true) ∧ ∃ L, Hp w0 D L w' := by
  have HN := Lib.hid hn
  have HX : Hid (Rd w0 D ([] ++ R) x (cellsE l)) := Lib.hid hx
  have HX0 := Lib.hid hx
  clear hn hx
  go_enter Try.func6, Try.ntmps6
  go_wp2_with (first
    | (go_at_call 13; ((with_reducible refine (live_spec H).mono ?_); rintro e w1 ⟨rfl, H1⟩; clear H; have H := H1; clear H1))
    | (go_at_call 12; ((with_reducible refine (wide_spec H HX0.out HN.out hb).mono ?_); rintro e w1 ⟨r, rfl, hr80, H1⟩; clear H; have H := H1; clear H1; cases r))
    | (go_at_call 14; have h80 : n ≤ 1000 := (by have h9 : n ≤ 80 := (by simpa using hr80); omega); have H2 : Hp w0 D (([] : List Ent) ++ R) _ := H; ((with_reducible refine (built_spec (M := []) (Z := R) H2 HX.out HN.out h80).mono ?_); rintro e w1 ⟨p, a9, c9, Z1, rfl, hx1, ht, hrd, H1⟩; clear H H2; have H := H1; clear H1; simp only [List.nil_append] at H))
    | ((with_reducible refine gAl ?_); refine wl_alloc rfl Z27 H ?_; clear H; intro b5 w1 H; replace H : Hp w0 D (⟨some b5, [.pointer none], 27, 1⟩ :: _) w1 := H)
    | ((with_reducible refine gLd ?_); refine eLd H rfl rfl ?_; first | (refine kLdB 0 rfl rfl (by first | exact T2 | exact T3 | exact T4 | exact T9 | exact T22 | exact T25 | exact T27 | exact T31 | exact T34 | exact T41 | exact T42 | exact T44 | exact T47 | exact T52 | exact T53 | exact T75 | exact T97 | exact T99 | exact T101 | exact T106 | exact T107 | exact T109 | exact T112 | exact T116 | exact T118 | exact T120 | exact T137 | exact T146) rfl ?_; intro rb hrb; cases rb <;> (first | (exfalso; simp at hrb; done) | ((try simp only [decide_eq_true_eq, decide_eq_false_iff_not, beq_iff_eq, beq_eq_false_iff_ne, ne_eq, bne_iff_ne, bne_eq_false_iff_eq, Bool.not_eq_true', Bool.not_eq_false', gt_iff_lt, ge_iff_le, Int.not_lt, Int.not_le, Decidable.not_not] at hrb); (try subst hrb); (try (exfalso; omega))))) | (refine kLdB 1 rfl rfl (by first | exact T2 | exact T3 | exact T4 | exact T9 | exact T22 | exact T25 | exact T27 | exact T31 | exact T34 | exact T41 | exact T42 | exact T44 | exact T47 | exact T52 | exact T53 | exact T75 | exact T97 | exact T99 | exact T101 | exact T106 | exact T107 | exact T109 | exact T112 | exact T116 | exact T118 | exact T120 | exact T137 | exact T146) rfl ?_; intro rb hrb; cases rb <;> (first | (exfalso; simp at hrb; done) | ((try simp only [decide_eq_true_eq, decide_eq_false_iff_not, beq_iff_eq, beq_eq_false_iff_ne, ne_eq, bne_iff_ne, bne_eq_false_iff_eq, Bool.not_eq_true', Bool.not_eq_false', gt_iff_lt, ge_iff_le, Int.not_lt, Int.not_le, Decidable.not_not] at hrb); (try subst hrb); (try (exfalso; omega))))) | (refine kLd 0 rfl rfl (by first | exact T2 | exact T3 | exact T4 | exact T9 | exact T22 | exact T25 | exact T27 | exact T31 | exact T34 | exact T41 | exact T42 | exact T44 | exact T47 | exact T52 | exact T53 | exact T75 | exact T97 | exact T99 | exact T101 | exact T106 | exact T107 | exact T109 | exact T112 | exact T116 | exact T118 | exact T120 | exact T137 | exact T146) rfl ?_) | (refine kLd 1 rfl rfl (by first | exact T2 | exact T3 | exact T4 | exact T9 | exact T22 | exact T25 | exact T27 | exact T31 | exact T34 | exact T41 | exact T42 | exact T44 | exact T47 | exact T52 | exact T53 | exact T75 | exact T97 | exact T99 | exact T101 | exact T106 | exact T107 | exact T109 | exact T112 | exact T116 | exact T118 | exact T120 | exact T137 | exact T146) rfl ?_) | (refine kLdA 0 rfl rfl (by first | exact T2 | exact T3 | exact T4 | exact T9 | exact T22 | exact T25 | exact T27 | exact T31 | exact T34 | exact T41 | exact T42 | exact T44 | exact T47 | exact T52 | exact T53 | exact T75 | exact T97 | exact T99 | exact T101 | exact T106 | exact T107 | exact T109 | exact T112 | exact T116 | exact T118 | exact T120 | exact T137 | exact T146) (Nat.le_of_ble_eq_true rfl) (by simp only [List.drop_succ_cons, List.drop_zero, List.take_succ_cons, List.take_zero, List.set_cons_zero, List.set_cons_succ]; rfl) ?_) | (refine kLdA 1 rfl rfl (by first | exact T2 | exact T3 | exact T4 | exact T9 | exact T22 | exact T25 | exact T27 | exact T31 | exact T34 | exact T41 | exact T42 | exact T44 | exact T47 | exact T52 | exact T53 | exact T75 | exact T97 | exact T99 | exact T101 | exact T106 | exact T107 | exact T109 | exact T112 | exact T116 | exact T118 | exact T120 | exact T137 | exact T146) (Nat.le_of_ble_eq_true rfl) (by simp only [List.drop_succ_cons, List.drop_zero, List.take_succ_cons, List.take_zero, List.set_cons_zero, List.set_cons_succ]; rfl) ?_))
    | ((with_reducible refine gSt ?_); (first | (refine eSt H rfl rfl ⟨.int _ _, rfl, ?_⟩) | (refine eSt H rfl rfl ⟨.bool _, rfl, ?_⟩) | (refine eSt H rfl rfl ⟨.slice _ _ _, rfl, ?_⟩) | (refine eSt H rfl rfl ⟨.pointer _, rfl, ?_⟩) | (refine eSt H rfl rfl ⟨.string _, rfl, ?_⟩) | (refine eSt H rfl rfl ⟨.agg (List.toArray _), rfl, ?_⟩)); (first | (refine kSt 0 rfl rfl (by first | exact T2 | exact T3 | exact T4 | exact T9 | exact T22 | exact T25 | exact T27 | exact T31 | exact T34 | exact T41 | exact T42 | exact T44 | exact T47 | exact T52 | exact T53 | exact T75 | exact T97 | exact T99 | exact T101 | exact T106 | exact T107 | exact T109 | exact T112 | exact T116 | exact T118 | exact T120 | exact T137 | exact T146) rfl (Nat.le_of_ble_eq_true rfl) ?_) | (refine kSt 1 rfl rfl (by first | exact T2 | exact T3 | exact T4 | exact T9 | exact T22 | exact T25 | exact T27 | exact T31 | exact T34 | exact T41 | exact T42 | exact T44 | exact T47 | exact T52 | exact T53 | exact T75 | exact T97 | exact T99 | exact T101 | exact T106 | exact T107 | exact T109 | exact T112 | exact T116 | exact T118 | exact T120 | exact T137 | exact T146) rfl (Nat.le_of_ble_eq_true rfl) ?_) | (refine kStA 0 rfl rfl (by first | exact T2 | exact T3 | exact T4 | exact T9 | exact T22 | exact T25 | exact T27 | exact T31 | exact T34 | exact T41 | exact T42 | exact T44 | exact T47 | exact T52 | exact T53 | exact T75 | exact T97 | exact T99 | exact T101 | exact T106 | exact T107 | exact T109 | exact T112 | exact T116 | exact T118 | exact T120 | exact T137 | exact T146) rfl rfl (Nat.le_of_ble_eq_true rfl) ?_) | (refine kStA 1 rfl rfl (by first | exact T2 | exact T3 | exact T4 | exact T9 | exact T22 | exact T25 | exact T27 | exact T31 | exact T34 | exact T41 | exact T42 | exact T44 | exact T47 | exact T52 | exact T53 | exact T75 | exact T97 | exact T99 | exact T101 | exact T106 | exact T107 | exact T109 | exact T112 | exact T116 | exact T118 | exact T120 | exact T137 | exact T146) rfl rfl (Nat.le_of_ble_eq_true rfl) ?_)); clear H; intro w1 H; simp only [List.set_cons_zero, List.set_cons_succ] at H; (try simp only [lay, List.take_zero, List.nil_append, List.length_cons, List.length_nil, Nat.zero_add, Nat.reduceAdd, List.drop_succ_cons, List.drop_zero, List.drop_nil, List.append_nil, List.take_succ_cons, List.cons_append] at H))
    | ((with_reducible refine gBx ?_); refine bxA H rfl rfl rfl ?_; clear H; intro b1 w1 H)
    | ((with_reducible refine gBs ?_); (first | (refine bs1 H rfl (by first | exact S22) rfl (Nat.le_of_ble_eq_true rfl) (Nat.le_of_ble_eq_true rfl) rfl ?_) | (refine wl_buildSlice0 rfl (by first | exact S22) H ?_)); clear H; intro b1 w1 H)
    | ((with_reducible refine gEq ?_); (first | (refine wl_cmp rfl rfl rfl rfl ?_) | (refine wl_scmp rfl rfl rfl rfl ?_)); intro rb hrb; cases rb <;> (first | (exfalso; simp at hrb; done) | ((try simp only [decide_eq_true_eq, decide_eq_false_iff_not, beq_iff_eq, beq_eq_false_iff_ne, ne_eq, bne_iff_ne, bne_eq_false_iff_eq, Bool.not_eq_true', Bool.not_eq_false', gt_iff_lt, ge_iff_le, Int.not_lt, Int.not_le, Decidable.not_not] at hrb); (try subst hrb); (try (exfalso; omega)))))
    | ((with_reducible refine gAl ?_); (first | (refine al H Z27 rfl rfl ?_)); clear H; intro b1 w1 H)
    | ((with_reducible refine gRg ?_); refine wp_region_text rfl (by decide +kernel) ?_; replace H := H.drew)
    | ((with_reducible refine EndQ.intro ?_ ?_); (· kernel_rfl)))
  · have hsr := builtT_srt l
    have hts : (builtT l).size ≤ 1000000 := by have := builtT_size l; rw [HN.out] at this; omega
    have hget := fun j y h => builtT_get (l := l) (j := j) (x := y) h
    obtain ⟨t, hT⟩ : ∃ t, builtT l = t := ⟨_, rfl⟩
    rw [hT] at ht hrd hsr hts hget
    have HT := Lib.hid ht
    have HGT := Lib.hid hget
    clear ht hrd hT hget
    go_loopg [7] n (fun g v7 wr => ∃ j : Nat, v7 = .int .i64 (j : Int) ∧ j + g = n ∧ Hp w0 D (⟨some b5, [ptr p], 27, 1⟩ :: Z1) wr)
    case atStart => exact ⟨0, rfl, by omega, H⟩
    case round =>
      clear H
      obtain ⟨j, rfl, hjg, H⟩ := hrel
      by_cases hj : j < n
      · obtain ⟨y, hy⟩ : ∃ y, l[j]? = some y := ⟨_, List.getElem?_eq_getElem (by rw [HN.out]; exact hj)⟩
        obtain ⟨bx, ox, rfl, hX⟩ := HX.out.some_of (by rw [cellsE_len, HN.out]; omega)
        obtain ⟨u, hu⟩ := HGT.out j y hy
        have HK := Lib.hid (cellsE_get hy).1
        obtain ⟨yk, yv⟩ := y
        have HV := Lib.hid hu
        obtain ⟨rk, hrk0⟩ : ∃ rk, trank t yk = rk := ⟨_, rfl⟩
        have HRK := Lib.hid hrk0
        have ho := ranks_some hsr hu
        rw [hrk0] at ho
        have HO := Lib.hid ho
        have HOF := HO
        have HOC := HO
        have hrk : rk ≤ 1000000 := by rw [← hrk0]; exact Nat.le_trans (by rw [trank_eq _ _ hsr]; exact Nat.le_trans (rank_le _ _) (Nat.le_of_eq (T.list_length t))) hts
        have hgp : 0 < gk := by omega
        have HJG := Lib.hid hjg
        clear hy hu hrk0 ho hjg
        go_wp2_with (first
    | ((with_reducible refine gRg ?_); refine wp_region_B (fun u => Hp w0 D (⟨some b5, [ptr p], 27, 1⟩ :: Z1) u) rfl ?_; replace H := H.drew; (refine bTakeL 0 rfl (by decide +kernel) (H) rfl (fun u hu => run_ldA 0 hu rfl rfl rfl T27 (Nat.le_of_ble_eq_true rfl) rfl) ?_; (try simp only [Act.put, List.setIfInBounds_toArray, List.set_cons_succ, List.set_cons_zero])); (refine bTakeL 1 rfl (by decide +kernel) (H) rfl (fun u hu => run_ldA 0 hu rfl rfl rfl T27 (Nat.le_of_ble_eq_true rfl) rfl) ?_; (try simp only [Act.put, List.setIfInBounds_toArray, List.set_cons_succ, List.set_cons_zero])); (refine bTakeL 2 rfl (by decide +kernel) (H) rfl (by intro u hu; go_simp; rfl) ?_; (try simp only [Act.put, List.setIfInBounds_toArray, List.set_cons_succ, List.set_cons_zero])); (refine bTakeL 3 rfl (by decide +kernel) (H) rfl (by intro u hu; go_simp; rfl) ?_; (try simp only [Act.put, List.setIfInBounds_toArray, List.set_cons_succ, List.set_cons_zero])); (refine bTakeL 4 rfl (by decide +kernel) (H) rfl (by intro u hu; go_simp; rfl) ?_; (try simp only [Act.put, List.setIfInBounds_toArray, List.set_cons_succ, List.set_cons_zero])); (refine bTakeL 5 rfl (by decide +kernel) (H) rfl (by intro u hu; go_simp; rfl) ?_; (try simp only [Act.put, List.setIfInBounds_toArray, List.set_cons_succ, List.set_cons_zero])); (refine bTakeL 6 rfl (by decide +kernel) (H) rfl (fun u hu => run_ldR (k := j * 2) (hX [] _ (Hp.keptZ (M := []) hx1 hu.drop)) rfl (by first | rfl | omega) T9 HK.out) ?_; (try simp only [Act.put, List.setIfInBounds_toArray, List.set_cons_succ, List.set_cons_zero])); (refine bOneL 7 (by decide +kernel) rfl rfl ?_); (intro K hK; go_simp; go_at_call 29; (with_reducible refine (Rank_spec (n := rk) H (td_cons HT.out) HRK.out hts).mono ?_); rintro e w1 ⟨rfl, H1⟩; clear H; have H := H1; clear H1; (try simp only []); refine hK _ _ (H) ?_; clear hK K; (try simp only [Act.put, List.setIfInBounds_toArray, List.set_cons_succ, List.set_cons_zero]); (refine bOneL 8 (by decide +kernel) rfl rfl ?_); (intro K hK; go_simp; go_at_call 28; (with_reducible refine (At_S H (td_cons HT.out) rfl hts HO.out).mono ?_); rintro e w1 ⟨rfl, H1⟩; clear H; have H := H1; clear H1; (try simp only []); refine hK _ _ (H) ?_; clear hK K; (try simp only [Act.put, List.setIfInBounds_toArray, List.set_cons_succ, List.set_cons_zero]); (refine bTakeL 9 rfl (by decide +kernel) (H) rfl (by intro u hu; go_simp; rfl) ?_; (try simp only [Act.put, List.setIfInBounds_toArray, List.set_cons_succ, List.set_cons_zero])); (refine bTakeL 10 rfl (by decide +kernel) (H) rfl (by intro u hu; go_simp; rfl) ?_; (try simp only [Act.put, List.setIfInBounds_toArray, List.set_cons_succ, List.set_cons_zero])); (refine bTakeL 11 rfl (by decide +kernel) (H) rfl (by intro u hu; go_simp; rfl) ?_; (try simp only [Act.put, List.setIfInBounds_toArray, List.set_cons_succ, List.set_cons_zero])); (refine bTakeL 12 rfl (by decide +kernel) (H) rfl (by intro u hu; go_simp; rfl) ?_; (try simp only [Act.put, List.setIfInBounds_toArray, List.set_cons_succ, List.set_cons_zero])); (refine bTakeL 13 rfl (by decide +kernel) (H) rfl (by intro u hu; go_simp; rfl) ?_; (try simp only [Act.put, List.setIfInBounds_toArray, List.set_cons_succ, List.set_cons_zero])); (refine bTakeL 14 rfl (by decide +kernel) (H) rfl (by intro u hu; go_simp; rfl) ?_; (try simp only [Act.put, List.setIfInBounds_toArray, List.set_cons_succ, List.set_cons_zero])); (refine bTakeL 15 rfl (by decide +kernel) (H) rfl (by intro u hu; go_simp; rfl) ?_; (try simp only [Act.put, List.setIfInBounds_toArray, List.set_cons_succ, List.set_cons_zero])); (refine bDone (by decide +kernel) ?_); (skip))))
    | ((with_reducible refine gLd ?_); refine wl_loadR (k := j * 2) (hX [] _ (Hp.keptZ (M := []) hx1 H.drop)) rfl rfl (by first | rfl | omega) T9 HK.out ?_)
    | (go_at_call 32; ((with_reducible refine (Get_spec H (td_cons HT.out) HV.out).mono ?_); rintro e w1 ⟨rfl, H1⟩; clear H; have H := H1; clear H1; (try simp only [keyO_some, valO_some, Option.isSome_some, Option.isSome_none])))
    | (go_at_call 31; ((with_reducible refine (Ceil_S H (td_cons HT.out) HRK.out hts HOC.out).mono ?_); rintro e w1 ⟨rfl, H1⟩; clear H; have H := H1; clear H1; (try simp only [keyO_some, valO_some, Option.isSome_some, Option.isSome_none])))
    | (go_at_call 30; ((with_reducible refine (FloorY_S H (td_cons HT.out) HV.out HRK.out hrk hts HOF.out).mono ?_); rintro e w1 ⟨rfl, H1⟩; clear H; have H := H1; clear H1; (try simp only [keyO_some, valO_some, Option.isSome_some, Option.isSome_none])))
    | ((with_reducible refine gLd ?_); refine eLd H rfl rfl ?_; first | (refine kLdB 0 rfl rfl (by first | exact T2 | exact T3 | exact T4 | exact T9 | exact T22 | exact T25 | exact T27 | exact T31 | exact T34 | exact T41 | exact T42 | exact T44 | exact T47 | exact T52 | exact T53 | exact T75 | exact T97 | exact T99 | exact T101 | exact T106 | exact T107 | exact T109 | exact T112 | exact T116 | exact T118 | exact T120 | exact T137 | exact T146) rfl ?_; intro rb hrb; cases rb <;> (first | (exfalso; simp at hrb; done) | ((try simp only [decide_eq_true_eq, decide_eq_false_iff_not, beq_iff_eq, beq_eq_false_iff_ne, ne_eq, bne_iff_ne, bne_eq_false_iff_eq, Bool.not_eq_true', Bool.not_eq_false', gt_iff_lt, ge_iff_le, Int.not_lt, Int.not_le, Decidable.not_not] at hrb); (try subst hrb); (try (exfalso; omega))))) | (refine kLd 0 rfl rfl (by first | exact T2 | exact T3 | exact T4 | exact T9 | exact T22 | exact T25 | exact T27 | exact T31 | exact T34 | exact T41 | exact T42 | exact T44 | exact T47 | exact T52 | exact T53 | exact T75 | exact T97 | exact T99 | exact T101 | exact T106 | exact T107 | exact T109 | exact T112 | exact T116 | exact T118 | exact T120 | exact T137 | exact T146) rfl ?_) | (refine kLdA 0 rfl rfl (by first | exact T2 | exact T3 | exact T4 | exact T9 | exact T22 | exact T25 | exact T27 | exact T31 | exact T34 | exact T41 | exact T42 | exact T44 | exact T47 | exact T52 | exact T53 | exact T75 | exact T97 | exact T99 | exact T101 | exact T106 | exact T107 | exact T109 | exact T112 | exact T116 | exact T118 | exact T120 | exact T137 | exact T146) (Nat.le_of_ble_eq_true rfl) (by simp only [List.drop_succ_cons, List.drop_zero, List.take_succ_cons, List.take_zero, List.set_cons_zero, List.set_cons_succ]; rfl) ?_))
    | ((with_reducible refine gSt ?_); (first | (refine eSt H rfl rfl ⟨.int _ _, rfl, ?_⟩) | (refine eSt H rfl rfl ⟨.bool _, rfl, ?_⟩) | (refine eSt H rfl rfl ⟨.slice _ _ _, rfl, ?_⟩) | (refine eSt H rfl rfl ⟨.pointer _, rfl, ?_⟩) | (refine eSt H rfl rfl ⟨.string _, rfl, ?_⟩) | (refine eSt H rfl rfl ⟨.agg (List.toArray _), rfl, ?_⟩)); (first | (refine kSt 0 rfl rfl (by first | exact T2 | exact T3 | exact T4 | exact T9 | exact T22 | exact T25 | exact T27 | exact T31 | exact T34 | exact T41 | exact T42 | exact T44 | exact T47 | exact T52 | exact T53 | exact T75 | exact T97 | exact T99 | exact T101 | exact T106 | exact T107 | exact T109 | exact T112 | exact T116 | exact T118 | exact T120 | exact T137 | exact T146) rfl (Nat.le_of_ble_eq_true rfl) ?_) | (refine kStA 0 rfl rfl (by first | exact T2 | exact T3 | exact T4 | exact T9 | exact T22 | exact T25 | exact T27 | exact T31 | exact T34 | exact T41 | exact T42 | exact T44 | exact T47 | exact T52 | exact T53 | exact T75 | exact T97 | exact T99 | exact T101 | exact T106 | exact T107 | exact T109 | exact T112 | exact T116 | exact T118 | exact T120 | exact T137 | exact T146) rfl rfl (Nat.le_of_ble_eq_true rfl) ?_)); clear H; intro w1 H; simp only [List.set_cons_zero, List.set_cons_succ] at H; (try simp only [lay, List.take_zero, List.nil_append, List.length_cons, List.length_nil, Nat.zero_add, Nat.reduceAdd, List.drop_succ_cons, List.drop_zero, List.drop_nil, List.append_nil, List.take_succ_cons, List.cons_append] at H))
    | ((with_reducible refine gBx ?_); refine bxA H rfl rfl rfl ?_; clear H; intro b1 w1 H)
    | ((with_reducible refine gBs ?_); (first | (refine bs1 H rfl (by first | exact S22) rfl (Nat.le_of_ble_eq_true rfl) (Nat.le_of_ble_eq_true rfl) rfl ?_) | (refine wl_buildSlice0 rfl (by first | exact S22) H ?_)); clear H; intro b1 w1 H)
    | ((with_reducible refine gEq ?_); (first | (refine wl_cmp rfl rfl rfl rfl ?_) | (refine wl_scmp rfl rfl rfl rfl ?_)); intro rb hrb; cases rb <;> (first | (exfalso; simp at hrb; done) | ((try simp only [decide_eq_true_eq, decide_eq_false_iff_not, beq_iff_eq, beq_eq_false_iff_ne, ne_eq, bne_iff_ne, bne_eq_false_iff_eq, Bool.not_eq_true', Bool.not_eq_false', gt_iff_lt, ge_iff_le, Int.not_lt, Int.not_le, Decidable.not_not] at hrb); (try subst hrb); (try (exfalso; omega)))))
    | ((with_reducible refine gAl ?_); (first | (refine al H Z27 rfl rfl ?_)); clear H; intro b1 w1 H)
    | ((with_reducible refine gRg ?_); refine wp_region_text rfl (by decide +kernel) ?_; replace H := H.drew)
    | ((with_reducible refine EndQ.intro ?_ ?_); (· kernel_rfl)))
        go_roundg (gk - 1)
        case measure => omega
        case rel => exact ⟨j + 1, by go_num, by have := HJG.out; omega, H⟩
      · have ej : j = n := by omega
        subst ej
        clear hjg hj
        have HK := HX
        cases hv : tget t k with
        | some u =>
          have HV := Lib.hid hv
          obtain ⟨rk, hrk0⟩ : ∃ rk, trank t k = rk := ⟨_, rfl⟩
          have HRK := Lib.hid hrk0
          have ho := ranks_some hsr hv
          rw [hrk0] at ho
          have HOF := Lib.hid ho
          have HOC := Lib.hid ho
          have hrk : rk ≤ 1000000 := by rw [← hrk0]; exact Nat.le_trans (by rw [trank_eq _ _ hsr]; exact Nat.le_trans (rank_le _ _) (Nat.le_of_eq (T.list_length t))) hts
          have C1 : Hid (ocmpB .leq k k = some true) := Lib.hid (by show some (!lt k k) = _; rw [irr]; rfl)
          have C2 : Hid (ocmpB .geq k k = some true) := Lib.hid (by show some (!lt k k) = _; rw [irr]; rfl)
          have C3 : Hid (ocmpB .eql k k = some true) := Lib.hid (by show some (!other k k) = _; unfold other; rw [irr]; rfl)
          clear hv hrk0 ho
          go_wp2_with (first
    | (go_at_call 32; ((with_reducible refine (Get_spec H (td_cons HT.out) HV.out).mono ?_); rintro e w1 ⟨rfl, H1⟩; clear H; have H := H1; clear H1; (try simp only [keyO_some, valO_some, Option.isSome_some, Option.isSome_none])))
    | (go_at_call 31; ((with_reducible refine (Ceil_S H (td_cons HT.out) HRK.out hts HOC.out).mono ?_); rintro e w1 ⟨rfl, H1⟩; clear H; have H := H1; clear H1; (try simp only [keyO_some, valO_some, Option.isSome_some, Option.isSome_none])))
    | (go_at_call 30; ((with_reducible refine (FloorY_S H (td_cons HT.out) HV.out HRK.out hrk hts HOF.out).mono ?_); rintro e w1 ⟨rfl, H1⟩; clear H; have H := H1; clear H1; (try simp only [keyO_some, valO_some, Option.isSome_some, Option.isSome_none])))
    | ((with_reducible refine gEq ?_); refine wl_ocmp rfl rfl (by first | exact C1.out | exact C2.out | exact C3.out) rfl ?_)
    | (go_at_call 13; ((with_reducible refine (live_spec H).mono ?_); rintro e w1 ⟨rfl, H1⟩; clear H; have H := H1; clear H1))
    | ((with_reducible refine gLd ?_); refine eLd H rfl rfl ?_; first | (refine kLdB 0 rfl rfl (by first | exact T2 | exact T3 | exact T4 | exact T9 | exact T22 | exact T25 | exact T27 | exact T31 | exact T34 | exact T41 | exact T42 | exact T44 | exact T47 | exact T52 | exact T53 | exact T75 | exact T97 | exact T99 | exact T101 | exact T106 | exact T107 | exact T109 | exact T112 | exact T116 | exact T118 | exact T120 | exact T137 | exact T146) rfl ?_; intro rb hrb; cases rb <;> (first | (exfalso; simp at hrb; done) | ((try simp only [decide_eq_true_eq, decide_eq_false_iff_not, beq_iff_eq, beq_eq_false_iff_ne, ne_eq, bne_iff_ne, bne_eq_false_iff_eq, Bool.not_eq_true', Bool.not_eq_false', gt_iff_lt, ge_iff_le, Int.not_lt, Int.not_le, Decidable.not_not] at hrb); (try subst hrb); (try (exfalso; omega))))) | (refine kLd 0 rfl rfl (by first | exact T2 | exact T3 | exact T4 | exact T9 | exact T22 | exact T25 | exact T27 | exact T31 | exact T34 | exact T41 | exact T42 | exact T44 | exact T47 | exact T52 | exact T53 | exact T75 | exact T97 | exact T99 | exact T101 | exact T106 | exact T107 | exact T109 | exact T112 | exact T116 | exact T118 | exact T120 | exact T137 | exact T146) rfl ?_) | (refine kLdA 0 rfl rfl (by first | exact T2 | exact T3 | exact T4 | exact T9 | exact T22 | exact T25 | exact T27 | exact T31 | exact T34 | exact T41 | exact T42 | exact T44 | exact T47 | exact T52 | exact T53 | exact T75 | exact T97 | exact T99 | exact T101 | exact T106 | exact T107 | exact T109 | exact T112 | exact T116 | exact T118 | exact T120 | exact T137 | exact T146) (Nat.le_of_ble_eq_true rfl) (by simp only [List.drop_succ_cons, List.drop_zero, List.take_succ_cons, List.take_zero, List.set_cons_zero, List.set_cons_succ]; rfl) ?_))
    | ((with_reducible refine gSt ?_); (first | (refine eSt H rfl rfl ⟨.int _ _, rfl, ?_⟩) | (refine eSt H rfl rfl ⟨.bool _, rfl, ?_⟩) | (refine eSt H rfl rfl ⟨.slice _ _ _, rfl, ?_⟩) | (refine eSt H rfl rfl ⟨.pointer _, rfl, ?_⟩) | (refine eSt H rfl rfl ⟨.string _, rfl, ?_⟩) | (refine eSt H rfl rfl ⟨.agg (List.toArray _), rfl, ?_⟩)); (first | (refine kSt 0 rfl rfl (by first | exact T2 | exact T3 | exact T4 | exact T9 | exact T22 | exact T25 | exact T27 | exact T31 | exact T34 | exact T41 | exact T42 | exact T44 | exact T47 | exact T52 | exact T53 | exact T75 | exact T97 | exact T99 | exact T101 | exact T106 | exact T107 | exact T109 | exact T112 | exact T116 | exact T118 | exact T120 | exact T137 | exact T146) rfl (Nat.le_of_ble_eq_true rfl) ?_) | (refine kStA 0 rfl rfl (by first | exact T2 | exact T3 | exact T4 | exact T9 | exact T22 | exact T25 | exact T27 | exact T31 | exact T34 | exact T41 | exact T42 | exact T44 | exact T47 | exact T52 | exact T53 | exact T75 | exact T97 | exact T99 | exact T101 | exact T106 | exact T107 | exact T109 | exact T112 | exact T116 | exact T118 | exact T120 | exact T137 | exact T146) rfl rfl (Nat.le_of_ble_eq_true rfl) ?_)); clear H; intro w1 H; simp only [List.set_cons_zero, List.set_cons_succ] at H; (try simp only [lay, List.take_zero, List.nil_append, List.length_cons, List.length_nil, Nat.zero_add, Nat.reduceAdd, List.drop_succ_cons, List.drop_zero, List.drop_nil, List.append_nil, List.take_succ_cons, List.cons_append] at H))
    | ((with_reducible refine gBx ?_); refine bxA H rfl rfl rfl ?_; clear H; intro b1 w1 H)
    | ((with_reducible refine gBs ?_); (first | (refine bs1 H rfl (by first | exact S22) rfl (Nat.le_of_ble_eq_true rfl) (Nat.le_of_ble_eq_true rfl) rfl ?_) | (refine wl_buildSlice0 rfl (by first | exact S22) H ?_)); clear H; intro b1 w1 H)
    | ((with_reducible refine gEq ?_); (first | (refine wl_cmp rfl rfl rfl rfl ?_) | (refine wl_scmp rfl rfl rfl rfl ?_)); intro rb hrb; cases rb <;> (first | (exfalso; simp at hrb; done) | ((try simp only [decide_eq_true_eq, decide_eq_false_iff_not, beq_iff_eq, beq_eq_false_iff_ne, ne_eq, bne_iff_ne, bne_eq_false_iff_eq, Bool.not_eq_true', Bool.not_eq_false', gt_iff_lt, ge_iff_le, Int.not_lt, Int.not_le, Decidable.not_not] at hrb); (try subst hrb); (try (exfalso; omega)))))
    | ((with_reducible refine gAl ?_); (first | (refine al H Z27 rfl rfl ?_)); clear H; intro b1 w1 H)
    | ((with_reducible refine gRg ?_); refine wp_region_text rfl (by decide +kernel) ?_; replace H := H.drew)
    | ((with_reducible refine EndQ.intro ?_ ?_); (· kernel_rfl)))
          all_goals (go_ret; exact ⟨rfl, _, H⟩)
        | none =>
          have HV := Lib.hid hv
          obtain ⟨rk, hrk0⟩ : ∃ rk, trank t k = rk := ⟨_, rfl⟩
          have HRK := Lib.hid hrk0
          have ho := ranks_none hsr hv
          rw [hrk0] at ho
          obtain ⟨o1, ho1⟩ : ∃ o1, atT t ((rk : Int) - 1) = o1 := ⟨_, rfl⟩
          obtain ⟨o2, ho2⟩ : ∃ o2, atT t (rk : Int) = o2 := ⟨_, rfl⟩
          have HOF := Lib.hid ho1
          have HOC := Lib.hid ho2
          rw [ho1, ho2] at ho
          have hrk : rk ≤ 1000000 := by rw [← hrk0]; exact Nat.le_trans (by rw [trank_eq _ _ hsr]; exact Nat.le_trans (rank_le _ _) (Nat.le_of_eq (T.list_length t))) hts
          clear hv hrk0 ho1 ho2
          cases o1 with
          | none =>
            cases o2 with
            | none =>
              clear ho
              go_wp2_with (first
    | (go_at_call 32; ((with_reducible refine (Get_spec H (td_cons HT.out) HV.out).mono ?_); rintro e w1 ⟨rfl, H1⟩; clear H; have H := H1; clear H1; (try simp only [keyO_some, valO_some, Option.isSome_some, Option.isSome_none])))
    | (go_at_call 31; ((with_reducible refine (Ceil_N H (td_cons HT.out) HRK.out hts HOC.out).mono ?_); rintro e w1 ⟨rfl, H1⟩; clear H; have H := H1; clear H1; (try simp only [keyO_some, valO_some, Option.isSome_some, Option.isSome_none])))
    | (go_at_call 30; ((with_reducible refine (FloorN_N H (td_cons HT.out) HV.out HRK.out hrk hts HOF.out).mono ?_); rintro e w1 ⟨rfl, H1⟩; clear H; have H := H1; clear H1; (try simp only [keyO_some, valO_some, Option.isSome_some, Option.isSome_none])))
    | (go_at_call 13; ((with_reducible refine (live_spec H).mono ?_); rintro e w1 ⟨rfl, H1⟩; clear H; have H := H1; clear H1))
    | ((with_reducible refine gLd ?_); refine eLd H rfl rfl ?_; first | (refine kLdB 0 rfl rfl (by first | exact T2 | exact T3 | exact T4 | exact T9 | exact T22 | exact T25 | exact T27 | exact T31 | exact T34 | exact T41 | exact T42 | exact T44 | exact T47 | exact T52 | exact T53 | exact T75 | exact T97 | exact T99 | exact T101 | exact T106 | exact T107 | exact T109 | exact T112 | exact T116 | exact T118 | exact T120 | exact T137 | exact T146) rfl ?_; intro rb hrb; cases rb <;> (first | (exfalso; simp at hrb; done) | ((try simp only [decide_eq_true_eq, decide_eq_false_iff_not, beq_iff_eq, beq_eq_false_iff_ne, ne_eq, bne_iff_ne, bne_eq_false_iff_eq, Bool.not_eq_true', Bool.not_eq_false', gt_iff_lt, ge_iff_le, Int.not_lt, Int.not_le, Decidable.not_not] at hrb); (try subst hrb); (try (exfalso; omega))))) | (refine kLd 0 rfl rfl (by first | exact T2 | exact T3 | exact T4 | exact T9 | exact T22 | exact T25 | exact T27 | exact T31 | exact T34 | exact T41 | exact T42 | exact T44 | exact T47 | exact T52 | exact T53 | exact T75 | exact T97 | exact T99 | exact T101 | exact T106 | exact T107 | exact T109 | exact T112 | exact T116 | exact T118 | exact T120 | exact T137 | exact T146) rfl ?_) | (refine kLdA 0 rfl rfl (by first | exact T2 | exact T3 | exact T4 | exact T9 | exact T22 | exact T25 | exact T27 | exact T31 | exact T34 | exact T41 | exact T42 | exact T44 | exact T47 | exact T52 | exact T53 | exact T75 | exact T97 | exact T99 | exact T101 | exact T106 | exact T107 | exact T109 | exact T112 | exact T116 | exact T118 | exact T120 | exact T137 | exact T146) (Nat.le_of_ble_eq_true rfl) (by simp only [List.drop_succ_cons, List.drop_zero, List.take_succ_cons, List.take_zero, List.set_cons_zero, List.set_cons_succ]; rfl) ?_))
    | ((with_reducible refine gSt ?_); (first | (refine eSt H rfl rfl ⟨.int _ _, rfl, ?_⟩) | (refine eSt H rfl rfl ⟨.bool _, rfl, ?_⟩) | (refine eSt H rfl rfl ⟨.slice _ _ _, rfl, ?_⟩) | (refine eSt H rfl rfl ⟨.pointer _, rfl, ?_⟩) | (refine eSt H rfl rfl ⟨.string _, rfl, ?_⟩) | (refine eSt H rfl rfl ⟨.agg (List.toArray _), rfl, ?_⟩)); (first | (refine kSt 0 rfl rfl (by first | exact T2 | exact T3 | exact T4 | exact T9 | exact T22 | exact T25 | exact T27 | exact T31 | exact T34 | exact T41 | exact T42 | exact T44 | exact T47 | exact T52 | exact T53 | exact T75 | exact T97 | exact T99 | exact T101 | exact T106 | exact T107 | exact T109 | exact T112 | exact T116 | exact T118 | exact T120 | exact T137 | exact T146) rfl (Nat.le_of_ble_eq_true rfl) ?_) | (refine kStA 0 rfl rfl (by first | exact T2 | exact T3 | exact T4 | exact T9 | exact T22 | exact T25 | exact T27 | exact T31 | exact T34 | exact T41 | exact T42 | exact T44 | exact T47 | exact T52 | exact T53 | exact T75 | exact T97 | exact T99 | exact T101 | exact T106 | exact T107 | exact T109 | exact T112 | exact T116 | exact T118 | exact T120 | exact T137 | exact T146) rfl rfl (Nat.le_of_ble_eq_true rfl) ?_)); clear H; intro w1 H; simp only [List.set_cons_zero, List.set_cons_succ] at H; (try simp only [lay, List.take_zero, List.nil_append, List.length_cons, List.length_nil, Nat.zero_add, Nat.reduceAdd, List.drop_succ_cons, List.drop_zero, List.drop_nil, List.append_nil, List.take_succ_cons, List.cons_append] at H))
    | ((with_reducible refine gBx ?_); refine bxA H rfl rfl rfl ?_; clear H; intro b1 w1 H)
    | ((with_reducible refine gBs ?_); (first | (refine bs1 H rfl (by first | exact S22) rfl (Nat.le_of_ble_eq_true rfl) (Nat.le_of_ble_eq_true rfl) rfl ?_) | (refine wl_buildSlice0 rfl (by first | exact S22) H ?_)); clear H; intro b1 w1 H)
    | ((with_reducible refine gEq ?_); (first | (refine wl_cmp rfl rfl rfl rfl ?_) | (refine wl_scmp rfl rfl rfl rfl ?_)); intro rb hrb; cases rb <;> (first | (exfalso; simp at hrb; done) | ((try simp only [decide_eq_true_eq, decide_eq_false_iff_not, beq_iff_eq, beq_eq_false_iff_ne, ne_eq, bne_iff_ne, bne_eq_false_iff_eq, Bool.not_eq_true', Bool.not_eq_false', gt_iff_lt, ge_iff_le, Int.not_lt, Int.not_le, Decidable.not_not] at hrb); (try subst hrb); (try (exfalso; omega)))))
    | ((with_reducible refine gAl ?_); (first | (refine al H Z27 rfl rfl ?_)); clear H; intro b1 w1 H)
    | ((with_reducible refine gRg ?_); refine wp_region_text rfl (by decide +kernel) ?_; replace H := H.drew)
    | ((with_reducible refine EndQ.intro ?_ ?_); (· kernel_rfl)))
              all_goals (go_ret; exact ⟨rfl, _, H⟩)
            | some y2 =>
              obtain ⟨k2, v2⟩ := y2
              have h2 : lt k k2 = true := ho.2 _ rfl
              have C2 : Hid (ocmpB .geq k2 k = some true) := Lib.hid (by show some (!lt k2 k) = _; rw [lt_asymm h2]; rfl)
              have C4 : Hid (ocmpB .eql k2 k = some false) := Lib.hid (by show some (!other k2 k) = _; unfold other; rw [h2]; simp)
              clear ho h2
              go_wp2_with (first
    | (go_at_call 32; ((with_reducible refine (Get_spec H (td_cons HT.out) HV.out).mono ?_); rintro e w1 ⟨rfl, H1⟩; clear H; have H := H1; clear H1; (try simp only [keyO_some, valO_some, Option.isSome_some, Option.isSome_none])))
    | (go_at_call 31; ((with_reducible refine (Ceil_S H (td_cons HT.out) HRK.out hts HOC.out).mono ?_); rintro e w1 ⟨rfl, H1⟩; clear H; have H := H1; clear H1; (try simp only [keyO_some, valO_some, Option.isSome_some, Option.isSome_none])))
    | (go_at_call 30; ((with_reducible refine (FloorN_N H (td_cons HT.out) HV.out HRK.out hrk hts HOF.out).mono ?_); rintro e w1 ⟨rfl, H1⟩; clear H; have H := H1; clear H1; (try simp only [keyO_some, valO_some, Option.isSome_some, Option.isSome_none])))
    | ((with_reducible refine gEq ?_); refine wl_ocmp rfl rfl (by first | exact C2.out | exact C4.out) rfl ?_)
    | (go_at_call 13; ((with_reducible refine (live_spec H).mono ?_); rintro e w1 ⟨rfl, H1⟩; clear H; have H := H1; clear H1))
    | ((with_reducible refine gLd ?_); refine eLd H rfl rfl ?_; first | (refine kLdB 0 rfl rfl (by first | exact T2 | exact T3 | exact T4 | exact T9 | exact T22 | exact T25 | exact T27 | exact T31 | exact T34 | exact T41 | exact T42 | exact T44 | exact T47 | exact T52 | exact T53 | exact T75 | exact T97 | exact T99 | exact T101 | exact T106 | exact T107 | exact T109 | exact T112 | exact T116 | exact T118 | exact T120 | exact T137 | exact T146) rfl ?_; intro rb hrb; cases rb <;> (first | (exfalso; simp at hrb; done) | ((try simp only [decide_eq_true_eq, decide_eq_false_iff_not, beq_iff_eq, beq_eq_false_iff_ne, ne_eq, bne_iff_ne, bne_eq_false_iff_eq, Bool.not_eq_true', Bool.not_eq_false', gt_iff_lt, ge_iff_le, Int.not_lt, Int.not_le, Decidable.not_not] at hrb); (try subst hrb); (try (exfalso; omega))))) | (refine kLd 0 rfl rfl (by first | exact T2 | exact T3 | exact T4 | exact T9 | exact T22 | exact T25 | exact T27 | exact T31 | exact T34 | exact T41 | exact T42 | exact T44 | exact T47 | exact T52 | exact T53 | exact T75 | exact T97 | exact T99 | exact T101 | exact T106 | exact T107 | exact T109 | exact T112 | exact T116 | exact T118 | exact T120 | exact T137 | exact T146) rfl ?_) | (refine kLdA 0 rfl rfl (by first | exact T2 | exact T3 | exact T4 | exact T9 | exact T22 | exact T25 | exact T27 | exact T31 | exact T34 | exact T41 | exact T42 | exact T44 | exact T47 | exact T52 | exact T53 | exact T75 | exact T97 | exact T99 | exact T101 | exact T106 | exact T107 | exact T109 | exact T112 | exact T116 | exact T118 | exact T120 | exact T137 | exact T146) (Nat.le_of_ble_eq_true rfl) (by simp only [List.drop_succ_cons, List.drop_zero, List.take_succ_cons, List.take_zero, List.set_cons_zero, List.set_cons_succ]; rfl) ?_))
    | ((with_reducible refine gSt ?_); (first | (refine eSt H rfl rfl ⟨.int _ _, rfl, ?_⟩) | (refine eSt H rfl rfl ⟨.bool _, rfl, ?_⟩) | (refine eSt H rfl rfl ⟨.slice _ _ _, rfl, ?_⟩) | (refine eSt H rfl rfl ⟨.pointer _, rfl, ?_⟩) | (refine eSt H rfl rfl ⟨.string _, rfl, ?_⟩) | (refine eSt H rfl rfl ⟨.agg (List.toArray _), rfl, ?_⟩)); (first | (refine kSt 0 rfl rfl (by first | exact T2 | exact T3 | exact T4 | exact T9 | exact T22 | exact T25 | exact T27 | exact T31 | exact T34 | exact T41 | exact T42 | exact T44 | exact T47 | exact T52 | exact T53 | exact T75 | exact T97 | exact T99 | exact T101 | exact T106 | exact T107 | exact T109 | exact T112 | exact T116 | exact T118 | exact T120 | exact T137 | exact T146) rfl (Nat.le_of_ble_eq_true rfl) ?_) | (refine kStA 0 rfl rfl (by first | exact T2 | exact T3 | exact T4 | exact T9 | exact T22 | exact T25 | exact T27 | exact T31 | exact T34 | exact T41 | exact T42 | exact T44 | exact T47 | exact T52 | exact T53 | exact T75 | exact T97 | exact T99 | exact T101 | exact T106 | exact T107 | exact T109 | exact T112 | exact T116 | exact T118 | exact T120 | exact T137 | exact T146) rfl rfl (Nat.le_of_ble_eq_true rfl) ?_)); clear H; intro w1 H; simp only [List.set_cons_zero, List.set_cons_succ] at H; (try simp only [lay, List.take_zero, List.nil_append, List.length_cons, List.length_nil, Nat.zero_add, Nat.reduceAdd, List.drop_succ_cons, List.drop_zero, List.drop_nil, List.append_nil, List.take_succ_cons, List.cons_append] at H))
    | ((with_reducible refine gBx ?_); refine bxA H rfl rfl rfl ?_; clear H; intro b1 w1 H)
    | ((with_reducible refine gBs ?_); (first | (refine bs1 H rfl (by first | exact S22) rfl (Nat.le_of_ble_eq_true rfl) (Nat.le_of_ble_eq_true rfl) rfl ?_) | (refine wl_buildSlice0 rfl (by first | exact S22) H ?_)); clear H; intro b1 w1 H)
    | ((with_reducible refine gEq ?_); (first | (refine wl_cmp rfl rfl rfl rfl ?_) | (refine wl_scmp rfl rfl rfl rfl ?_)); intro rb hrb; cases rb <;> (first | (exfalso; simp at hrb; done) | ((try simp only [decide_eq_true_eq, decide_eq_false_iff_not, beq_iff_eq, beq_eq_false_iff_ne, ne_eq, bne_iff_ne, bne_eq_false_iff_eq, Bool.not_eq_true', Bool.not_eq_false', gt_iff_lt, ge_iff_le, Int.not_lt, Int.not_le, Decidable.not_not] at hrb); (try subst hrb); (try (exfalso; omega)))))
    | ((with_reducible refine gAl ?_); (first | (refine al H Z27 rfl rfl ?_)); clear H; intro b1 w1 H)
    | ((with_reducible refine gRg ?_); refine wp_region_text rfl (by decide +kernel) ?_; replace H := H.drew)
    | ((with_reducible refine EndQ.intro ?_ ?_); (· kernel_rfl)))
              all_goals (go_ret; exact ⟨rfl, _, H⟩)
          | some y1 =>
            obtain ⟨k1, v1⟩ := y1
            have h1 : lt k1 k = true := ho.1 _ rfl
            have C1 : Hid (ocmpB .leq k1 k = some true) := Lib.hid (by show some (!lt k k1) = _; rw [lt_asymm h1]; rfl)
            have C3 : Hid (ocmpB .eql k1 k = some false) := Lib.hid (by show some (!other k1 k) = _; unfold other; rw [h1]; simp)
            cases o2 with
            | none =>
              clear ho h1
              go_wp2_with (first
    | (go_at_call 32; ((with_reducible refine (Get_spec H (td_cons HT.out) HV.out).mono ?_); rintro e w1 ⟨rfl, H1⟩; clear H; have H := H1; clear H1; (try simp only [keyO_some, valO_some, Option.isSome_some, Option.isSome_none])))
    | (go_at_call 31; ((with_reducible refine (Ceil_N H (td_cons HT.out) HRK.out hts HOC.out).mono ?_); rintro e w1 ⟨rfl, H1⟩; clear H; have H := H1; clear H1; (try simp only [keyO_some, valO_some, Option.isSome_some, Option.isSome_none])))
    | (go_at_call 30; ((with_reducible refine (FloorN_S H (td_cons HT.out) HV.out HRK.out hrk hts HOF.out).mono ?_); rintro e w1 ⟨rfl, H1⟩; clear H; have H := H1; clear H1; (try simp only [keyO_some, valO_some, Option.isSome_some, Option.isSome_none])))
    | ((with_reducible refine gEq ?_); refine wl_ocmp rfl rfl (by first | exact C1.out | exact C3.out) rfl ?_)
    | (go_at_call 13; ((with_reducible refine (live_spec H).mono ?_); rintro e w1 ⟨rfl, H1⟩; clear H; have H := H1; clear H1))
    | ((with_reducible refine gLd ?_); refine eLd H rfl rfl ?_; first | (refine kLdB 0 rfl rfl (by first | exact T2 | exact T3 | exact T4 | exact T9 | exact T22 | exact T25 | exact T27 | exact T31 | exact T34 | exact T41 | exact T42 | exact T44 | exact T47 | exact T52 | exact T53 | exact T75 | exact T97 | exact T99 | exact T101 | exact T106 | exact T107 | exact T109 | exact T112 | exact T116 | exact T118 | exact T120 | exact T137 | exact T146) rfl ?_; intro rb hrb; cases rb <;> (first | (exfalso; simp at hrb; done) | ((try simp only [decide_eq_true_eq, decide_eq_false_iff_not, beq_iff_eq, beq_eq_false_iff_ne, ne_eq, bne_iff_ne, bne_eq_false_iff_eq, Bool.not_eq_true', Bool.not_eq_false', gt_iff_lt, ge_iff_le, Int.not_lt, Int.not_le, Decidable.not_not] at hrb); (try subst hrb); (try (exfalso; omega))))) | (refine kLd 0 rfl rfl (by first | exact T2 | exact T3 | exact T4 | exact T9 | exact T22 | exact T25 | exact T27 | exact T31 | exact T34 | exact T41 | exact T42 | exact T44 | exact T47 | exact T52 | exact T53 | exact T75 | exact T97 | exact T99 | exact T101 | exact T106 | exact T107 | exact T109 | exact T112 | exact T116 | exact T118 | exact T120 | exact T137 | exact T146) rfl ?_) | (refine kLdA 0 rfl rfl (by first | exact T2 | exact T3 | exact T4 | exact T9 | exact T22 | exact T25 | exact T27 | exact T31 | exact T34 | exact T41 | exact T42 | exact T44 | exact T47 | exact T52 | exact T53 | exact T75 | exact T97 | exact T99 | exact T101 | exact T106 | exact T107 | exact T109 | exact T112 | exact T116 | exact T118 | exact T120 | exact T137 | exact T146) (Nat.le_of_ble_eq_true rfl) (by simp only [List.drop_succ_cons, List.drop_zero, List.take_succ_cons, List.take_zero, List.set_cons_zero, List.set_cons_succ]; rfl) ?_))
    | ((with_reducible refine gSt ?_); (first | (refine eSt H rfl rfl ⟨.int _ _, rfl, ?_⟩) | (refine eSt H rfl rfl ⟨.bool _, rfl, ?_⟩) | (refine eSt H rfl rfl ⟨.slice _ _ _, rfl, ?_⟩) | (refine eSt H rfl rfl ⟨.pointer _, rfl, ?_⟩) | (refine eSt H rfl rfl ⟨.string _, rfl, ?_⟩) | (refine eSt H rfl rfl ⟨.agg (List.toArray _), rfl, ?_⟩)); (first | (refine kSt 0 rfl rfl (by first | exact T2 | exact T3 | exact T4 | exact T9 | exact T22 | exact T25 | exact T27 | exact T31 | exact T34 | exact T41 | exact T42 | exact T44 | exact T47 | exact T52 | exact T53 | exact T75 | exact T97 | exact T99 | exact T101 | exact T106 | exact T107 | exact T109 | exact T112 | exact T116 | exact T118 | exact T120 | exact T137 | exact T146) rfl (Nat.le_of_ble_eq_true rfl) ?_) | (refine kStA 0 rfl rfl (by first | exact T2 | exact T3 | exact T4 | exact T9 | exact T22 | exact T25 | exact T27 | exact T31 | exact T34 | exact T41 | exact T42 | exact T44 | exact T47 | exact T52 | exact T53 | exact T75 | exact T97 | exact T99 | exact T101 | exact T106 | exact T107 | exact T109 | exact T112 | exact T116 | exact T118 | exact T120 | exact T137 | exact T146) rfl rfl (Nat.le_of_ble_eq_true rfl) ?_)); clear H; intro w1 H; simp only [List.set_cons_zero, List.set_cons_succ] at H; (try simp only [lay, List.take_zero, List.nil_append, List.length_cons, List.length_nil, Nat.zero_add, Nat.reduceAdd, List.drop_succ_cons, List.drop_zero, List.drop_nil, List.append_nil, List.take_succ_cons, List.cons_append] at H))
    | ((with_reducible refine gBx ?_); refine bxA H rfl rfl rfl ?_; clear H; intro b1 w1 H)
    | ((with_reducible refine gBs ?_); (first | (refine bs1 H rfl (by first | exact S22) rfl (Nat.le_of_ble_eq_true rfl) (Nat.le_of_ble_eq_true rfl) rfl ?_) | (refine wl_buildSlice0 rfl (by first | exact S22) H ?_)); clear H; intro b1 w1 H)
    | ((with_reducible refine gEq ?_); (first | (refine wl_cmp rfl rfl rfl rfl ?_) | (refine wl_scmp rfl rfl rfl rfl ?_)); intro rb hrb; cases rb <;> (first | (exfalso; simp at hrb; done) | ((try simp only [decide_eq_true_eq, decide_eq_false_iff_not, beq_iff_eq, beq_eq_false_iff_ne, ne_eq, bne_iff_ne, bne_eq_false_iff_eq, Bool.not_eq_true', Bool.not_eq_false', gt_iff_lt, ge_iff_le, Int.not_lt, Int.not_le, Decidable.not_not] at hrb); (try subst hrb); (try (exfalso; omega)))))
    | ((with_reducible refine gAl ?_); (first | (refine al H Z27 rfl rfl ?_)); clear H; intro b1 w1 H)
    | ((with_reducible refine gRg ?_); refine wp_region_text rfl (by decide +kernel) ?_; replace H := H.drew)
    | ((with_reducible refine EndQ.intro ?_ ?_); (· kernel_rfl)))
              all_goals (go_ret; exact ⟨rfl, _, H⟩)
            | some y2 =>
              obtain ⟨k2, v2⟩ := y2
              have h2 : lt k k2 = true := ho.2 _ rfl
              have C2 : Hid (ocmpB .geq k2 k = some true) := Lib.hid (by show some (!lt k2 k) = _; rw [lt_asymm h2]; rfl)
              have C4 : Hid (ocmpB .eql k2 k = some false) := Lib.hid (by show some (!other k2 k) = _; unfold other; rw [h2]; simp)
              clear ho h1 h2
              go_wp2_with (first
    | (go_at_call 32; ((with_reducible refine (Get_spec H (td_cons HT.out) HV.out).mono ?_); rintro e w1 ⟨rfl, H1⟩; clear H; have H := H1; clear H1; (try simp only [keyO_some, valO_some, Option.isSome_some, Option.isSome_none])))
    | (go_at_call 31; ((with_reducible refine (Ceil_S H (td_cons HT.out) HRK.out hts HOC.out).mono ?_); rintro e w1 ⟨rfl, H1⟩; clear H; have H := H1; clear H1; (try simp only [keyO_some, valO_some, Option.isSome_some, Option.isSome_none])))
    | (go_at_call 30; ((with_reducible refine (FloorN_S H (td_cons HT.out) HV.out HRK.out hrk hts HOF.out).mono ?_); rintro e w1 ⟨rfl, H1⟩; clear H; have H := H1; clear H1; (try simp only [keyO_some, valO_some, Option.isSome_some, Option.isSome_none])))
    | ((with_reducible refine gEq ?_); refine wl_ocmp rfl rfl (by first | exact C1.out | exact C2.out | exact C3.out | exact C4.out) rfl ?_)
    | (go_at_call 13; ((with_reducible refine (live_spec H).mono ?_); rintro e w1 ⟨rfl, H1⟩; clear H; have H := H1; clear H1))
    | ((with_reducible refine gLd ?_); refine eLd H rfl rfl ?_; first | (refine kLdB 0 rfl rfl (by first | exact T2 | exact T3 | exact T4 | exact T9 | exact T22 | exact T25 | exact T27 | exact T31 | exact T34 | exact T41 | exact T42 | exact T44 | exact T47 | exact T52 | exact T53 | exact T75 | exact T97 | exact T99 | exact T101 | exact T106 | exact T107 | exact T109 | exact T112 | exact T116 | exact T118 | exact T120 | exact T137 | exact T146) rfl ?_; intro rb hrb; cases rb <;> (first | (exfalso; simp at hrb; done) | ((try simp only [decide_eq_true_eq, decide_eq_false_iff_not, beq_iff_eq, beq_eq_false_iff_ne, ne_eq, bne_iff_ne, bne_eq_false_iff_eq, Bool.not_eq_true', Bool.not_eq_false', gt_iff_lt, ge_iff_le, Int.not_lt, Int.not_le, Decidable.not_not] at hrb); (try subst hrb); (try (exfalso; omega))))) | (refine kLd 0 rfl rfl (by first | exact T2 | exact T3 | exact T4 | exact T9 | exact T22 | exact T25 | exact T27 | exact T31 | exact T34 | exact T41 | exact T42 | exact T44 | exact T47 | exact T52 | exact T53 | exact T75 | exact T97 | exact T99 | exact T101 | exact T106 | exact T107 | exact T109 | exact T112 | exact T116 | exact T118 | exact T120 | exact T137 | exact T146) rfl ?_) | (refine kLdA 0 rfl rfl (by first | exact T2 | exact T3 | exact T4 | exact T9 | exact T22 | exact T25 | exact T27 | exact T31 | exact T34 | exact T41 | exact T42 | exact T44 | exact T47 | exact T52 | exact T53 | exact T75 | exact T97 | exact T99 | exact T101 | exact T106 | exact T107 | exact T109 | exact T112 | exact T116 | exact T118 | exact T120 | exact T137 | exact T146) (Nat.le_of_ble_eq_true rfl) (by simp only [List.drop_succ_cons, List.drop_zero, List.take_succ_cons, List.take_zero, List.set_cons_zero, List.set_cons_succ]; rfl) ?_))
    | ((with_reducible refine gSt ?_); (first | (refine eSt H rfl rfl ⟨.int _ _, rfl, ?_⟩) | (refine eSt H rfl rfl ⟨.bool _, rfl, ?_⟩) | (refine eSt H rfl rfl ⟨.slice _ _ _, rfl, ?_⟩) | (refine eSt H rfl rfl ⟨.pointer _, rfl, ?_⟩) | (refine eSt H rfl rfl ⟨.string _, rfl, ?_⟩) | (refine eSt H rfl rfl ⟨.agg (List.toArray _), rfl, ?_⟩)); (first | (refine kSt 0 rfl rfl (by first | exact T2 | exact T3 | exact T4 | exact T9 | exact T22 | exact T25 | exact T27 | exact T31 | exact T34 | exact T41 | exact T42 | exact T44 | exact T47 | exact T52 | exact T53 | exact T75 | exact T97 | exact T99 | exact T101 | exact T106 | exact T107 | exact T109 | exact T112 | exact T116 | exact T118 | exact T120 | exact T137 | exact T146) rfl (Nat.le_of_ble_eq_true rfl) ?_) | (refine kStA 0 rfl rfl (by first | exact T2 | exact T3 | exact T4 | exact T9 | exact T22 | exact T25 | exact T27 | exact T31 | exact T34 | exact T41 | exact T42 | exact T44 | exact T47 | exact T52 | exact T53 | exact T75 | exact T97 | exact T99 | exact T101 | exact T106 | exact T107 | exact T109 | exact T112 | exact T116 | exact T118 | exact T120 | exact T137 | exact T146) rfl rfl (Nat.le_of_ble_eq_true rfl) ?_)); clear H; intro w1 H; simp only [List.set_cons_zero, List.set_cons_succ] at H; (try simp only [lay, List.take_zero, List.nil_append, List.length_cons, List.length_nil, Nat.zero_add, Nat.reduceAdd, List.drop_succ_cons, List.drop_zero, List.drop_nil, List.append_nil, List.take_succ_cons, List.cons_append] at H))
    | ((with_reducible refine gBx ?_); refine bxA H rfl rfl rfl ?_; clear H; intro b1 w1 H)
    | ((with_reducible refine gBs ?_); (first | (refine bs1 H rfl (by first | exact S22) rfl (Nat.le_of_ble_eq_true rfl) (Nat.le_of_ble_eq_true rfl) rfl ?_) | (refine wl_buildSlice0 rfl (by first | exact S22) H ?_)); clear H; intro b1 w1 H)
    | ((with_reducible refine gEq ?_); (first | (refine wl_cmp rfl rfl rfl rfl ?_) | (refine wl_scmp rfl rfl rfl rfl ?_)); intro rb hrb; cases rb <;> (first | (exfalso; simp at hrb; done) | ((try simp only [decide_eq_true_eq, decide_eq_false_iff_not, beq_iff_eq, beq_eq_false_iff_ne, ne_eq, bne_iff_ne, bne_eq_false_iff_eq, Bool.not_eq_true', Bool.not_eq_false', gt_iff_lt, ge_iff_le, Int.not_lt, Int.not_le, Decidable.not_not] at hrb); (try subst hrb); (try (exfalso; omega)))))
    | ((with_reducible refine gAl ?_); (first | (refine al H Z27 rfl rfl ?_)); clear H; intro b1 w1 H)
    | ((with_reducible refine gRg ?_); refine wp_region_text rfl (by decide +kernel) ?_; replace H := H.drew)
    | ((with_reducible refine EndQ.intro ?_ ?_); (· kernel_rfl)))
              all_goals (go_ret; exact ⟨rfl, _, H⟩)
  · go_ret
    exact ⟨rfl, _, H⟩
end Go.Proofs.Ytgnmjeajmnmobaa
