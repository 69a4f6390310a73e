/- What functions of layer 4 compute. -/
import Derived.Test.YtgnmjeajmnmobaaW1
import Derived.Test.YtgnmjeajmnmobaaGxRd
import Derived.WalkKit
import Derived.Lib.Hide
import Derived.Deep.LoopGhost
import Derived.WalkSpells
set_option linter.unusedVariables false
set_option linter.unusedSimpArgs false
namespace Go.Proofs.Ytgnmjeajmnmobaa
open Go.RowKit Go.Gx Go.Gx.Kp
set_option maxRecDepth 100000
/-- a tree is told, its nodes among what is kept -/
def TPost (w0 : World) (D : Nat → Prop) (M Z : List Ent) (t : T ByteArray Int) (e : Ending) (w' : World) : Prop :=
  ∃ (p : Option Nat) (Z' : List Ent), e = .returned (ptr p) ∧ Xt Z Z' ∧ Td hS w0 D Z' t p ∧ Hp w0 D (M ++ Z') w'
set_option maxHeartbeats 4000000 in
theorem Join_spec {w0 w : World} {D : Nat → Prop} {M Z : List Ent} {k : ByteArray} {v : Int} {b a : T ByteArray Int} {pb pa : Option Nat} (H : Hp w0 D (M ++ Z) w) (hb : Td hS w0 D Z b pb) (ha : Td hS w0 D Z a pa) (hs : b.size + a.size ≤ 1000000) :
    Calls Try.prog 80 #[.string k, .int .i64 v, ptr pb, ptr pa] w fun e w' => TPost w0 D M Z (.node k v b a) e w' := by
  have HB := Lib.hid (hb.push M)
  have HA := Lib.hid (ha.push M)
  have h1 := depth_size b
  have h2 := depth_size a
  obtain ⟨nb, hnb⟩ : ∃ n, b.size = n := ⟨_, rfl⟩
  obtain ⟨na, hna⟩ : ∃ n, a.size = n := ⟨_, rfl⟩
  obtain ⟨db, hdb⟩ : ∃ n, b.depth = n := ⟨_, rfl⟩
  obtain ⟨da, hda⟩ : ∃ n, a.depth = n := ⟨_, rfl⟩
  have HNB := Lib.hid hnb
  have HNA := Lib.hid hna
  have HDB := Lib.hid hdb
  have HDA := Lib.hid hda
  have e1 : ((b.size + a.size + 1 : Nat) : Int) = (nb : Int) + na + 1 := by rw [HNB.out, HNA.out]; rfl
  have e2 : ((max b.depth a.depth + 1 : Nat) : Int) = (if db < da then (da : Int) else (db : Int)) + 1 := by rw [HDB.out, HDA.out]; split <;> omega
  have E1 := Lib.hid e1
  have E2 := Lib.hid e2
  clear e1 e2
  rw [hnb, hna] at hs
  rw [hnb, hdb] at h1
  rw [hna, hda] at h2
  clear hnb hna hdb hda
  go_enter Try.func80, Try.ntmps80
  go_wp2_with (first
    | (go_at_call 65; ((with_reducible refine (Size_spec (n := nb) H HB.out HNB.out).mono ?_); rintro e w1 ⟨rfl, H1⟩; clear H; have H := H1; clear H1))
    | (go_at_call 65; ((with_reducible refine (Size_spec (n := na) H HA.out HNA.out).mono ?_); rintro e w1 ⟨rfl, H1⟩; clear H; have H := H1; clear H1))
    | (go_at_call 81; ((with_reducible refine (Depth_spec (n := db) H HB.out HDB.out).mono ?_); rintro e w1 ⟨rfl, H1⟩; clear H; have H := H1; clear H1))
    | (go_at_call 81; ((with_reducible refine (Depth_spec (n := da) H HA.out HDA.out).mono ?_); rintro e w1 ⟨rfl, H1⟩; clear H; have H := H1; clear H1))
    | ((with_reducible refine gLd ?_); refine eLd H rfl rfl ?_; first | (refine kLdB 0 rfl rfl (by first | exact T2 | exact T3 | exact T4 | exact T9 | exact T22 | exact T25 | exact T27 | exact T31 | exact T34 | exact T41 | exact T42 | exact T44 | exact T47 | exact T52 | exact T53 | exact T75 | exact T97 | exact T99 | exact T101 | exact T106 | exact T107 | exact T109 | exact T112 | exact T116 | exact T118 | exact T120 | exact T137 | exact T146) rfl ?_; intro rb hrb; cases rb <;> (first | (exfalso; simp at hrb; done) | ((try simp only [decide_eq_true_eq, decide_eq_false_iff_not, beq_iff_eq, beq_eq_false_iff_ne, ne_eq, bne_iff_ne, bne_eq_false_iff_eq, Bool.not_eq_true', Bool.not_eq_false', gt_iff_lt, ge_iff_le, Int.not_lt, Int.not_le, Decidable.not_not] at hrb); (try subst hrb); (try (exfalso; omega))))) | (refine kLd 0 rfl rfl (by first | exact T2 | exact T3 | exact T4 | exact T9 | exact T22 | exact T25 | exact T27 | exact T31 | exact T34 | exact T41 | exact T42 | exact T44 | exact T47 | exact T52 | exact T53 | exact T75 | exact T97 | exact T99 | exact T101 | exact T106 | exact T107 | exact T109 | exact T112 | exact T116 | exact T118 | exact T120 | exact T137 | exact T146) rfl ?_) | (refine kLdA 0 rfl rfl (by first | exact T2 | exact T3 | exact T4 | exact T9 | exact T22 | exact T25 | exact T27 | exact T31 | exact T34 | exact T41 | exact T42 | exact T44 | exact T47 | exact T52 | exact T53 | exact T75 | exact T97 | exact T99 | exact T101 | exact T106 | exact T107 | exact T109 | exact T112 | exact T116 | exact T118 | exact T120 | exact T137 | exact T146) (Nat.le_of_ble_eq_true rfl) (by simp only [List.drop_succ_cons, List.drop_zero, List.take_succ_cons, List.take_zero, List.set_cons_zero, List.set_cons_succ]; rfl) ?_))
    | ((with_reducible refine gSt ?_); (first | (refine eSt H rfl rfl ⟨.int _ _, rfl, ?_⟩) | (refine eSt H rfl rfl ⟨.bool _, rfl, ?_⟩) | (refine eSt H rfl rfl ⟨.slice _ _ _, rfl, ?_⟩) | (refine eSt H rfl rfl ⟨.pointer _, rfl, ?_⟩) | (refine eSt H rfl rfl ⟨.string _, rfl, ?_⟩) | (refine eSt H rfl rfl ⟨.agg (List.toArray _), rfl, ?_⟩)); (first | (refine kSt 0 rfl rfl (by first | exact T2 | exact T3 | exact T4 | exact T9 | exact T22 | exact T25 | exact T27 | exact T31 | exact T34 | exact T41 | exact T42 | exact T44 | exact T47 | exact T52 | exact T53 | exact T75 | exact T97 | exact T99 | exact T101 | exact T106 | exact T107 | exact T109 | exact T112 | exact T116 | exact T118 | exact T120 | exact T137 | exact T146) rfl (Nat.le_of_ble_eq_true rfl) ?_) | (refine kStA 0 rfl rfl (by first | exact T2 | exact T3 | exact T4 | exact T9 | exact T22 | exact T25 | exact T27 | exact T31 | exact T34 | exact T41 | exact T42 | exact T44 | exact T47 | exact T52 | exact T53 | exact T75 | exact T97 | exact T99 | exact T101 | exact T106 | exact T107 | exact T109 | exact T112 | exact T116 | exact T118 | exact T120 | exact T137 | exact T146) rfl rfl (Nat.le_of_ble_eq_true rfl) ?_)); clear H; intro w1 H; simp only [List.set_cons_zero, List.set_cons_succ] at H; (try simp only [lay, List.take_zero, List.nil_append, List.length_cons, List.length_nil, Nat.zero_add, Nat.reduceAdd, List.drop_succ_cons, List.drop_zero, List.drop_nil, List.append_nil, List.take_succ_cons, List.cons_append] at H))
    | ((with_reducible refine gBx ?_); refine bxA H rfl rfl rfl ?_; clear H; intro b1 w1 H)
    | ((with_reducible refine gBs ?_); (first | (refine bs1 H rfl (by first | exact S0) rfl (Nat.le_of_ble_eq_true rfl) (Nat.le_of_ble_eq_true rfl) rfl ?_) | (refine wl_buildSlice0 rfl (by first | exact S0) H ?_)); clear H; intro b1 w1 H)
    | ((with_reducible refine gEq ?_); (first | (refine wl_cmp rfl rfl rfl rfl ?_) | (refine wl_scmp rfl rfl rfl rfl ?_)); intro rb hrb; cases rb <;> (first | (exfalso; simp at hrb; done) | ((try simp only [decide_eq_true_eq, decide_eq_false_iff_not, beq_iff_eq, beq_eq_false_iff_ne, ne_eq, bne_iff_ne, bne_eq_false_iff_eq, Bool.not_eq_true', Bool.not_eq_false', gt_iff_lt, ge_iff_le, Int.not_lt, Int.not_le, Decidable.not_not] at hrb); (try subst hrb); (try (exfalso; omega)))))
    | ((with_reducible refine gRg ?_); refine wp_region_text rfl (by decide +kernel) ?_; replace H := H.drew)
    | ((with_reducible refine EndQ.intro ?_ ?_); (· kernel_rfl)))
  all_goals
    go_ret
    have hr := RdW.ofEnt (Hp.dropL H.sink) (i := 0) rfl rfl
    exact ⟨_, _, rfl, Xt.cons _ _, ⟨_, pb, pa, rfl, by rw [E1.out, E2.out]; exact hr, hb.ext (Xt.cons _ _), ha.ext (Xt.cons _ _)⟩, H.sink⟩
end Go.Proofs.Ytgnmjeajmnmobaa
