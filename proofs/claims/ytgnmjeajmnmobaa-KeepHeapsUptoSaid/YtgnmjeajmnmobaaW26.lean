/- What functions of layer 4 compute. -/
import Derived.Test.YtgnmjeajmnmobaaW25
import Derived.WalkKit
import Derived.Lib.Hide
import Derived.Deep.LoopGhost
import Derived.WalkSpells
set_option linter.unusedVariables false
set_option linter.unusedSimpArgs false
namespace Go.Proofs.Ytgnmjeajmnmobaa
open Go.RowKit Go.Gx Go.Gx.Kp
set_option maxRecDepth 100000
section
variable {P : Program} {w0 w : World} {D : Nat → Prop} {L : List Ent} {a : Act}
theorem ret_ct {fn : Func} {R : Ending → World → Prop} {p p2 : Tmp} {ty : TypeId} {b o n : Nat} {x : Ent} {vs : List Value} {u2 : Value} (i : Nat) (H : Hp w0 D L w) (hres : fn.results = #[.cell p ty, .tmp p2]) (hd : a.defers = [])
    (hp : a.tmps.getD p undef = .pointer (some ⟨b, o, none⟩)) (h2 : a.tmps.getD p2 undef = u2) (hi : L[i]? = some x) (hb : x.a = some b) (ht : tI P ty = some (true, n)) (hle : o + n ≤ x.xs.length) (hv : (x.xs.drop o).take n = vs)
    (hR : R (.returned (.tuple #[.agg vs.toArray, u2])) w) : bodyPost P fn R .ret a w := by
  refine ⟨hd, .tuple #[.agg vs.toArray, u2], ?_, hR⟩
  have := H.load (o := o) (v := .agg vs.toArray) hi hb ht (by simp [pick, hle, hv])
  have hp' : a.tmps[p]?.getD undef = .pointer (some ⟨b, o, none⟩) := by simpa using hp
  have h2' : a.tmps[p2]?.getD undef = u2 := by simpa using h2
  simp [results, hres, hp', h2', asAddr, this]
end
theorem cellsH_thing {l : List HT} {x : HT} (h : l[0]? = some x) : pick true 2 (cellsH l) 0 = some (.agg (List.toArray [.int .i64 x.1, .int .i64 x.2.1])) := by
  cases l with
  | nil => simp at h
  | cons y l => simp at h; subst h; simp [cellsH, pick]
set_option maxHeartbeats 4000000 in
theorem Peek49_no {w0 w : World} {D : Nat → Prop} {R : List Ent} {p c k : Nat} (H : Hp w0 D (eHp 49 p none 0 c k :: R) w)  :
    Calls Try.prog 51 #[.pointer (some ⟨p, 0, none⟩)] w fun e w' => e = .returned (.tuple #[.agg (List.toArray [.int .i64 0, .int .i64 0]), .bool false]) ∧ Hp w0 D (eHp 49 p none 0 c k :: R) w' := by
  go_enter Try.func51, Try.ntmps51
  go_wp2_with (first
    | ((with_reducible refine gLd ?_); refine eLd H rfl rfl ?_; first | (refine kLd 0 rfl rfl (by first | exact T3 | exact T4 | exact T75 | exact T76 | exact T116 | exact T118 | exact T120) rfl ?_) | (refine kLd 1 rfl rfl (by first | exact T3 | exact T4 | exact T75 | exact T76 | exact T116 | exact T118 | exact T120) rfl ?_) | (refine kLdA 0 rfl rfl (by first | exact T3 | exact T4 | exact T75 | exact T76 | exact T116 | exact T118 | exact T120) (Nat.le_of_ble_eq_true rfl) (by simp only [List.drop_succ_cons, List.drop_zero, List.take_succ_cons, List.take_zero, List.set_cons_zero, List.set_cons_succ]; rfl) ?_) | (refine kLdA 1 rfl rfl (by first | exact T3 | exact T4 | exact T75 | exact T76 | exact T116 | exact T118 | exact T120) (Nat.le_of_ble_eq_true rfl) (by simp only [List.drop_succ_cons, List.drop_zero, List.take_succ_cons, List.take_zero, List.set_cons_zero, List.set_cons_succ]; rfl) ?_))
    | ((with_reducible refine gSt ?_); (first | (refine eSt H rfl rfl ⟨.int _ _, rfl, ?_⟩) | (refine eSt H rfl rfl ⟨.bool _, rfl, ?_⟩) | (refine eSt H rfl rfl ⟨.slice _ _ _, rfl, ?_⟩) | (refine eSt H rfl rfl ⟨.pointer _, rfl, ?_⟩) | (refine eSt H rfl rfl ⟨.string _, rfl, ?_⟩) | (refine eSt H rfl rfl ⟨.agg (List.toArray _), rfl, ?_⟩)); (first | (refine kSt 0 rfl rfl (by first | exact T3 | exact T4 | exact T75 | exact T76 | exact T116 | exact T118 | exact T120) rfl (Nat.le_of_ble_eq_true rfl) ?_) | (refine kSt 1 rfl rfl (by first | exact T3 | exact T4 | exact T75 | exact T76 | exact T116 | exact T118 | exact T120) rfl (Nat.le_of_ble_eq_true rfl) ?_) | (refine kStA 0 rfl rfl (by first | exact T3 | exact T4 | exact T75 | exact T76 | exact T116 | exact T118 | exact T120) rfl rfl (Nat.le_of_ble_eq_true rfl) ?_) | (refine kStA 1 rfl rfl (by first | exact T3 | exact T4 | exact T75 | exact T76 | exact T116 | exact T118 | exact T120) rfl rfl (Nat.le_of_ble_eq_true rfl) ?_)); clear H; intro w1 H; simp only [List.set_cons_zero, List.set_cons_succ] at H; (try simp only [lay, List.take_zero, List.nil_append, List.length_cons, List.length_nil, Nat.zero_add, Nat.reduceAdd, List.drop_succ_cons, List.drop_zero, List.drop_nil, List.append_nil, List.take_succ_cons, List.cons_append] at H))
    | ((with_reducible refine gBx ?_); refine bxA H rfl rfl rfl ?_; clear H; intro b1 w1 H)
    | ((with_reducible refine gBs ?_); (first | (refine bs1 H rfl (by first | exact S0) rfl (Nat.le_of_ble_eq_true rfl) (Nat.le_of_ble_eq_true rfl) rfl ?_) | (refine wl_buildSlice0 rfl (by first | exact S0) H ?_)); clear H; intro b1 w1 H)
    | ((with_reducible refine gEq ?_); (first | (refine wl_cmp rfl rfl rfl rfl ?_) | (refine wl_scmp rfl rfl rfl rfl ?_)); intro rb hrb; cases rb <;> (first | (exfalso; simp at hrb; done) | ((try simp only [decide_eq_true_eq, decide_eq_false_iff_not, beq_iff_eq, beq_eq_false_iff_ne, ne_eq, bne_iff_ne, bne_eq_false_iff_eq, Bool.not_eq_true', Bool.not_eq_false', gt_iff_lt, ge_iff_le, Int.not_lt, Int.not_le, Decidable.not_not] at hrb); (try subst hrb); (try (exfalso; omega)))))
    | ((with_reducible refine gAl ?_); (first | (refine al H Z75 rfl rfl ?_)); clear H; intro b1 w1 H)
    | ((with_reducible refine gRg ?_); refine wp_region_text rfl (by decide +kernel) ?_; replace H := H.drew)
    | ((with_reducible refine EndQ.intro ?_ ?_); (· kernel_rfl)))
  refine ret_ct 0 H rfl rfl rfl rfl rfl rfl T75 (Nat.le_of_ble_eq_true rfl) rfl ?_
  exact ⟨rfl, H.drop⟩
set_option maxHeartbeats 4000000 in
theorem Peek49_yes {w0 w : World} {D : Nat → Prop} {R : List Ent} {p a n c k : Nat} {l : List HT} {x1 x2 x3 : Int} (H : Hp w0 D (eHq 49 p a n c k :: eHl (some a) c l :: R) w) (hx : l[0]? = some (x1, x2, x3)) (hn : 0 < n) :
    Calls Try.prog 51 #[.pointer (some ⟨p, 0, none⟩)] w fun e w' => e = .returned (.tuple #[.agg (List.toArray [.int .i64 x1, .int .i64 x2]), .bool true]) ∧ Hp w0 D (eHq 49 p a n c k :: eHl (some a) c l :: R) w' := by
  have HP0 := Lib.hid (cellsH_thing hx)
  clear hx
  go_enter Try.func51, Try.ntmps51
  go_wp2_with (first
    | ((with_reducible refine gLd ?_); refine wl_loadR (k := 0) ((Rd.ent H (i := 2) rfl).cells [] _ H) rfl rfl (by first | rfl | omega) T75 HP0.out ?_)
    | ((with_reducible refine gLd ?_); refine eLd H rfl rfl ?_; first | (refine kLd 0 rfl rfl (by first | exact T3 | exact T4 | exact T75 | exact T76 | exact T116 | exact T118 | exact T120) rfl ?_) | (refine kLd 1 rfl rfl (by first | exact T3 | exact T4 | exact T75 | exact T76 | exact T116 | exact T118 | exact T120) rfl ?_) | (refine kLdA 0 rfl rfl (by first | exact T3 | exact T4 | exact T75 | exact T76 | exact T116 | exact T118 | exact T120) (Nat.le_of_ble_eq_true rfl) (by simp only [List.drop_succ_cons, List.drop_zero, List.take_succ_cons, List.take_zero, List.set_cons_zero, List.set_cons_succ]; rfl) ?_) | (refine kLdA 1 rfl rfl (by first | exact T3 | exact T4 | exact T75 | exact T76 | exact T116 | exact T118 | exact T120) (Nat.le_of_ble_eq_true rfl) (by simp only [List.drop_succ_cons, List.drop_zero, List.take_succ_cons, List.take_zero, List.set_cons_zero, List.set_cons_succ]; rfl) ?_))
    | ((with_reducible refine gSt ?_); (first | (refine eSt H rfl rfl ⟨.int _ _, rfl, ?_⟩) | (refine eSt H rfl rfl ⟨.bool _, rfl, ?_⟩) | (refine eSt H rfl rfl ⟨.slice _ _ _, rfl, ?_⟩) | (refine eSt H rfl rfl ⟨.pointer _, rfl, ?_⟩) | (refine eSt H rfl rfl ⟨.string _, rfl, ?_⟩) | (refine eSt H rfl rfl ⟨.agg (List.toArray _), rfl, ?_⟩)); (first | (refine kSt 0 rfl rfl (by first | exact T3 | exact T4 | exact T75 | exact T76 | exact T116 | exact T118 | exact T120) rfl (Nat.le_of_ble_eq_true rfl) ?_) | (refine kSt 1 rfl rfl (by first | exact T3 | exact T4 | exact T75 | exact T76 | exact T116 | exact T118 | exact T120) rfl (Nat.le_of_ble_eq_true rfl) ?_) | (refine kStA 0 rfl rfl (by first | exact T3 | exact T4 | exact T75 | exact T76 | exact T116 | exact T118 | exact T120) rfl rfl (Nat.le_of_ble_eq_true rfl) ?_) | (refine kStA 1 rfl rfl (by first | exact T3 | exact T4 | exact T75 | exact T76 | exact T116 | exact T118 | exact T120) rfl rfl (Nat.le_of_ble_eq_true rfl) ?_)); clear H; intro w1 H; simp only [List.set_cons_zero, List.set_cons_succ] at H; (try simp only [lay, List.take_zero, List.nil_append, List.length_cons, List.length_nil, Nat.zero_add, Nat.reduceAdd, List.drop_succ_cons, List.drop_zero, List.drop_nil, List.append_nil, List.take_succ_cons, List.cons_append] at H))
    | ((with_reducible refine gBx ?_); refine bxA H rfl rfl rfl ?_; clear H; intro b1 w1 H)
    | ((with_reducible refine gBs ?_); (first | (refine bs1 H rfl (by first | exact S0) rfl (Nat.le_of_ble_eq_true rfl) (Nat.le_of_ble_eq_true rfl) rfl ?_) | (refine wl_buildSlice0 rfl (by first | exact S0) H ?_)); clear H; intro b1 w1 H)
    | ((with_reducible refine gEq ?_); (first | (refine wl_cmp rfl rfl rfl rfl ?_) | (refine wl_scmp rfl rfl rfl rfl ?_)); intro rb hrb; cases rb <;> (first | (exfalso; simp at hrb; done) | ((try simp only [decide_eq_true_eq, decide_eq_false_iff_not, beq_iff_eq, beq_eq_false_iff_ne, ne_eq, bne_iff_ne, bne_eq_false_iff_eq, Bool.not_eq_true', Bool.not_eq_false', gt_iff_lt, ge_iff_le, Int.not_lt, Int.not_le, Decidable.not_not] at hrb); (try subst hrb); (try (exfalso; omega)))))
    | ((with_reducible refine gAl ?_); (first | (refine al H Z75 rfl rfl ?_)); clear H; intro b1 w1 H)
    | ((with_reducible refine gRg ?_); refine wp_region_text rfl (by decide +kernel) ?_; replace H := H.drew)
    | ((with_reducible refine EndQ.intro ?_ ?_); (· kernel_rfl)))
  refine ret_ct 0 H rfl rfl rfl rfl rfl rfl T75 (Nat.le_of_ble_eq_true rfl) rfl ?_
  exact ⟨rfl, H.drop⟩
end Go.Proofs.Ytgnmjeajmnmobaa
