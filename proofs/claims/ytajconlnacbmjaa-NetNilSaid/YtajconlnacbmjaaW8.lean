import Derived.Test.YtajconlnacbmjaaW7
import Derived.WalkKit
import Derived.Lib.Hide
import Derived.WalkSpells
set_option linter.unusedVariables false
set_option linter.unusedSimpArgs false
namespace Go.Proofs.Ytajconlnacbmjaa
open Go.RowKit Go.Gx Go.Gx.Net
set_option maxRecDepth 100000

theorem Send_at {w0 w : World} {D : Nat → Prop} {R : List Ent} {p : Nat} {af ah : Option Nat} {cf ch : Nat} {s : St} (H : Hp w0 D (eN 63 p af ah cf ch (s) :: eR af cf (s).fl :: eR ah ch (s).hd :: R) w) {a b : Int} {t : ByteArray} {s' : St} {x y : Int} (h : s.send a b t = (s', x, y)) :
    Calls Try.prog 11 #[.pointer (some ⟨p, 0, none⟩), .int .i64 a, .int .i64 b, .string t] w fun e w' => ∃ af' cf' ah' ch', e = .returned (.tuple #[.int .i64 x, .int .i64 y]) ∧ Hp w0 D (eN 63 p af' ah' cf' ch' (s') :: eR af' cf' (s').fl :: eR ah' ch' (s').hd :: R) w' := by
  have := Send_spec H a b t
  rw [h] at this
  exact this
theorem Deliver_at {w0 w : World} {D : Nat → Prop} {R : List Ent} {p : Nat} {af ah : Option Nat} {cf ch : Nat} {s : St} (H : Hp w0 D (eN 63 p af ah cf ch (s) :: eR af cf (s).fl :: eR ah ch (s).hd :: R) w) {i : Int} (hl : s.fl.length ≤ 100000) (hok : s.ok) {s' : St} {q : Pk} {y : Int} (h : s.deliver i = (s', q, y)) :
    Calls Try.prog 13 #[.pointer (some ⟨p, 0, none⟩), .int .i64 i] w fun e w' => e = .returned (.tuple #[.agg q.cells.toArray, .int .i64 y]) ∧ Hp w0 D (eN 63 p af ah cf ch (s') :: eR af cf (s').fl :: eR ah ch (s').hd :: R) w' := by
  have := Deliver_spec H i hl hok
  rw [h] at this
  exact this
def ta : ByteArray := ⟨#[97]⟩
def tb : ByteArray := ⟨#[98]⟩
def tc : ByteArray := ⟨#[99]⟩
def L1 : St := St.zero.sendOk 0 1 ta
def L2 : St := L1.sendOk 0 1 tb
def L3 : St := (L2.deliver 1).1
theorem inc0 : inc 0 = 1 := by decide +kernel
theorem inc1 : inc 1 = 2 := by decide +kernel
theorem L1l : L1.last = 1 := inc0
theorem live1 : St.zero.send 0 1 ⟨#[97]⟩ = (L1, 1, 0) := by
  rw [send_ok rfl (by decide) (by decide) (by decide)]
  exact congrArg (fun z => (L1, z, (0 : Int))) inc0
theorem live2 : L1.send 0 1 ⟨#[98]⟩ = (L2, 2, 0) := by
  rw [send_ok rfl (by decide) (by simp [L1, St.sendOk, St.fly, St.zero]) (by simp [L1, St.sendOk, St.fly, St.zero])]
  exact congrArg (fun z => (L2, z, (0 : Int))) (by rw [L1l]; exact inc1)
theorem L2fl : L2.fl = [⟨1, 0, 1, ta, 0⟩, ⟨2, 0, 1, tb, 0⟩] := by
  have : L2.fl = L1.fl ++ [⟨inc L1.last, 0, 1, tb, 0⟩] := rfl
  rw [this, L1l, inc1]
  have : L1.fl = [⟨inc 0, 0, 1, ta, 0⟩] := rfl
  rw [this, inc0]; rfl
theorem live3 : L2.deliver 1 = (L3, ⟨2, 0, 1, ⟨#[98]⟩, 0⟩, 0) := by
  have hr : L2.ready 1 = 0 := by
    have hc : L2.cut = fun _ => false := rfl
    simp [St.ready, placeB, St.pk, L2fl, hc]
  have hp : L2.pk 1 = ⟨2, 0, 1, tb, 0⟩ := by simp [St.pk, L2fl]
  unfold L3
  simp only [St.deliver, hr, hp]
  rfl
theorem live4 : L3.send 0 0 ⟨#[99]⟩ = (L3, 0, 150) := send_no1 rfl
theorem L3fl : L3.fl.length = 1 := by
  have : L3.fl = L2.fl.eraseIdx 1 := by
    unfold L3 St.deliver
    split <;> rename_i h
    · exfalso; apply h
      have hc : L2.cut = fun _ => false := rfl
      simp [St.ready, placeB, St.pk, L2fl, hc]
    · rfl
  rw [this, L2fl]; rfl
theorem L2ok : L2.ok := by
  intro p hp
  rw [L2fl] at hp
  simp only [List.mem_cons, List.not_mem_nil, or_false] at hp
  rcases hp with rfl | rfl <;> exact ⟨by decide, by decide, by decide⟩
theorem L2len : L2.fl.length ≤ 100000 := by rw [L2fl]; decide
set_option maxHeartbeats 4000000 in
theorem live_core {w0 w : World} {D : Nat → Prop} {R : List Ent}  (H : Hp w0 D (R) w) (s1 s2 s3 : St) (h1 : Hid (St.zero.send 0 1 ⟨#[97]⟩ = (s1, 1, 0))) (h2 : Hid (s1.send 0 1 ⟨#[98]⟩ = (s2, 2, 0))) (h3 : Hid (s2.deliver 1 = (s3, ⟨2, 0, 1, ⟨#[98]⟩, 0⟩, 0))) (h4 : Hid (s3.send 0 0 ⟨#[99]⟩ = (s3, 0, 150))) (hfl : Hid (s3.fl.length = 1)) (hok : Hid s2.ok) (hlen : s2.fl.length ≤ 100000) :
    Calls Try.prog 9 #[] w fun e w' => e = .returned (.bool true) ∧ Hp w0 D R w' := by
  try simp only [Pk.cells, netC, Pk.zero]
  go_enter Try.func9, Try.ntmps9
  go_wp2_with (first
    | (go_at_call 10; refine (New_spec H).mono ?_; rintro e w1 ⟨p, rfl, H1⟩; clear H; have H := H1; clear H1)
    | (go_at_call 11; first | ((with_reducible refine (Send_at H h1.out).mono ?_); rintro e w1 ⟨af1, cf1, ah1, ch1, rfl, H1⟩; clear H; have H := H1; clear H1) | ((with_reducible refine (Send_at H h2.out).mono ?_); rintro e w1 ⟨af1, cf1, ah1, ch1, rfl, H1⟩; clear H; have H := H1; clear H1) | (have H2 := H.swap (A := [_]) (B := [_, _, _]); simp only [List.cons_append, List.nil_append] at H2; (with_reducible refine (Send_at H2 h4.out).mono ?_); clear H2; rintro e w1 ⟨af1, cf1, ah1, ch1, rfl, H1⟩; clear H; have H := H1.swap (A := [_, _, _]) (B := [_]); clear H1; simp only [List.cons_append, List.nil_append] at H))
    | (go_at_call 13; (with_reducible refine (Deliver_at H hlen hok.out h3.out).mono ?_); rintro e w1 ⟨rfl, H1⟩; clear H; have H := H1; clear H1; simp only [Pk.cells])
    | (go_at_call 17; have H2 := H.swap (A := [_]) (B := [_, _, _]); simp only [List.cons_append, List.nil_append] at H2; (with_reducible refine (Flying_spec H2 (by rw [hfl.out]; decide)).mono ?_); clear H2; rintro e w1 ⟨a1, c1, rfl, H1⟩; clear H; have H := H1; clear H1; rw [hfl.out])
    | (go_at_call 12; (with_reducible refine (num_spec H _).mono ?_); rintro e w1 ⟨rfl, H1⟩; clear H; have H := H1; clear H1)
    | ((with_reducible refine gLd ?_); refine eLd H rfl rfl ?_; first | (refine kLdB 0 rfl rfl (by first | exact T3 | exact T4 | exact T9 | exact T30 | exact T27 | exact T51 | exact T35 | exact T29 | exact T63 | exact T49) rfl ?_; intro rb hrb; cases rb <;> (first | (exfalso; simp at hrb; done) | ((try simp only [decide_eq_true_eq, decide_eq_false_iff_not, beq_iff_eq, beq_eq_false_iff_ne, ne_eq, bne_iff_ne, bne_eq_false_iff_eq, Bool.not_eq_true', Bool.not_eq_false', gt_iff_lt, ge_iff_le, Int.not_lt, Int.not_le, Decidable.not_not] at hrb); (try subst hrb); (try (exfalso; omega))))) | (refine kLdB 1 rfl rfl (by first | exact T3 | exact T4 | exact T9 | exact T30 | exact T27 | exact T51 | exact T35 | exact T29 | exact T63 | exact T49) rfl ?_; intro rb hrb; cases rb <;> (first | (exfalso; simp at hrb; done) | ((try simp only [decide_eq_true_eq, decide_eq_false_iff_not, beq_iff_eq, beq_eq_false_iff_ne, ne_eq, bne_iff_ne, bne_eq_false_iff_eq, Bool.not_eq_true', Bool.not_eq_false', gt_iff_lt, ge_iff_le, Int.not_lt, Int.not_le, Decidable.not_not] at hrb); (try subst hrb); (try (exfalso; omega))))) | (refine kLd 0 rfl rfl (by first | exact T3 | exact T4 | exact T9 | exact T30 | exact T27 | exact T51 | exact T35 | exact T29 | exact T63 | exact T49) rfl ?_) | (refine kLd 1 rfl rfl (by first | exact T3 | exact T4 | exact T9 | exact T30 | exact T27 | exact T51 | exact T35 | exact T29 | exact T63 | exact T49) rfl ?_) | (refine kLdA 0 rfl rfl (by first | exact T3 | exact T4 | exact T9 | exact T30 | exact T27 | exact T51 | exact T35 | exact T29 | exact T63 | exact T49) (Nat.le_of_ble_eq_true rfl) (by simp only [Pk.cells, netC, Pk.zero, List.drop_succ_cons, List.drop_zero, List.take_succ_cons, List.take_zero, List.set_cons_zero, List.set_cons_succ]; rfl) ?_) | (refine kLdA 1 rfl rfl (by first | exact T3 | exact T4 | exact T9 | exact T30 | exact T27 | exact T51 | exact T35 | exact T29 | exact T63 | exact T49) (Nat.le_of_ble_eq_true rfl) (by simp only [Pk.cells, netC, Pk.zero, List.drop_succ_cons, List.drop_zero, List.take_succ_cons, List.take_zero, List.set_cons_zero, List.set_cons_succ]; rfl) ?_))
    | ((with_reducible refine gSt ?_); (first | (refine eSt H rfl rfl ⟨.int _ _, rfl, ?_⟩) | (refine eSt H rfl rfl ⟨.bool _, rfl, ?_⟩) | (refine eSt H rfl rfl ⟨.slice _ _ _, rfl, ?_⟩) | (refine eSt H rfl rfl ⟨.pointer _, rfl, ?_⟩) | (refine eSt H rfl rfl ⟨.string _, rfl, ?_⟩) | (refine eSt H rfl rfl ⟨.agg (List.toArray _), rfl, ?_⟩)); (first | (refine kSt 0 rfl rfl (by first | exact T3 | exact T4 | exact T9 | exact T30 | exact T27 | exact T51 | exact T35 | exact T29 | exact T63 | exact T49) rfl (Nat.le_of_ble_eq_true rfl) ?_) | (refine kSt 1 rfl rfl (by first | exact T3 | exact T4 | exact T9 | exact T30 | exact T27 | exact T51 | exact T35 | exact T29 | exact T63 | exact T49) rfl (Nat.le_of_ble_eq_true rfl) ?_) | (refine kStA 0 rfl rfl (by first | exact T3 | exact T4 | exact T9 | exact T30 | exact T27 | exact T51 | exact T35 | exact T29 | exact T63 | exact T49) rfl rfl (Nat.le_of_ble_eq_true rfl) ?_) | (refine kStA 1 rfl rfl (by first | exact T3 | exact T4 | exact T9 | exact T30 | exact T27 | exact T51 | exact T35 | exact T29 | exact T63 | exact T49) rfl rfl (Nat.le_of_ble_eq_true rfl) ?_)); clear H; intro w1 H; simp only [List.set_cons_zero, List.set_cons_succ] at H; (try simp only [lay, List.take_zero, List.nil_append, List.length_cons, List.length_nil, Nat.zero_add, Nat.reduceAdd, List.drop_succ_cons, List.drop_zero, List.drop_nil, List.append_nil, List.take_succ_cons, List.cons_append] at H))
    | ((with_reducible refine gBx ?_); refine bxA H rfl rfl rfl ?_; clear H; intro b1 w1 H)
    | ((with_reducible refine gBs ?_); (first | (refine bs1 H rfl (by first | exact S27 | exact S51) rfl (Nat.le_of_ble_eq_true rfl) (Nat.le_of_ble_eq_true rfl) rfl ?_) | (refine wl_buildSlice0 rfl (by first | exact S27 | exact S51) H ?_)); clear H; intro b1 w1 H)
    | ((with_reducible refine gEq ?_); (first | (refine wl_cmp rfl rfl rfl rfl ?_) | (refine wl_scmp rfl rfl rfl rfl ?_)); intro rb hrb; cases rb <;> (first | (exfalso; simp at hrb; done) | ((try simp only [decide_eq_true_eq, decide_eq_false_iff_not, beq_iff_eq, beq_eq_false_iff_ne, ne_eq, bne_iff_ne, bne_eq_false_iff_eq, Bool.not_eq_true', Bool.not_eq_false', gt_iff_lt, ge_iff_le, Int.not_lt, Int.not_le, Decidable.not_not] at hrb); (try subst hrb); (try (exfalso; omega)))))
    | ((with_reducible refine gEq ?_); (first | (refine wl_eqAgg G35 (eq35 9998 ⟨_, _, _, _, _⟩ ⟨_, _, _, _, _⟩) rfl rfl rfl ?_) | (refine wl_neAgg G35 (eq35 9998 ⟨_, _, _, _, _⟩ ⟨_, _, _, _, _⟩) rfl rfl rfl ?_)); intro rb hrb; cases rb <;> (try simp only [Bool.not_true, Bool.not_false]))
    | ((with_reducible refine gAl ?_); (first | (refine al H Z35 rfl rfl ?_) | (refine al H Z29 rfl rfl ?_)); clear H; intro b1 w1 H)
    | ((with_reducible refine gRg ?_); refine wp_region_text rfl (by decide +kernel) ?_; replace H := H.drew)
    | ((with_reducible refine EndQ.intro ?_ ?_); (· kernel_rfl)))
  all_goals first | (exfalso; rw [Pk.beq_iff.2 rfl] at hrb; cases hrb; done) | (go_ret; exact ⟨rfl, H.dropL (A := [_, _, _, _, _])⟩)
theorem live_spec {w0 w : World} {D : Nat → Prop} {R : List Ent} (H : Hp w0 D R w) : Calls Try.prog 9 #[] w fun e w' => e = .returned (.bool true) ∧ Hp w0 D R w' :=
  live_core H L1 L2 L3 (Lib.hid live1) (Lib.hid live2) (Lib.hid live3) (Lib.hid live4) (Lib.hid L3fl) (Lib.hid L2ok) L2len
end Go.Proofs.Ytajconlnacbmjaa
