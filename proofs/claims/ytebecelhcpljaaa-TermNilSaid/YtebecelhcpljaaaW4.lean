/- What functions of layer 5 compute. -/
import Derived.Test.YtebecelhcpljaaaW2
import Derived.WalkKit
import Derived.Lib.Hide
import Derived.Deep.LoopGhost
import Derived.WalkSpells
set_option linter.unusedVariables false
set_option linter.unusedSimpArgs false
namespace Go.Proofs.Ytebecelhcpljaaa
open Go.RowKit Go.Gx Go.Gx.Trm
set_option maxRecDepth 100000
theorem nm_neg {k : Int} (h : nm k = false) : (!nm k) = true := by rw [h]; rfl
set_option maxHeartbeats 8000000 in
theorem fields_at {w0 w : World} {D : Nat → Prop} {R : List Ent}  (H : Hp w0 D (R) w) {f t u x : Bool} {kd : Int} (n : Nd) {er : Int} (he : (if (f && !nm n.frm) || (t && (!nm n.dst || n.dst == n.frm)) then (50 : Int) else if 64 < n.text.size then 1 else 0) = er) :
    Calls Try.prog 77 #[.agg (List.toArray [.bool f, .bool t, .bool u, .bool x, .int .i64 kd]), .agg n.cells.toArray] w fun e w' => e = .returned (.int .i64 er) ∧ Hp w0 D (R) w' := by
  obtain ⟨k, fr, ds, nu, tx, na, nb⟩ := n
  obtain ⟨p, hp⟩ : ∃ r, nm fr = r := ⟨_, rfl⟩
  obtain ⟨q, hq⟩ : ∃ r, nm ds = r := ⟨_, rfl⟩
  simp only [hp, hq] at he
  have hA := Lib.hid hp
  have hB := Lib.hid hq
  have HER := Lib.hid he
  simp only [Nd.cells]
  clear hp hq he
  cases p <;> cases q
  all_goals go_enter Try.func77, Try.ntmps77
  all_goals go_wp2_with (first
    | (go_at_call 85; ((with_reducible refine (isName_spec H _).mono ?_); rintro e w1 ⟨rfl, H1⟩; clear H; have H := H1; clear H1; first | rw [hA.out] | rw [hB.out]))
    | ((with_reducible refine gLd ?_); refine eLd H rfl rfl ?_; first | (refine kLdB 0 rfl rfl (by exact TT _ rfl) rfl ?_; intro rb hrb; cases rb <;> (first | (exfalso; simp at hrb; done) | ((try simp only [CS1, gt_iff_lt, ge_iff_le, ne_eq, Decidable.not_not] at hrb); (try subst hrb); (try (exfalso; omega))))) | (refine kLdB 1 rfl rfl (by exact TT _ rfl) rfl ?_; intro rb hrb; cases rb <;> (first | (exfalso; simp at hrb; done) | ((try simp only [CS1, gt_iff_lt, ge_iff_le, ne_eq, Decidable.not_not] at hrb); (try subst hrb); (try (exfalso; omega))))) | (refine kLdB 2 rfl rfl (by exact TT _ rfl) rfl ?_; intro rb hrb; cases rb <;> (first | (exfalso; simp at hrb; done) | ((try simp only [CS1, gt_iff_lt, ge_iff_le, ne_eq, Decidable.not_not] at hrb); (try subst hrb); (try (exfalso; omega))))) | ((repeat ((with_reducible refine gEx ?_); first | (refine kLd 0 rfl rfl (by exact TT _ rfl) rfl ?_) | (refine kLdA 0 rfl rfl (by exact TT _ rfl) (Nat.le_of_ble_eq_true rfl) (by simp only [Nd.cells, Nd.zero, eP, eE, LS2]; rfl) ?_) | (refine nxL ?_))); fail_if_success (with_reducible refine gEx ?_)))
    | ((with_reducible refine gSt ?_); (first | (refine eSt H rfl rfl ⟨.int _ _, rfl, ?_⟩) | (refine eSt H rfl rfl ⟨.bool _, rfl, ?_⟩) | (refine eSt H rfl rfl ⟨.slice _ _ _, rfl, ?_⟩) | (refine eSt H rfl rfl ⟨.pointer _, rfl, ?_⟩) | (refine eSt H rfl rfl ⟨.string _, rfl, ?_⟩) | (refine eSt H rfl rfl ⟨.agg (List.toArray _), rfl, ?_⟩)); (first | ((repeat ((with_reducible refine gES ?_); first | (refine kSt 0 rfl rfl (by exact TT _ rfl) rfl (Nat.le_of_ble_eq_true rfl) ?_) | (refine kStA 0 rfl rfl (by exact TT _ rfl) rfl rfl (Nat.le_of_ble_eq_true rfl) ?_) | (refine nxS ?_))); fail_if_success (with_reducible refine gES ?_))); clear H; intro w1 H; simp only [List.set_cons_zero, List.set_cons_succ] at H; (try simp only [lay, LS1, Nat.reduceAdd] at H))
    | ((with_reducible refine gBx ?_); refine bxA H rfl rfl rfl ?_; clear H; intro b1 w1 H)
    | ((with_reducible refine gBs ?_); (first | (refine bs1 H rfl (by exact SS _ rfl) rfl (Nat.le_of_ble_eq_true rfl) (Nat.le_of_ble_eq_true rfl) rfl ?_) | (refine wl_buildSlice0 rfl (by exact SS _ rfl) H ?_)); clear H; intro b1 w1 H)
    | ((with_reducible refine gEq ?_); (first | (refine wl_cmp rfl rfl rfl rfl ?_) | (refine wl_scmp rfl rfl rfl rfl ?_)); intro rb hrb; cases rb <;> (first | (exfalso; simp at hrb; done) | ((try simp only [CS1, gt_iff_lt, ge_iff_le, ne_eq, Decidable.not_not] at hrb); (try subst hrb); (try (exfalso; omega)))))
    | ((with_reducible refine gAl ?_); (first | (refine al H Z33 rfl rfl ?_) | (refine al H Z110 rfl rfl ?_) | (refine al H Z122 rfl rfl ?_)); clear H; intro b1 w1 H)
    | ((with_reducible refine gRg ?_); refine wp_region_text rfl (by decide +kernel) ?_; replace H := H.drew)
    | ((with_reducible refine EndQ.intro ?_ ?_); (· kernel_rfl)))
  all_goals (have e9 := HER.out; simp [*] at e9; (try rw [if_pos (by omega)] at e9); (try rw [if_neg (by omega)] at e9); subst e9; go_ret; exact ⟨rfl, H.drop.drop⟩)
end Go.Proofs.Ytebecelhcpljaaa
