/- What functions of layer 5 compute. -/
import Derived.Test.YtebecelhcpljaaaW2
import Derived.WalkKit
import Derived.Lib.Hide
import Derived.Deep.LoopGhost
import Derived.WalkSpells
set_option linter.unusedVariables false
set_option linter.unusedSimpArgs false
namespace Go.Proofs.Ytebecelhcpljaaa
open Go.RowKit Go.Gx Go.Gx.Trm
set_option maxRecDepth 100000
theorem ret_ct2 {P : Program} {w0 w : World} {D : Nat → Prop} {L : List Ent} {a : Act} {fn : Func} {R : Ending → World → Prop} {p p2 : Tmp} {ty : TypeId} {b o n : Nat} {x : Ent} {vs : List Value} {u2 : Value} (i : Nat) (H : Hp w0 D L w) (hres : fn.results = #[.cell p ty, .tmp p2]) (hd : a.defers = [])
    (hp : a.tmps.getD p undef = .pointer (some ⟨b, o, none⟩)) (h2 : a.tmps.getD p2 undef = u2) (hi : L[i]? = some x) (hb : x.a = some b) (ht : tI P ty = some (true, n)) (hle : o + n ≤ x.xs.length) (hv : (x.xs.drop o).take n = vs)
    (hR : R (.returned (.tuple #[.agg vs.toArray, u2])) w) : bodyPost P fn R .ret a w := ret_ct i H hres hd hp h2 hi hb ht hle hv hR
def plainE (n : Nd) : Int := if own n then 0 else 53
theorem plainE_t {n : Nd} (h : own n = true) : plainE n = 0 := by simp [plainE, h]
theorem plainE_f {n : Nd} (h : own n = false) : plainE n = 53 := by simp [plainE, h]
theorem sEq_not {s t : ByteArray} (h : ¬ s = t) : sEq s t = false := by cases h1 : sEq s t with | false => rfl | true => exact absurd (sEq_iff.1 h1) h
set_option maxHeartbeats 8000000 in
theorem plain_spec {w0 w : World} {D : Nat → Prop} {R : List Ent}  (H : Hp w0 D (R) w) (n : Nd) :
    Calls Try.prog 76 #[.agg n.cells.toArray] w fun e w' => e = .returned (.tuple #[.agg (shRow n.kind).toArray, .int .i64 (plainE n)]) ∧ Hp w0 D (R) w' := by
  obtain ⟨k, fr, ds, nu, tx, na, nb⟩ := n
  cases hk : kOk k with
  | false =>
    have e1 : plainE ⟨k, fr, ds, nu, tx, na, nb⟩ = 53 := plainE_f (by simp [own, hk])
    rw [e1]
    have hS := Lib.hid (shRow_no hk)
    have hK := Lib.hid hk
    simp only [shRow_no hk, Nd.cells]
    clear hk e1
    go_enter Try.func76, Try.ntmps76
    go_wp2_with (first
    | (go_at_call 80; ((with_reducible refine (shapeOf_spec H _).mono ?_); rintro e w1 ⟨rfl, H1⟩; clear H; have H := H1; clear H1; rw [hK.out, hS.out]))
    | ((with_reducible refine gLd ?_); refine eLd H rfl rfl ?_; first | (refine kLdB 0 rfl rfl (by exact TT _ rfl) rfl ?_; intro rb hrb; cases rb <;> (first | (exfalso; simp at hrb; done) | ((try simp only [CS1, gt_iff_lt, ge_iff_le, ne_eq, Decidable.not_not] at hrb); (try subst hrb); (try (exfalso; omega))))) | (refine kLdB 1 rfl rfl (by exact TT _ rfl) rfl ?_; intro rb hrb; cases rb <;> (first | (exfalso; simp at hrb; done) | ((try simp only [CS1, gt_iff_lt, ge_iff_le, ne_eq, Decidable.not_not] at hrb); (try subst hrb); (try (exfalso; omega))))) | (refine kLdB 2 rfl rfl (by exact TT _ rfl) rfl ?_; intro rb hrb; cases rb <;> (first | (exfalso; simp at hrb; done) | ((try simp only [CS1, gt_iff_lt, ge_iff_le, ne_eq, Decidable.not_not] at hrb); (try subst hrb); (try (exfalso; omega))))) | (refine kLdB 3 rfl rfl (by exact TT _ rfl) rfl ?_; intro rb hrb; cases rb <;> (first | (exfalso; simp at hrb; done) | ((try simp only [CS1, gt_iff_lt, ge_iff_le, ne_eq, Decidable.not_not] at hrb); (try subst hrb); (try (exfalso; omega))))) | ((repeat ((with_reducible refine gEx ?_); first | (refine kLd 0 rfl rfl (by exact TT _ rfl) rfl ?_) | (refine kLdA 0 rfl rfl (by exact TT _ rfl) (Nat.le_of_ble_eq_true rfl) (by simp only [Nd.cells, Nd.zero, eP, eE, LS2]; rfl) ?_) | (refine nxL ?_))); fail_if_success (with_reducible refine gEx ?_)))
    | ((with_reducible refine gSt ?_); (first | (refine eSt H rfl rfl ⟨.int _ _, rfl, ?_⟩) | (refine eSt H rfl rfl ⟨.bool _, rfl, ?_⟩) | (refine eSt H rfl rfl ⟨.slice _ _ _, rfl, ?_⟩) | (refine eSt H rfl rfl ⟨.pointer _, rfl, ?_⟩) | (refine eSt H rfl rfl ⟨.string _, rfl, ?_⟩) | (refine eSt H rfl rfl ⟨.agg (List.toArray _), rfl, ?_⟩)); (first | ((repeat ((with_reducible refine gES ?_); first | (refine kSt 0 rfl rfl (by exact TT _ rfl) rfl (Nat.le_of_ble_eq_true rfl) ?_) | (refine kStA 0 rfl rfl (by exact TT _ rfl) rfl rfl (Nat.le_of_ble_eq_true rfl) ?_) | (refine nxS ?_))); fail_if_success (with_reducible refine gES ?_))); clear H; intro w1 H; simp only [List.set_cons_zero, List.set_cons_succ] at H; (try simp only [lay, LS1, Nat.reduceAdd] at H))
    | ((with_reducible refine gBx ?_); refine bxA H rfl rfl rfl ?_; clear H; intro b1 w1 H)
    | ((with_reducible refine gAl ?_); (first | (refine al H Z33 rfl rfl ?_) | (refine al H Z110 rfl rfl ?_) | (refine al H Z122 rfl rfl ?_)); clear H; intro b1 w1 H))
    all_goals refine ret_ct (vs := [_, _, _, _, _]) 1 H rfl rfl rfl rfl rfl rfl T110 (Nat.le_of_ble_eq_true rfl) rfl ⟨rfl, H.drop.drop.drop⟩
  | true =>
    obtain ⟨f, hf⟩ : ∃ f, named k = f := ⟨_, rfl⟩
    obtain ⟨t, ht⟩ : ∃ f, two k = f := ⟨_, rfl⟩
    obtain ⟨u, hu⟩ : ∃ f, (k == 2) = f := ⟨_, rfl⟩
    obtain ⟨x, hx⟩ : ∃ f, (k == 3) = f := ⟨_, rfl⟩
    obtain ⟨kd, hd⟩ : ∃ f, kidsN k = f := ⟨_, rfl⟩
    have hs := shRow_yes hk
    rw [hf, ht, hu, hx, hd] at hs
    have hown : ∀ r, own ⟨k, fr, ds, nu, tx, na, nb⟩ = r → ((f || fr == 0) && (t || ds == 0) && (u || nu == 0) && (x || sEq tx ⟨#[]⟩)) = r := by
      intro r hr; rw [← hr]; simp [own, hk, hf, ht, hu, hx]
    obtain ⟨er, her⟩ : ∃ r, plainE ⟨k, fr, ds, nu, tx, na, nb⟩ = r := ⟨_, rfl⟩
    have HER := Lib.hid (show (if ((f || fr == 0) && (t || ds == 0) && (u || nu == 0) && (x || sEq tx ⟨#[]⟩)) then (0 : Int) else 53) = er by rw [hown _ rfl]; exact her)
    have hS := Lib.hid hs
    have hK := Lib.hid hk
    rw [her]
    simp only [hs, Nd.cells]
    clear hs hk hown her hf ht hu hx hd
    go_enter Try.func76, Try.ntmps76
    go_wp2_with (first
    | (go_at_call 80; ((with_reducible refine (shapeOf_spec H _).mono ?_); rintro e w1 ⟨rfl, H1⟩; clear H; have H := H1; clear H1; rw [hK.out, hS.out]))
    | ((with_reducible refine gLd ?_); refine eLd H rfl rfl ?_; first | (refine kLdB 0 rfl rfl (by exact TT _ rfl) rfl ?_; intro rb hrb; cases rb <;> (first | (exfalso; simp at hrb; done) | ((try simp only [CS1, gt_iff_lt, ge_iff_le, ne_eq, Decidable.not_not] at hrb); (try subst hrb); (try (exfalso; omega))))) | (refine kLdB 1 rfl rfl (by exact TT _ rfl) rfl ?_; intro rb hrb; cases rb <;> (first | (exfalso; simp at hrb; done) | ((try simp only [CS1, gt_iff_lt, ge_iff_le, ne_eq, Decidable.not_not] at hrb); (try subst hrb); (try (exfalso; omega))))) | (refine kLdB 2 rfl rfl (by exact TT _ rfl) rfl ?_; intro rb hrb; cases rb <;> (first | (exfalso; simp at hrb; done) | ((try simp only [CS1, gt_iff_lt, ge_iff_le, ne_eq, Decidable.not_not] at hrb); (try subst hrb); (try (exfalso; omega))))) | (refine kLdB 3 rfl rfl (by exact TT _ rfl) rfl ?_; intro rb hrb; cases rb <;> (first | (exfalso; simp at hrb; done) | ((try simp only [CS1, gt_iff_lt, ge_iff_le, ne_eq, Decidable.not_not] at hrb); (try subst hrb); (try (exfalso; omega))))) | ((repeat ((with_reducible refine gEx ?_); first | (refine kLd 0 rfl rfl (by exact TT _ rfl) rfl ?_) | (refine kLdA 0 rfl rfl (by exact TT _ rfl) (Nat.le_of_ble_eq_true rfl) (by simp only [Nd.cells, Nd.zero, eP, eE, LS2]; rfl) ?_) | (refine nxL ?_))); fail_if_success (with_reducible refine gEx ?_)))
    | ((with_reducible refine gSt ?_); (first | (refine eSt H rfl rfl ⟨.int _ _, rfl, ?_⟩) | (refine eSt H rfl rfl ⟨.bool _, rfl, ?_⟩) | (refine eSt H rfl rfl ⟨.slice _ _ _, rfl, ?_⟩) | (refine eSt H rfl rfl ⟨.pointer _, rfl, ?_⟩) | (refine eSt H rfl rfl ⟨.string _, rfl, ?_⟩) | (refine eSt H rfl rfl ⟨.agg (List.toArray _), rfl, ?_⟩)); (first | ((repeat ((with_reducible refine gES ?_); first | (refine kSt 0 rfl rfl (by exact TT _ rfl) rfl (Nat.le_of_ble_eq_true rfl) ?_) | (refine kStA 0 rfl rfl (by exact TT _ rfl) rfl rfl (Nat.le_of_ble_eq_true rfl) ?_) | (refine nxS ?_))); fail_if_success (with_reducible refine gES ?_))); clear H; intro w1 H; simp only [List.set_cons_zero, List.set_cons_succ] at H; (try simp only [lay, LS1, Nat.reduceAdd] at H))
    | ((with_reducible refine gBx ?_); refine bxA H rfl rfl rfl ?_; clear H; intro b1 w1 H)
    | ((with_reducible refine gEq ?_); (first | (refine wl_cmp rfl rfl rfl rfl ?_) | (refine wl_scmp rfl rfl rfl rfl ?_)); intro rb hrb; cases rb <;> (first | (exfalso; simp at hrb; done) | ((try simp only [CS1, gt_iff_lt, ge_iff_le, ne_eq, Decidable.not_not] at hrb); (try subst hrb); (try (exfalso; omega)))))
    | ((with_reducible refine gAl ?_); (first | (refine al H Z33 rfl rfl ?_) | (refine al H Z110 rfl rfl ?_) | (refine al H Z122 rfl rfl ?_)); clear H; intro b1 w1 H))
    all_goals (have e9 := HER.out; (first | (have e8 : sEq tx ⟨#[]⟩ = true := (by unfold sEq; rw [beq_iff_eq]; assumption); rw [e8] at e9) | (have e8 : sEq tx ⟨#[]⟩ = false := (by unfold sEq; rw [beq_eq_false_iff_ne]; assumption); rw [e8] at e9) | skip); simp [*] at e9; subst e9; refine ret_ct (vs := [_, _, _, _, _]) 1 H rfl rfl rfl rfl rfl rfl T110 (Nat.le_of_ble_eq_true rfl) rfl ⟨rfl, H.drop.drop.drop⟩)
end Go.Proofs.Ytebecelhcpljaaa
