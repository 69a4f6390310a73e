/- What functions of layer 5 compute. -/
import Derived.Test.YtebecelhcpljaaaMpN
import Derived.Test.YtebecelhcpljaaaGxOrd
import Derived.Test.YtebecelhcpljaaaGxLaw
import Derived.WalkKit
import Derived.Lib.Hide
import Derived.Deep.LoopGhost
import Derived.WalkSpells
set_option linter.unusedVariables false
set_option linter.unusedSimpArgs false
namespace Go.Proofs.Ytebecelhcpljaaa
open Go.RowKit Go.Gx Go.Gx.Trm
set_option maxRecDepth 100000
abbrev eP (p mb : Nat) (a : Option Nat) (c : Nat) (l : List En) : Ent := ⟨some p, [.slice (adr a 0) l.length c, .map (some mb)], 81, 2⟩
abbrev eE (a : Option Nat) (c : Nat) (l : List En) : Ent := ⟨a, rowsE l, 88, c * 9⟩
section
variable {P : Program} {w0 w : World} {D : Nat → Prop} {L : List Ent} {a : Act}
theorem ret_ct {fn : Func} {R : Ending → World → Prop} {p p2 : Tmp} {ty : TypeId} {b o n : Nat} {x : Ent} {vs : List Value} {u2 : Value} (i : Nat) (H : Hp w0 D L w) (hres : fn.results = #[.cell p ty, .tmp p2]) (hd : a.defers = [])
    (hp : a.tmps.getD p undef = .pointer (some ⟨b, o, none⟩)) (h2 : a.tmps.getD p2 undef = u2) (hi : L[i]? = some x) (hb : x.a = some b) (ht : tI P ty = some (true, n)) (hle : o + n ≤ x.xs.length) (hv : (x.xs.drop o).take n = vs)
    (hR : R (.returned (.tuple #[.agg vs.toArray, u2])) w) : bodyPost P fn R .ret a w := by
  refine ⟨hd, .tuple #[.agg vs.toArray, u2], ?_, hR⟩
  have := H.load (o := o) (v := .agg vs.toArray) hi hb ht (by simp [pick, hle, hv])
  have hp' : a.tmps[p]?.getD undef = .pointer (some ⟨b, o, none⟩) := by simpa using hp
  have h2' : a.tmps[p2]?.getD undef = u2 := by simpa using h2
  simp [results, hres, hp', h2', asAddr, this]
end
end Go.Proofs.Ytebecelhcpljaaa
section
open Go.Proofs.Ytebecelhcpljaaa
open Go.RowKit Go.Gx Go.Gx.Trm
set_option maxRecDepth 100000
theorem Go.Gx.Hp.some_of {w0 w : World} {D : Nat → Prop} {L : List Ent} (H : Hp w0 D L w) {i : Nat} {x : Ent} (hi : L[i]? = some x) (h : 0 < x.xs.length) : ∃ b, x.a = some b := by
  have := H.ents i x hi
  unfold Ent.at at this
  cases hx : x.a with
  | none => rw [hx] at this; have h0 := this.1; rw [h0] at h; simp at h
  | some b => exact ⟨b, rfl⟩
end
namespace Go.Proofs.Ytebecelhcpljaaa
open Go.RowKit Go.Gx Go.Gx.Trm
set_option maxRecDepth 100000
theorem inP_lo {l : List En} {t : Int} (h : t < 1) : inP l t = false := by unfold inP; simp; omega
theorem inP_hi {l : List En} {t : Int} (h : (l.length : Int) < t) : inP l t = false := by unfold inP; simp; omega
theorem inP_yes {l : List En} {t : Int} (h1 : 1 ≤ t) (h2 : t ≤ (l.length : Int)) : inP l t = true := by unfold inP; simp; omega
theorem nm_cases (k : Int) : (k < 0 ∧ nm k = false) ∨ (0 ≤ k ∧ k < 16 ∧ nm k = true) ∨ (0 ≤ k ∧ 16 ≤ k ∧ nm k = false) := by
  unfold nm
  by_cases h1 : 0 ≤ k
  · by_cases h2 : k < 16
    · simp [h1, h2]
    · simp [h1, h2]; omega
  · simp [h1]; omega
theorem inP_cases (l : List En) (t : Int) : (t < 1 ∧ inP l t = false) ∨ (1 ≤ t ∧ t ≤ (l.length : Int) ∧ inP l t = true) ∨ (1 ≤ t ∧ (l.length : Int) < t ∧ inP l t = false) := by
  by_cases h1 : 1 ≤ t
  · by_cases h2 : t ≤ (l.length : Int)
    · exact .inr (.inl ⟨h1, h2, inP_yes h1 h2⟩)
    · exact .inr (.inr ⟨h1, by omega, inP_hi (by omega)⟩)
  · exact .inl ⟨by omega, inP_lo (by omega)⟩
theorem Nd.zero_cells : Nd.zero.cells = [.int .i64 0, .int .i64 0, .int .i64 0, .int .u64 0, .string ⟨#[]⟩, .int .i64 0, .int .i64 0] := rfl
set_option maxHeartbeats 4000000 in
theorem num_spec {w0 w : World} {D : Nat → Prop} {R : List Ent}  (H : Hp w0 D (R) w) (k : Int) :
    Calls Try.prog 18 #[.int .i64 k] w fun e w' => e = .returned (.int .i64 k) ∧ Hp w0 D (R) w' := by
  all_goals (try simp only [Nd.cells, Nd.zero, eP, eE] at H)
  all_goals (try simp only [Nd.cells, Nd.zero, eP, eE])
  all_goals go_enter Try.func18, Try.ntmps18
  go_wp2_with (first
    | ((with_reducible refine EndQ.intro ?_ ?_); (· kernel_rfl)))
  go_ret
  exact ⟨rfl, H⟩
set_option maxHeartbeats 4000000 in
theorem isName_spec {w0 w : World} {D : Nat → Prop} {R : List Ent}  (H : Hp w0 D (R) w) (k : Int) :
    Calls Try.prog 85 #[.int .i64 k] w fun e w' => e = .returned (.bool (nm k)) ∧ Hp w0 D (R) w' := by
  rcases nm_cases k with ⟨h1, h3⟩ | ⟨h1, h2, h3⟩ | ⟨h1, h2, h3⟩
  all_goals (try simp only [Nd.cells, Nd.zero, eP, eE] at H)
  all_goals (try simp only [Nd.cells, Nd.zero, eP, eE])
  all_goals rw [h3]
  all_goals clear h3
  all_goals go_enter Try.func85, Try.ntmps85
  all_goals go_wp2_with (first
    | ((with_reducible refine gEq ?_); (first | (refine wl_cmp rfl rfl rfl rfl ?_) | (refine wl_scmp rfl rfl rfl rfl ?_)); intro rb hrb; cases rb <;> (first | (exfalso; simp at hrb; done) | ((try simp only [CS1, gt_iff_lt, ge_iff_le, ne_eq, Decidable.not_not] at hrb); (try subst hrb); (try (exfalso; omega))))))
  all_goals go_ret
  all_goals exact ⟨rfl, H⟩
set_option maxHeartbeats 4000000 in
theorem in_nil {w0 w : World} {D : Nat → Prop} {R : List Ent}  (H : Hp w0 D (R) w) (t : Int) :
    Calls Try.prog 53 #[.pointer none, .int .i64 t] w fun e w' => e = .returned (.bool false) ∧ Hp w0 D (R) w' := by
  all_goals (try simp only [Nd.cells, Nd.zero, eP, eE] at H)
  all_goals (try simp only [Nd.cells, Nd.zero, eP, eE])
  all_goals go_enter Try.func53, Try.ntmps53
  go_wp2_with (first
    | ((with_reducible refine EndQ.intro ?_ ?_); (· kernel_rfl)))
  all_goals go_ret
  all_goals exact ⟨rfl, H⟩
set_option maxHeartbeats 4000000 in
theorem in_at {w0 w : World} {D : Nat → Prop} {R : List Ent} {p mb : Nat} {a : Option Nat} {c : Nat} {l : List En} (H : Hp w0 D (R) w) {i : Nat} (hp : R[i]? = some (eP p mb a c l)) (t : Int) :
    Calls Try.prog 53 #[.pointer (some ⟨p, 0, none⟩), .int .i64 t] w fun e w' => e = .returned (.bool (inP l t)) ∧ Hp w0 D (R) w' := by
  rcases inP_cases l t with ⟨h1, h3⟩ | ⟨h1, h2, h3⟩ | ⟨h1, h2, h3⟩
  all_goals (try simp only [Nd.cells, Nd.zero, eP, eE] at H)
  all_goals (try simp only [Nd.cells, Nd.zero, eP, eE])
  all_goals rw [h3]
  all_goals clear h3
  all_goals go_enter Try.func53, Try.ntmps53
  all_goals go_wp2_with (first
    | ((with_reducible refine gLd ?_); refine eLd H rfl rfl ?_; refine kLd i hp rfl T79 rfl ?_)
    | ((with_reducible refine gEq ?_); (first | (refine wl_cmp rfl rfl rfl rfl ?_) | (refine wl_scmp rfl rfl rfl rfl ?_)); intro rb hrb; cases rb <;> (first | (exfalso; simp at hrb; done) | ((try simp only [CS1, gt_iff_lt, ge_iff_le, ne_eq, Decidable.not_not] at hrb); (try subst hrb); (try (exfalso; omega))))))
  all_goals go_ret
  all_goals exact ⟨rfl, H⟩
set_option maxHeartbeats 4000000 in
theorem Len_nil {w0 w : World} {D : Nat → Prop} {R : List Ent}  (H : Hp w0 D (R) w)  :
    Calls Try.prog 19 #[.pointer none] w fun e w' => e = .returned (.int .i64 0) ∧ Hp w0 D (R) w' := by
  all_goals (try simp only [Nd.cells, Nd.zero, eP, eE] at H)
  all_goals (try simp only [Nd.cells, Nd.zero, eP, eE])
  all_goals go_enter Try.func19, Try.ntmps19
  go_wp2_with (first
    | ((with_reducible refine EndQ.intro ?_ ?_); (· kernel_rfl)))
  all_goals go_ret
  all_goals exact ⟨rfl, H⟩
set_option maxHeartbeats 4000000 in
theorem Len_at {w0 w : World} {D : Nat → Prop} {R : List Ent} {p mb : Nat} {a : Option Nat} {c : Nat} {l : List En} (H : Hp w0 D (R) w) {i : Nat} (hp : R[i]? = some (eP p mb a c l)) :
    Calls Try.prog 19 #[.pointer (some ⟨p, 0, none⟩)] w fun e w' => e = .returned (.int .i64 (l.length : Int)) ∧ Hp w0 D (R) w' := by
  all_goals (try simp only [Nd.cells, Nd.zero, eP, eE] at H)
  all_goals (try simp only [Nd.cells, Nd.zero, eP, eE])
  all_goals go_enter Try.func19, Try.ntmps19
  go_wp2_with (first
    | ((with_reducible refine gLd ?_); refine eLd H rfl rfl ?_; refine kLd i hp rfl T79 rfl ?_))
  all_goals go_ret
  all_goals exact ⟨rfl, H⟩
set_option maxHeartbeats 4000000 in
theorem Size_nil {w0 w : World} {D : Nat → Prop} {R : List Ent}  (H : Hp w0 D (R) w) (t : Int) :
    Calls Try.prog 21 #[.pointer none, .int .i64 t] w fun e w' => e = .returned (.int .i64 0) ∧ Hp w0 D (R) w' := by
  all_goals (try simp only [Nd.cells, Nd.zero, eP, eE] at H)
  all_goals (try simp only [Nd.cells, Nd.zero, eP, eE])
  all_goals go_enter Try.func21, Try.ntmps21
  go_wp2_with (first
    | (go_at_call 53; ((with_reducible refine (in_nil H t).mono ?_); rintro e w1 ⟨rfl, H1⟩; clear H; have H := H1; clear H1)))
  all_goals go_ret
  all_goals exact ⟨rfl, H⟩
set_option maxHeartbeats 4000000 in
theorem Size_no {w0 w : World} {D : Nat → Prop} {R : List Ent} {p mb : Nat} {a : Option Nat} {c : Nat} {l : List En} (H : Hp w0 D (R) w) {i : Nat} (hp : R[i]? = some (eP p mb a c l)) {t : Int} (hi : inP l t = false) :
    Calls Try.prog 21 #[.pointer (some ⟨p, 0, none⟩), .int .i64 t] w fun e w' => e = .returned (.int .i64 0) ∧ Hp w0 D (R) w' := by
  have HI := Lib.hid hi
  clear hi
  all_goals (try simp only [Nd.cells, Nd.zero, eP, eE] at H)
  all_goals (try simp only [Nd.cells, Nd.zero, eP, eE])
  all_goals go_enter Try.func21, Try.ntmps21
  go_wp2_with (first
    | (go_at_call 53; (refine (in_at H hp _).mono ?_; rintro e w1 ⟨rfl, H1⟩; clear H; have H := H1; clear H1; (try rw [HI.out]))))
  all_goals go_ret
  all_goals exact ⟨rfl, H⟩
set_option maxHeartbeats 4000000 in
theorem Size_some {w0 w : World} {D : Nat → Prop} {R : List Ent} {p mb : Nat} {a : Nat} {c : Nat} {l : List En} (H : Hp w0 D (R) w) {i : Nat} (hp : R[i]? = some (eP p mb (some a) c l)) {j : Nat} (hq : R[j]? = some (eE (some a) c l)) {k : Nat} {x : En} (hl : l.length ≤ 65536) (hk : k < l.length) (he : l[k]? = some x) :
    Calls Try.prog 21 #[.pointer (some ⟨p, 0, none⟩), .int .i64 ((k : Int) + 1)] w fun e w' => e = .returned (.int .i64 x.size) ∧ Hp w0 D (R) w' := by
  have hk0 : (0 : Int) ≤ k := by omega
  have hk1 : (k : Int) < 65536 := by omega
  have hw : wrap64 (k : Int) = k := by unfold wrap64; omega
  have HI := Lib.hid (show inP l ((k : Int) + 1) = true from inP_yes (by omega) (by omega))
  have HE := Lib.hid (rowsE_size he)
  have hlc : l.length ≤ c := by have h5 : (rowsE l).length ≤ c * 9 := H.le (i := j) hq; rw [rowsE_length] at h5; omega
  clear he
  all_goals (try simp only [Nd.cells, Nd.zero, eP, eE] at H)
  all_goals (try simp only [Nd.cells, Nd.zero, eP, eE])
  all_goals go_enter Try.func21, Try.ntmps21
  go_wp2_with (first
    | (go_at_call 53; (refine (in_at H hp _).mono ?_; rintro e w1 ⟨rfl, H1⟩; clear H; have H := H1; clear H1; (try rw [HI.out])))
    | ((with_reducible refine gLd ?_); refine eLd H rfl rfl ?_; refine kLd i hp rfl T79 rfl ?_)
    | ((with_reducible refine gLd ?_); refine eLd H rfl rfl ?_; refine kLd j hq rfl T3 HE.out ?_))
  all_goals go_ret
  all_goals exact ⟨rfl, H⟩
theorem Size_at {w0 w : World} {D : Nat → Prop} {R : List Ent} {p mb : Nat} {a : Option Nat} {c : Nat} {l : List En} (H : Hp w0 D R w) {i : Nat} (hp : R[i]? = some (eP p mb a c l)) {j : Nat} (hq : R[j]? = some (eE a c l)) (hl : l.length ≤ 65536) (t : Int) :
    Calls Try.prog 21 #[.pointer (some ⟨p, 0, none⟩), .int .i64 t] w fun e w' => e = .returned (.int .i64 (sizeP l t)) ∧ Hp w0 D R w' := by
  cases hi : inP l t with
  | false =>
    have h1 : sizeP l t = 0 := by simp [sizeP, entP_no hi]
    rw [h1]; exact Size_no H hp hi
  | true =>
    obtain ⟨k, x, h1, h2, h3, h4⟩ := entP_in hi
    have h5 : sizeP l t = x.size := by simp [sizeP, h4]
    obtain ⟨b, hb⟩ := H.some_of hq (by dsimp only; rw [rowsE_length]; omega)
    have hb : a = some b := hb
    subst hb
    rw [h5, h1]; exact Size_some H hp hq hl h2 h3
set_option maxHeartbeats 4000000 in
theorem Depth_nil {w0 w : World} {D : Nat → Prop} {R : List Ent}  (H : Hp w0 D (R) w) (t : Int) :
    Calls Try.prog 22 #[.pointer none, .int .i64 t] w fun e w' => e = .returned (.int .i64 0) ∧ Hp w0 D (R) w' := by
  all_goals (try simp only [Nd.cells, Nd.zero, eP, eE] at H)
  all_goals (try simp only [Nd.cells, Nd.zero, eP, eE])
  all_goals go_enter Try.func22, Try.ntmps22
  go_wp2_with (first
    | (go_at_call 53; ((with_reducible refine (in_nil H t).mono ?_); rintro e w1 ⟨rfl, H1⟩; clear H; have H := H1; clear H1)))
  all_goals go_ret
  all_goals exact ⟨rfl, H⟩
set_option maxHeartbeats 4000000 in
theorem Depth_no {w0 w : World} {D : Nat → Prop} {R : List Ent} {p mb : Nat} {a : Option Nat} {c : Nat} {l : List En} (H : Hp w0 D (R) w) {i : Nat} (hp : R[i]? = some (eP p mb a c l)) {t : Int} (hi : inP l t = false) :
    Calls Try.prog 22 #[.pointer (some ⟨p, 0, none⟩), .int .i64 t] w fun e w' => e = .returned (.int .i64 0) ∧ Hp w0 D (R) w' := by
  have HI := Lib.hid hi
  clear hi
  all_goals (try simp only [Nd.cells, Nd.zero, eP, eE] at H)
  all_goals (try simp only [Nd.cells, Nd.zero, eP, eE])
  all_goals go_enter Try.func22, Try.ntmps22
  go_wp2_with (first
    | (go_at_call 53; (refine (in_at H hp _).mono ?_; rintro e w1 ⟨rfl, H1⟩; clear H; have H := H1; clear H1; (try rw [HI.out]))))
  all_goals go_ret
  all_goals exact ⟨rfl, H⟩
set_option maxHeartbeats 4000000 in
theorem Depth_some {w0 w : World} {D : Nat → Prop} {R : List Ent} {p mb : Nat} {a : Nat} {c : Nat} {l : List En} (H : Hp w0 D (R) w) {i : Nat} (hp : R[i]? = some (eP p mb (some a) c l)) {j : Nat} (hq : R[j]? = some (eE (some a) c l)) {k : Nat} {x : En} (hl : l.length ≤ 65536) (hk : k < l.length) (he : l[k]? = some x) :
    Calls Try.prog 22 #[.pointer (some ⟨p, 0, none⟩), .int .i64 ((k : Int) + 1)] w fun e w' => e = .returned (.int .i64 x.deep) ∧ Hp w0 D (R) w' := by
  have hk0 : (0 : Int) ≤ k := by omega
  have hk1 : (k : Int) < 65536 := by omega
  have hw : wrap64 (k : Int) = k := by unfold wrap64; omega
  have HI := Lib.hid (show inP l ((k : Int) + 1) = true from inP_yes (by omega) (by omega))
  have HE := Lib.hid (rowsE_deep he)
  have hlc : l.length ≤ c := by have h5 : (rowsE l).length ≤ c * 9 := H.le (i := j) hq; rw [rowsE_length] at h5; omega
  clear he
  all_goals (try simp only [Nd.cells, Nd.zero, eP, eE] at H)
  all_goals (try simp only [Nd.cells, Nd.zero, eP, eE])
  all_goals go_enter Try.func22, Try.ntmps22
  go_wp2_with (first
    | (go_at_call 53; (refine (in_at H hp _).mono ?_; rintro e w1 ⟨rfl, H1⟩; clear H; have H := H1; clear H1; (try rw [HI.out])))
    | ((with_reducible refine gLd ?_); refine eLd H rfl rfl ?_; refine kLd i hp rfl T79 rfl ?_)
    | ((with_reducible refine gLd ?_); refine eLd H rfl rfl ?_; refine kLd j hq rfl T3 HE.out ?_))
  all_goals go_ret
  all_goals exact ⟨rfl, H⟩
theorem Depth_at {w0 w : World} {D : Nat → Prop} {R : List Ent} {p mb : Nat} {a : Option Nat} {c : Nat} {l : List En} (H : Hp w0 D R w) {i : Nat} (hp : R[i]? = some (eP p mb a c l)) {j : Nat} (hq : R[j]? = some (eE a c l)) (hl : l.length ≤ 65536) (t : Int) :
    Calls Try.prog 22 #[.pointer (some ⟨p, 0, none⟩), .int .i64 t] w fun e w' => e = .returned (.int .i64 (deepP l t)) ∧ Hp w0 D R w' := by
  cases hi : inP l t with
  | false =>
    have h1 : deepP l t = 0 := by simp [deepP, entP_no hi]
    rw [h1]; exact Depth_no H hp hi
  | true =>
    obtain ⟨k, x, h1, h2, h3, h4⟩ := entP_in hi
    have h5 : deepP l t = x.deep := by simp [deepP, h4]
    obtain ⟨b, hb⟩ := H.some_of hq (by dsimp only; rw [rowsE_length]; omega)
    have hb : a = some b := hb
    subst hb
    rw [h5, h1]; exact Depth_some H hp hq hl h2 h3
end Go.Proofs.Ytebecelhcpljaaa
