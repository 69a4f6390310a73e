/- The program's walk over the subterms. -/
import Derived.Test.YtebecelhcpljaaaW24
import Derived.Test.YtebecelhcpljaaaPlainQ
import Derived.Test.YtebecelhcpljaaaGxMk
import Derived.Deep.Cut
import Derived.WalkKit
import Derived.Lib.Hide
import Derived.Deep.LoopGhost
import Derived.WalkSpells
import Derived.Test.YtebecelhcpljaaaGxMp
set_option linter.unusedVariables false
set_option linter.unusedSimpArgs false
namespace Go.Proofs.Ytebecelhcpljaaa
open Go.RowKit Go.Gx Go.Gx.Trm
set_option maxRecDepth 100000
theorem T24 : tI Try.prog 24 = some (false, 1) := by kernel_rfl
theorem T26 : tI Try.prog 26 = some (false, 1) := by kernel_rfl
theorem T94 : tI Try.prog 94 = some (false, 1) := by kernel_rfl
theorem T95 : tI Try.prog 95 = some (false, 1) := by kernel_rfl
theorem T97 : tI Try.prog 97 = some (true, 3) := by kernel_rfl
theorem T98 : tI Try.prog 98 = some (false, 1) := by kernel_rfl
theorem T119 : tI Try.prog 119 = some (false, 1) := by kernel_rfl
theorem S95 : sI Try.prog 95 = some (4, .bool false, 1, 1) := by kernel_rfl
def tabUL : List (TypeId × (Bool × Nat)) := [(24, false, 1), (26, false, 1), (94, false, 1), (95, false, 1), (97, true, 3), (98, false, 1), (119, false, 1)]
theorem tabUL_all : ∀ p ∈ tabUL, tI Try.prog p.1 = some p.2 := by
  simp only [tabUL, List.forall_mem_cons, List.not_mem_nil, false_implies, implies_true, and_true]
  exact ⟨T24, T26, T94, T95, T97, T98, T119⟩
def tabU (t : TypeId) : Option (Bool × Nat) := (tabT t).orElse fun _ => (tabUL.find? fun p => p.1 == t).map (·.2)
theorem TU (t : TypeId) {x : Bool × Nat} (h : tabU t = some x) : tI Try.prog t = some x := by
  unfold tabU at h
  cases h0 : tabT t with
  | some y => rw [h0] at h; exact TT t (h0.trans h)
  | none =>
    rw [h0] at h
    have h : (tabUL.find? fun p => p.1 == t).map (·.2) = some x := h
    cases hf : tabUL.find? (fun p => p.1 == t) with
    | none => rw [hf] at h; cases h
    | some p =>
      rw [hf] at h
      have h1 := List.find?_some hf
      have h1 : p.1 = t := by simpa using h1
      have h2 : p.2 = x := by simpa using h
      rw [← h1, ← h2]
      exact tabUL_all p (List.mem_of_find?_eq_some hf)
theorem SU (t : TypeId) {x : TypeId × Value × Nat × Nat} (h : tabS t = some x) : sI Try.prog t = some x := SS t h
theorem end_none {P : Program} {fn : Func} {R : Ending → World → Prop} {ts : Array Value} {w : World} (h : fn.results = #[]) (k : R (.returned (.tuple #[])) w) : bodyPost P fn R .normal ⟨ts, []⟩ w := ⟨rfl, _, results_none h ts P w, k⟩
theorem end_retn {P : Program} {fn : Func} {R : Ending → World → Prop} {ts : Array Value} {w : World} (h : fn.results = #[]) (k : R (.returned (.tuple #[])) w) : bodyPost P fn R .ret ⟨ts, []⟩ w := ⟨rfl, _, results_none h ts P w, k⟩
theorem rows_cell {xs : List Value} {k n j : Nat} {vs : List Value} {v : Value} (h : (xs.drop k).take n = vs) (hv : vs[j]? = some v) : xs[k + j]? = some v := by
  subst h
  rw [List.getElem?_take] at hv
  split at hv
  · rwa [List.getElem?_drop] at hv
  · cases hv
/-- the walk, its marks, what it has told -/
abbrev eWk (wb q sb N : Nat) (ar : Option Nat) (c m : Nat) : Ent := ⟨some wb, [.pointer (some ⟨q, 0, none⟩), .slice (some ⟨sb, 0, none⟩) N N, .slice (adr ar 0) m c], 97, 3⟩
abbrev eSn (sb N : Nat) (bs : List Bool) : Ent := ⟨some sb, bs.map Value.bool, 4, N⟩
abbrev eOu (ar : Option Nat) (c : Nat) (out : List Int) : Ent := ⟨ar, out.map (Value.int .i64), 28, c⟩
theorem set_sn {w0 w : World} {D : Nat → Prop} {E : Ent} {X : List Ent} {sb N k : Nat} {bs : List Bool} (H : Hp w0 D (E :: ⟨some sb, (bs.map Value.bool).set k (.bool true), 4, N⟩ :: X) w) : Hp w0 D (E :: eSn sb N (bs.set k true) :: X) w := by
  rw [eSn, List.map_set]; exact H
theorem ou_snoc {w0 w : World} {D : Nat → Prop} {R : List Ent} {wb q sb N a9 c9 : Nat} {bs : List Bool} {out : List Int} {t : Int}
    (H : Hp w0 D (⟨some wb, [.pointer (some ⟨q, 0, none⟩), .slice (some ⟨sb, 0, none⟩) N N, .slice (some ⟨a9, 0, none⟩) (out.length + 1) c9], 97, 3⟩ :: eSn sb N bs :: ⟨some a9, out.map (Value.int .i64) ++ [.int .i64 t], 28, c9 * 1⟩ :: R) w) :
    Hp w0 D (eWk wb q sb N (some a9) c9 (out ++ [t]).length :: eSn sb N bs :: eOu (some a9) c9 (out ++ [t]) :: R) w := by
  rw [eWk, eOu, List.length_append, List.map_append]
  rw [Nat.mul_one] at H
  exact H
def OverP (w0 : World) (D : Nat → Prop) (R : List Ent) (wb q sb N : Nat) (bs : List Bool) (out2 : List Int) (e : Ending) (w' : World) : Prop :=
  ∃ (bs2 : List Bool) (ar : Option Nat) (c : Nat), e = .returned (.tuple #[]) ∧ SeenQ bs bs2 out2 ∧ Hp w0 D (eWk wb q sb N ar c out2.length :: eSn sb N bs2 :: eOu ar c out2 :: R) w'
set_option maxHeartbeats 8000000 in
theorem Over_no {w0 : World} {D : Nat → Prop} {wb q sb N : Nat} {l : List En} {R : List Ent} {w : World} {t : Int} {out : List Int} {bs : List Bool} {ar : Option Nat} {c : Nat} (H : Hp w0 D (eWk wb q sb N ar c out.length :: eSn sb N bs :: eOu ar c out :: R) w) (hp : PlQ R q l) (hs : SeenP l bs out t) (hi : inP l t = false) :
    Calls Try.prog 62 #[.pointer (some ⟨wb, 0, none⟩), .int .i64 t] w fun e w' => OverP w0 D R wb q sb N bs out e w' := by
  obtain ⟨qb, qs, qd, cb, cs, cd, ip, jp, g1, g2⟩ := hp
  have HIN := Lib.hid hi
  have HSP := Lib.hid hs
  clear hi hs
  go_enter Try.func62, Try.ntmps62
  go_wp2_with (first
    | (go_at_call 36; ((refine (rIn_c (i := ip + 3) H g1 HIN.out).mono ?_); rintro e w1 ⟨rfl, H1⟩; clear H; have H := H1; clear H1))
    | ((with_reducible refine gLd ?_); refine eLd H rfl rfl ?_; first | ((repeat ((with_reducible refine gEx ?_); first | (refine kLd 0 rfl rfl (by exact TU _ rfl) rfl ?_) | (refine kLdA 0 rfl rfl (by exact TU _ rfl) (Nat.le_of_ble_eq_true rfl) (by simp only [Nd.cells, Nd.zero, LS2]; rfl) ?_) | (refine nxL ?_))); fail_if_success (with_reducible refine gEx ?_)))
    | ((with_reducible refine gBx ?_); refine bxA H rfl rfl rfl ?_; clear H; intro b1 w1 H)
    | ((with_reducible refine gEq ?_); (first | (refine wl_cmp rfl rfl rfl rfl ?_) | (refine wl_scmp rfl rfl rfl rfl ?_)); intro rb hrb; cases rb <;> (first | (exfalso; simp at hrb; done) | ((try simp only [CS1, gt_iff_lt, ge_iff_le, ne_eq, Decidable.not_not] at hrb); (try subst hrb); (try (exfalso; omega)))))
    | ((with_reducible refine gRg ?_); refine wp_region_text rfl (by decide +kernel) ?_; replace H := H.drew)
    | ((with_reducible refine EndQ.intro ?_ ?_); (· kernel_rfl)))
  exact end_retn rfl ⟨bs, ar, c, rfl, HSP.out.same, H⟩
set_option maxHeartbeats 8000000 in
theorem Over_seen {w0 : World} {D : Nat → Prop} {wb q sb N : Nat} {l : List En} {R : List Ent} {w : World} {i : Nat} {out : List Int} {bs : List Bool} {ar : Option Nat} {c : Nat} (H : Hp w0 D (eWk wb q sb N ar c out.length :: eSn sb N bs :: eOu ar c out :: R) w) (hp : PlQ R q l) (hs : SeenP l bs out ((i : Int) + 1)) (hN : l.length + 1 = N) (hl : l.length ≤ 65536) (hlt : i < l.length) (hm : (i : Int) + 1 ∈ out) :
    Calls Try.prog 62 #[.pointer (some ⟨wb, 0, none⟩), .int .i64 ((i : Int) + 1)] w fun e w' => OverP w0 D R wb q sb N bs out e w' := by
  obtain ⟨qb, qs, qd, cb, cs, cd, ip, jp, g1, g2⟩ := hp
  have HIN := Lib.hid (show inP l ((i : Int) + 1) = true from inP_yes (by omega) (by omega))
  have HB : Hid ((bs.map Value.bool)[i + 1]? = some (.bool true)) := Lib.hid (by rw [List.getElem?_map, hs.at hlt, decide_eq_true hm]; rfl)
  have HSP := Lib.hid hs
  have hiN : i + 1 < N := by omega
  have hi6 : i < 65536 := by omega
  clear hs hN hlt hm hl
  go_enter Try.func62, Try.ntmps62
  go_wp2_with (first
    | (go_at_call 36; ((refine (rIn_c (i := ip + 3) H g1 HIN.out).mono ?_); rintro e w1 ⟨rfl, H1⟩; clear H; have H := H1; clear H1))
    | ((with_reducible refine gLd ?_); refine eLd H rfl rfl ?_; refine kLd 1 rfl rfl T4 HB.out ?_)
    | ((with_reducible refine gLd ?_); refine eLd H rfl rfl ?_; first | ((repeat ((with_reducible refine gEx ?_); first | (refine kLd 0 rfl rfl (by exact TU _ rfl) rfl ?_) | (refine kLdA 0 rfl rfl (by exact TU _ rfl) (Nat.le_of_ble_eq_true rfl) (by simp only [Nd.cells, Nd.zero, LS2]; rfl) ?_) | (refine nxL ?_))); fail_if_success (with_reducible refine gEx ?_)))
    | ((with_reducible refine gBx ?_); refine bxA H rfl rfl rfl ?_; clear H; intro b1 w1 H)
    | ((with_reducible refine gEq ?_); (first | (refine wl_cmp rfl rfl rfl rfl ?_) | (refine wl_scmp rfl rfl rfl rfl ?_)); intro rb hrb; cases rb <;> (first | (exfalso; simp at hrb; done) | ((try simp only [CS1, gt_iff_lt, ge_iff_le, ne_eq, Decidable.not_not] at hrb); (try subst hrb); (try (exfalso; omega)))))
    | ((with_reducible refine gRg ?_); refine wp_region_text rfl (by decide +kernel) ?_; replace H := H.drew)
    | ((with_reducible refine EndQ.intro ?_ ?_); (· kernel_rfl)))
  exact end_retn rfl ⟨bs, ar, c, rfl, HSP.out.same, H⟩
set_option maxHeartbeats 16000000 in
theorem Over_spec {w0 : World} {D : Nat → Prop} {wb q sb N : Nat} {l : List En} (hl : l.length ≤ 65536) (hN : l.length + 1 = N) (hw : wfP l) : ∀ (fu : Nat), ∀ {R : List Ent} (w : World) (t : Int) (out : List Int) (bs : List Bool) (ar : Option Nat) (c : Nat), (inP l t = true → t.toNat ≤ fu) → Hp w0 D (eWk wb q sb N ar c out.length :: eSn sb N bs :: eOu ar c out :: R) w → PlQ R q l → SeenP l bs out t → GoodO l out →
    Calls Try.prog 62 #[.pointer (some ⟨wb, 0, none⟩), .int .i64 t] w fun e w' => OverP w0 D R wb q sb N bs (overF l fu t out) e w' := by
  intro fu
  induction fu with
  | zero =>
    intro R w t out bs ar c hf H hp hs hg
    have hi : inP l t = false := by
      cases h : inP l t with
      | false => rfl
      | true =>
        have h1 := hf h
        rw [inP_lo (by omega)] at h; cases h
    rw [over_no (by rw [hi]; simp)]
    exact Over_no H hp hs hi
  | succ fu ih =>
    intro R w t out bs ar c hf H hp hs hg
    cases hi : inP l t with
    | false =>
      rw [over_no (by rw [hi]; simp)]
      exact Over_no H hp hs hi
    | true =>
      obtain ⟨i, ⟨⟨xk, xf, xd, xn, xt, ka, kb⟩, sz, dp⟩, rfl, hlt, hgt, he⟩ := entP_in hi
      by_cases hm : (i : Int) + 1 ∈ out
      · rw [over_no (by simp [hm])]
        exact Over_seen H hp hs hN hl hlt hm
      · rw [over_yes hi hm, nodeQ_some hgt]
        dsimp only
        have hE := (hw.wf i _ hgt).lt
        simp only at hE
        have hfi := hf hi
        have HPL := Lib.hid hp
        obtain ⟨qb, qs, qd, cb, cs, cd, ip, jp, g1, g2⟩ := hp
        have hlb : l.length ≤ cb := by
          have h0 : (eWk wb q sb N ar c out.length :: eSn sb N bs :: eOu ar c out :: R)[jp + 3]? = some (eQn qb cb l) := g2
          have h5 : (rowsN (l.map En.n)).length ≤ cb * 7 := H.le (i := jp + 3) h0
          rw [nodesV_len] at h5; omega
        obtain ⟨b9, hb⟩ := H.some_of (i := jp + 3) g2 (by dsimp only; rw [nodesV_len]; omega)
        have hb : qb = some b9 := hb
        subst hb
        have HIN := Lib.hid hi
        have HB : Hid ((bs.map Value.bool)[i + 1]? = some (.bool false)) := Lib.hid (by rw [List.getElem?_map, hs.at hlt, decide_eq_false hm]; rfl)
        have HKA : Hid ((rowsN (l.map En.n))[i * 7 + 5]? = some (.int .i64 ka)) := Lib.hid (rows_cell (nodesV_at hgt) rfl)
        have HKB : Hid ((rowsN (l.map En.n))[i * 7 + 6]? = some (.int .i64 kb)) := Lib.hid (rows_cell (nodesV_at hgt) rfl)
        have HLT : Hid (i + 1 < (bs.map Value.bool).length) := Lib.hid (by rw [List.length_map, hs.len]; omega)
        have HL3 : Hid ((overF l fu kb (overF l fu ka out)).length ≤ 65536) := Lib.hid (Nat.le_trans (over_good hw _ _ _ (over_good hw _ _ _ hg)).len hl)
        have HSP := Lib.hid hs
        have HG := Lib.hid hg
        have HW := Lib.hid hw
        have HFA : Hid (inP l ka = true → ka.toNat ≤ fu) := Lib.hid (fun _ => by omega)
        have HFB : Hid (inP l kb = true → kb.toNat ≤ fu) := Lib.hid (fun _ => by omega)
        have HAI : Hid (ka ≤ (i : Int)) := Lib.hid (by omega)
        have HBI : Hid (kb ≤ (i : Int)) := Lib.hid (by omega)
        have HIL : Hid (i < l.length) := Lib.hid hlt
        have hiN : i + 1 < N := by omega
        have hi6 : i < 65536 := by omega
        have hw : wrap64 (i : Int) = i := by unfold wrap64; omega
        clear hs hg hfi hf hE hm hi he hgt
        go_enter Try.func62, Try.ntmps62
        go_wp2_with (first
    | (go_at_call 36; ((refine (rIn_c (i := ip + 3) H g1 HIN.out).mono ?_); rintro e w1 ⟨rfl, H1⟩; clear H; have H := H1; clear H1))
    | ((with_reducible refine gLd ?_); refine eLd H rfl rfl ?_; refine kLd 1 rfl rfl T4 HB.out ?_)
    | ((with_reducible refine gLd ?_); refine eLd H rfl rfl ?_; refine kLd (ip + 3) g1 rfl T22 rfl ?_)
    | ((with_reducible refine gLd ?_); refine eLd H rfl rfl ?_; first | (refine kLd (jp + 3) g2 rfl T28 HKA.out ?_) | (refine kLd (jp + 3) g2 rfl T28 HKB.out ?_))
    | ((with_reducible refine gSt ?_); refine eSt H rfl rfl ⟨.bool true, rfl, ?_⟩; refine kSt 1 rfl rfl T4 rfl HLT.out ?_; clear H; intro w1 H; simp only [List.set_cons_zero, List.set_cons_succ] at H; replace H := set_sn H)
    | (go_at_call 62; first | (have hq := bs2; clear hq; refine (ih _ kb _ bs2 ar2 c2 HFB.out H HPL.out (((HSP.out.kid.step hq2 (over_sub HW.out)).mono HBI.out)) (over_good HW.out _ _ _ HG.out)).mono ?_; rintro e w1 ⟨bs3, ar3, c3, rfl, hq3, H1⟩; clear H; have H := H1; clear H1; (try simp only [])) | (refine (ih _ ka out _ ar c HFA.out H HPL.out (HSP.out.kid.mono HAI.out) HG.out).mono ?_; rintro e w1 ⟨bs2, ar2, c2, rfl, hq2, H1⟩; clear H; have H := H1; clear H1; (try simp only [])))
    | ((with_reducible refine gBs ?_); refine wl_buildSlice1 (v := .int .i64 ((i : Int) + 1)) rfl rfl S61 rfl (by decide) (by decide) H ?_; clear H; intro bq w1 H; replace H : Hp w0 D (⟨some bq, [.int .i64 ((i : Int) + 1)], 28, 1⟩ :: _) w1 := H)
    | ((with_reducible refine gAp ?_); refine wl_append 3 0 rfl H rfl rfl rfl rfl S61 (by decide) (Or.inl rfl) (by rw [List.length_map, Nat.mul_one]) (Nat.mul_one _).symm (fun h => by cases h) (Nat.le_of_ble_eq_true rfl) rfl (by have := HL3.out; unfold maxLen; omega) (by have := HL3.out; omega) ?_; clear H; intro a' c9 w1 H h0; (obtain ⟨a9, e9⟩ : ∃ z, a' = some z := (by cases a' with | none => (have := h0 rfl; omega) | some z => exact ⟨z, rfl⟩)); subst e9; clear h0; simp only [List.set_cons_zero, List.set_cons_succ, List.drop_zero, Nat.one_mul, List.take_succ_cons, List.take_zero] at H; replace H := H.drop)
    | ((with_reducible refine gSt ?_); refine eSt H rfl rfl ⟨.slice _ _ _, rfl, ?_⟩; refine kSt 0 rfl rfl T61 rfl (Nat.le_of_ble_eq_true rfl) ?_; clear H; intro w1 H; simp only [List.set_cons_zero, List.set_cons_succ] at H)
    | ((with_reducible refine gLd ?_); refine eLd H rfl rfl ?_; first | ((repeat ((with_reducible refine gEx ?_); first | (refine kLd 0 rfl rfl (by exact TU _ rfl) rfl ?_) | (refine kLdA 0 rfl rfl (by exact TU _ rfl) (Nat.le_of_ble_eq_true rfl) (by simp only [Nd.cells, Nd.zero, LS2]; rfl) ?_) | (refine nxL ?_))); fail_if_success (with_reducible refine gEx ?_)))
    | ((with_reducible refine gBx ?_); refine bxA H rfl rfl rfl ?_; clear H; intro b1 w1 H)
    | ((with_reducible refine gEq ?_); (first | (refine wl_cmp rfl rfl rfl rfl ?_) | (refine wl_scmp rfl rfl rfl rfl ?_)); intro rb hrb; cases rb <;> (first | (exfalso; simp at hrb; done) | ((try simp only [CS1, gt_iff_lt, ge_iff_le, ne_eq, Decidable.not_not] at hrb); (try subst hrb); (try (exfalso; omega)))))
    | ((with_reducible refine gRg ?_); refine wp_region_text rfl (by decide +kernel) ?_; replace H := H.drew)
    | ((with_reducible refine EndQ.intro ?_ ?_); (· kernel_rfl)))
        exact end_none rfl ⟨bs3, some a9, c9, rfl, HSP.out.fin HIL.out hq2 hq3 (over_sub HW.out), ou_snoc H⟩
def SubsP (w0 : World) (D : Nat → Prop) (R : List Ent) (out : List Int) (e : Ending) (w' : World) : Prop := ∃ (ar : Option Nat) (c : Nat), e = .returned (.slice (adr ar 0) out.length c) ∧ Hp w0 D (eOu ar c out :: R) w'
theorem start_wk {w0 w : World} {D : Nat → Prop} {R : List Ent} {wb q sb N : Nat} (H : Hp w0 D (⟨some wb, [.pointer (some ⟨q, 0, none⟩), .slice (some ⟨sb, 0, none⟩) N N, .slice none 0 0], 97, 3⟩ :: ⟨some sb, List.replicate N (.bool false), 4, N⟩ :: R) w) :
    Hp w0 D (eWk wb q sb N none 0 ([] : List Int).length :: eSn sb N (List.replicate N false) :: eOu none 0 [] :: R) w := by
  have h := (H.consNone 28).swap (A := [_]) (B := [_, _])
  rw [eSn, List.map_replicate]
  exact h
set_option maxHeartbeats 8000000 in
theorem rSubs_spec {w0 : World} {D : Nat → Prop} {q : Nat} {l : List En} {R : List Ent} {w : World} {t : Int} (hl : l.length ≤ 65536) (hw : wfP l) (H : Hp w0 D R w) (hp : PlQ R q l) :
    Calls Try.prog 32 #[.pointer (some ⟨q, 0, none⟩), .int .i64 t] w fun e w' => SubsP w0 D R (subsP l t) e w' := by
  have HPL := Lib.hid hp
  obtain ⟨qb, qs, qd, cb, cs, cd, ip, jp, g1, g2⟩ := hp
  have HL := Lib.hid hl
  have HW := Lib.hid hw
  have h64 : wrap64 ((l.length : Int) + 1) = (l.length : Int) + 1 := by unfold wrap64; omega
  clear hw
  go_enter Try.func32, Try.ntmps32
  go_wp2_with (first
    | ((with_reducible refine gLd ?_); refine eLd H rfl rfl ?_; first | (refine kLd ip g1 rfl T22 rfl ?_) | (refine kLd 0 rfl rfl T61 rfl ?_))
    | ((with_reducible refine gMk ?_); refine wl_make (n := l.length + 1) rfl rfl rfl H S95 rfl (by omega) (by omega) ?_; clear H; intro bm w1 H)
    | ((with_reducible refine gBx ?_); refine bxA H rfl rfl rfl ?_; clear H; intro wb w1 H; replace H := start_wk H)
    | (go_at_call 62; (refine (Over_spec HL.out rfl HW.out l.length _ t [] _ none 0 (fun h => by have := inP_bd h; omega) H HPL.out (SeenP.start l t) (GoodO.nil l)).mono ?_); rintro e w1 ⟨bs2, ar, c, rfl, hq, H1⟩; clear H; have H := H1; clear H1; (try simp only []))
    | ((with_reducible refine gLd ?_); refine eLd H rfl rfl ?_; first | ((repeat ((with_reducible refine gEx ?_); first | (refine kLd 0 rfl rfl (by exact TU _ rfl) rfl ?_) | (refine kLdA 0 rfl rfl (by exact TU _ rfl) (Nat.le_of_ble_eq_true rfl) (by simp only [Nd.cells, Nd.zero, LS2]; rfl) ?_) | (refine nxL ?_))); fail_if_success (with_reducible refine gEx ?_)))
    | ((with_reducible refine gBx ?_); refine bxA H rfl rfl rfl ?_; clear H; intro b1 w1 H)
    | ((with_reducible refine gEq ?_); (first | (refine wl_cmp rfl rfl rfl rfl ?_) | (refine wl_scmp rfl rfl rfl rfl ?_)); intro rb hrb; cases rb <;> (first | (exfalso; simp at hrb; done) | ((try simp only [CS1, gt_iff_lt, ge_iff_le, ne_eq, Decidable.not_not] at hrb); (try subst hrb); (try (exfalso; omega)))))
    | ((with_reducible refine gRg ?_); refine wp_region_text rfl (by decide +kernel) ?_; replace H := H.drew)
    | ((with_reducible refine EndQ.intro ?_ ?_); (· kernel_rfl)))
  go_ret
  exact ⟨ar, c, rfl, H.drop.drop⟩
end Go.Proofs.Ytebecelhcpljaaa
set_option linter.unusedVariables false
set_option linter.unusedSimpArgs false
namespace Go.Proofs.Ytebecelhcpljaaa
open Go.RowKit Go.Gx Go.Gx.Trm
set_option maxRecDepth 100000
/-- what is seen, as a map of the call's own -/
abbrev mk1 (ks : List Int) : List (Int × Value) := ks.map fun k => (k, Value.int .i64 1)
theorem mk1_snoc (ks : List Int) (k : Int) : mk1 ks ++ [(k, Value.int .i64 1)] = mk1 (ks ++ [k]) := by simp
theorem look_mk1 (ks : List Int) (k : Int) : Gx.look (mk1 ks) k = if k ∈ ks then some (.int .i64 1) else none := by
  induction ks with
  | nil => rfl
  | cons x ks ih =>
    unfold Gx.look at ih ⊢
    by_cases h : x = k
    · subst h; simp
    · have hb : ((x, Value.int .i64 1).1 == k) = false := by simpa using h
      rw [mk1, List.map_cons, List.find?_cons_of_neg (by simpa using h)]
      rw [ih]
      have : (k ∈ x :: ks) ↔ k ∈ ks := by simp [Ne.symm h]
      simp only [this]
structure SeenK (ks out : List Int) (t : Int) : Prop where
  told : ∀ k ∈ out, k ∈ ks
  seen : ∀ k, k ≤ t → k ∈ ks → k ∈ out
def SeenKQ (ks ks2 out : List Int) : Prop := ∀ k, k ∈ ks2 ↔ k ∈ ks ∨ k ∈ out
theorem SeenK.mono {ks out : List Int} {t u : Int} (h : SeenK ks out t) (hu : u ≤ t) : SeenK ks out u := ⟨h.told, fun k h1 h2 => h.seen k (by omega) h2⟩
theorem SeenK.same {ks out : List Int} {t : Int} (h : SeenK ks out t) : SeenKQ ks ks out := fun k => ⟨.inl, fun g => g.elim id (h.told k)⟩
theorem SeenK.kid {ks out : List Int} {i : Int} (h : SeenK ks out (i + 1)) : SeenK (ks ++ [i + 1]) out i :=
  ⟨fun k hk => List.mem_append_left _ (h.told k hk), fun k hk hb => by
    rcases List.mem_append.1 hb with g | g
    · exact h.seen k (by omega) g
    · have := List.mem_singleton.1 g; omega⟩
theorem SeenK.step {ks ks2 out out2 : List Int} {t : Int} (h : SeenK ks out t) (q : SeenKQ ks ks2 out2) (hs : ∀ x ∈ out, x ∈ out2) : SeenK ks2 out2 t :=
  ⟨fun k hk => (q k).2 (.inr hk), fun k hk hb => by
    rcases (q k).1 hb with g | g
    · exact hs _ (h.seen k hk g)
    · exact g⟩
theorem SeenKQ.step {ks ks2 ks3 out2 out3 : List Int} (q : SeenKQ ks ks2 out2) (q2 : SeenKQ ks2 ks3 out3) (hs : ∀ x ∈ out2, x ∈ out3) : SeenKQ ks ks3 out3 := fun k => by
  rw [q2 k, q k]
  constructor
  · rintro ((g | g) | g)
    · exact .inl g
    · exact .inr (hs _ g)
    · exact .inr g
  · rintro (g | g)
    · exact .inl (.inl g)
    · exact .inr g
theorem SeenKQ.fin {ks ks2 out : List Int} {t : Int} (q : SeenKQ (ks ++ [t]) ks2 out) : SeenKQ ks ks2 (out ++ [t]) := fun k => by
  rw [q k, List.mem_append, List.mem_append]
  constructor
  · rintro ((g | g) | g)
    · exact .inl g
    · exact .inr (.inr g)
    · exact .inr (.inl g)
  · rintro (g | g | g)
    · exact .inl (.inl g)
    · exact .inr g
    · exact .inl (.inr g)
theorem U119 : Try.prog.underlying 119 = some (.map 28 3) := by kernel_rfl
theorem K28 : Try.prog.underlying 28 = some (.int .i64) := by kernel_rfl
theorem Z61 : zI Try.prog 61 = some (.slice none 0 0) := by kernel_rfl
theorem Z98 : zI Try.prog 98 = some .nilFunc := by kernel_rfl
theorem Z119 : zI Try.prog 119 = some (.map none) := by kernel_rfl
section
variable {P : Program} {w0 w : World} {D : Nat → Prop} {L : List Ent} {ops : Array Oper} {Q : Exit → Act → World → Prop} {a : Act} {rest : List Oper}
theorem wl_look1 {t K E : TypeId} {q : IntKind} {b : Nat} {kv : List (Int × Value)} {z v : Value} {k : Int} {dst : Option Tmp} {ty : TypeId} {m x : Operand} {pos : String} {af : Array Edge} {g : Option (Nat × Bool)}
    (hw : Region.wanted ⟨dst, .lookup t m x false, ty, pos, af, g⟩ (yielded ops a.tmps) = true) (hx : a.eval m = .map (some b)) (hk : a.eval x = .int q k)
    (hu : P.underlying t = some (.map K E)) (hK : P.underlying K = some (.int q)) (hz : zI P E = some z) (hm : mapAt w q b kv) (hr : (Gx.look kv k).getD z = v)
    (h : wpList P ops Q rest (a.put dst v) w) : wpList P ops Q (⟨dst, .lookup t m x false, ty, pos, af, g⟩ :: rest) a w :=
  wl_run hw (by rw [← hr]; simp only [execOp, hx, hk]; simp only [Sem.run_bind, run_look1 hu hK hz hm k, Result.andThen_ok, Sem.run_pure]) h
end
theorem ou_snoc2 {w0 w : World} {D : Nat → Prop} {R : List Ent} {b5 a9 c9 : Nat} {out : List Int} {t : Int}
    (H : Hp w0 D (⟨some b5, [.slice (some ⟨a9, 0, none⟩) (out.length + 1) c9], 61, 1⟩ :: ⟨some a9, out.map (Value.int .i64) ++ [.int .i64 t], 28, c9 * 1⟩ :: R) w) :
    Hp w0 D (⟨some b5, [.slice (adr (some a9) 0) (out ++ [t]).length c9], 61, 1⟩ :: eOu (some a9) c9 (out ++ [t]) :: R) w := by
  rw [eOu, List.length_append, List.map_append]
  rw [Nat.mul_one] at H
  exact H
theorem over_zero {l : List En} (f : Nat) (out : List Int) : overF l f 0 out = out := over_no (by simp [inP])
def SubP (W : World) (E : Nat → Prop) (b2 b5 b6 b7 p ms : Nat) (R : List Ent) (ks out2 : List Int) (e : Ending) (w' : World) : Prop :=
  ∃ (ks2 : List Int) (ar : Option Nat) (c : Nat), e = .returned (.tuple #[]) ∧ SeenKQ ks ks2 out2 ∧ Hm W E [(ms, .i64, mk1 ks2)] (⟨some b5, [.slice (adr ar 0) (out2 : List Int).length c], 61, 1⟩ :: eOu ar c out2 :: ⟨some b6, [.map (some ms)], 119, 1⟩ :: ⟨some b2, [.pointer (some ⟨p, 0, none⟩)], 24, 1⟩ :: ⟨some b7, [.func (.func 81) #[] #[.pointer (some ⟨b6, 0, none⟩), .pointer (some ⟨b2, 0, none⟩), .pointer (some ⟨b7, 0, none⟩), .pointer (some ⟨b5, 0, none⟩)]], 98, 1⟩ :: R) w'
set_option maxHeartbeats 8000000 in
theorem Sub_seen {W w : World} {E : Nat → Prop} {b2 b5 b6 b7 p ms : Nat} {R : List Ent} {t : Int} {out ks : List Int} {ar : Option Nat} {c : Nat} (hk : t ∈ ks) (hs : SeenK ks out t) (hm : Hm W E [(ms, .i64, mk1 ks)] (⟨some b5, [.slice (adr ar 0) (out : List Int).length c], 61, 1⟩ :: eOu ar c out :: ⟨some b6, [.map (some ms)], 119, 1⟩ :: ⟨some b2, [.pointer (some ⟨p, 0, none⟩)], 24, 1⟩ :: ⟨some b7, [.func (.func 81) #[] #[.pointer (some ⟨b6, 0, none⟩), .pointer (some ⟨b2, 0, none⟩), .pointer (some ⟨b7, 0, none⟩), .pointer (some ⟨b5, 0, none⟩)]], 98, 1⟩ :: R) w) :
    Calls Try.prog 81 #[.int .i64 t, .pointer (some ⟨b6, 0, none⟩), .pointer (some ⟨b2, 0, none⟩), .pointer (some ⟨b7, 0, none⟩), .pointer (some ⟨b5, 0, none⟩)] w fun e w' => SubP W E b2 b5 b6 b7 p ms R ks out e w' := by
  obtain ⟨w0, D, H, back⟩ := hm.open
  have HLK : Hid ((Gx.look (mk1 ks) t).getD (.int .i64 0) = .int .i64 1) := Lib.hid (by rw [look_mk1, if_pos hk]; rfl)
  have HSK := Lib.hid hs
  clear hm hs hk
  go_enter Try.func81, Try.ntmps81
  go_wp2_with (first
    | ((with_reducible refine gLk ?_); refine wl_look1 (v := .int .i64 1) rfl rfl rfl U119 K28 Z3 ((back _ _ H).map (i := 0) rfl) HLK.out ?_)
    | ((with_reducible refine gLd ?_); refine eLd H rfl rfl ?_; first | ((repeat ((with_reducible refine gEx ?_); first | (refine kLd 0 rfl rfl (by exact TU _ rfl) rfl ?_) | (refine kLdA 0 rfl rfl (by exact TU _ rfl) (Nat.le_of_ble_eq_true rfl) (by simp only [Nd.cells, Nd.zero, LS2]; rfl) ?_) | (refine nxL ?_))); fail_if_success (with_reducible refine gEx ?_)))
    | ((with_reducible refine gBx ?_); refine bxA H rfl rfl rfl ?_; clear H; intro b1 w1 H)
    | ((with_reducible refine gEq ?_); (first | (refine wl_cmp rfl rfl rfl rfl ?_) | (refine wl_scmp rfl rfl rfl rfl ?_)); intro rb hrb; cases rb <;> (first | (exfalso; simp at hrb; done) | ((try simp only [CS1, gt_iff_lt, ge_iff_le, ne_eq, Decidable.not_not] at hrb); (try subst hrb); (try (exfalso; omega)))))
    | ((with_reducible refine gRg ?_); refine wp_region_text rfl (by decide +kernel) ?_; replace H := H.drew)
    | ((with_reducible refine EndQ.intro ?_ ?_); (· kernel_rfl)))
  exact end_retn rfl ⟨ks, ar, c, rfl, HSK.out.same, back _ _ H⟩
set_option maxHeartbeats 16000000 in
theorem Sub_spec {W : World} {E : Nat → Prop} {b2 b5 b6 b7 p ms : Nat} {l : List En} (hl : l.length ≤ 65536) (hw : wfP l) : ∀ (fu : Nat), ∀ {R : List Ent} (w : World) (t : Int) (out ks : List Int) (ar : Option Nat) (c : Nat), inP l t = true → t.toNat ≤ fu → PlR R p l → SeenK ks out t → GoodO l out → Hm W E [(ms, .i64, mk1 ks)] (⟨some b5, [.slice (adr ar 0) (out : List Int).length c], 61, 1⟩ :: eOu ar c out :: ⟨some b6, [.map (some ms)], 119, 1⟩ :: ⟨some b2, [.pointer (some ⟨p, 0, none⟩)], 24, 1⟩ :: ⟨some b7, [.func (.func 81) #[] #[.pointer (some ⟨b6, 0, none⟩), .pointer (some ⟨b2, 0, none⟩), .pointer (some ⟨b7, 0, none⟩), .pointer (some ⟨b5, 0, none⟩)]], 98, 1⟩ :: R) w →
    Calls Try.prog 81 #[.int .i64 t, .pointer (some ⟨b6, 0, none⟩), .pointer (some ⟨b2, 0, none⟩), .pointer (some ⟨b7, 0, none⟩), .pointer (some ⟨b5, 0, none⟩)] w fun e w' => SubP W E b2 b5 b6 b7 p ms R ks (overF l fu t out) e w' := by
  intro fu
  induction fu with
  | zero =>
    intro R w t out ks ar c hi hf hp hs hg hm
    have := inP_bd hi
    omega
  | succ fu ih =>
    intro R w t out ks ar c hi hf hp hs hg hm
    by_cases hmo : t ∈ out
    · rw [over_no (by simp [hmo])]
      exact Sub_seen (hs.told t hmo) hs hm
    · obtain ⟨i, ⟨⟨xk, xf, xd, xn, xt, ka, kb⟩, sz, dp⟩, rfl, hlt, hgt, he⟩ := entP_in hi
      have hks : ¬ (i : Int) + 1 ∈ ks := fun h => hmo (hs.seen _ (by omega) h)
      have hn : nodeP l ((i : Int) + 1) = ⟨xk, xf, xd, xn, xt, ka, kb⟩ := by simp only [nodeP, he]
      rw [over_yes hi hmo, nodeQ_some hgt]
      dsimp only
      have hwf := hw.wf i _ hgt
      have hE := hwf.lt
      have hpk := plain_kids hwf.sh
      have ha1 := hwf.a1
      have hb1 := hwf.b1
      simp only at hE hpk ha1 hb1
      obtain ⟨m, hm9⟩ : ∃ m : Nat, kidsN xk = (m : Int) := ⟨(kidsN xk).toNat, by have := kidsN_le xk; omega⟩
      have hm2 : m ≤ 2 := by have := kidsN_le xk; omega
      rw [hm9] at hpk ha1 hb1
      have HPL := Lib.hid hp
      have HL := Lib.hid hl
      have HW := Lib.hid hw
      have HND := Lib.hid hn
      have HIN := Lib.hid hi
      have HM := Lib.hid hm9
      have HLK : Hid ((Gx.look (mk1 ks) ((i : Int) + 1)).getD (.int .i64 0) = .int .i64 0) := Lib.hid (by rw [look_mk1, if_neg hks]; rfl)
      have HNO : Hid (Gx.look (mk1 ks) ((i : Int) + 1) = none) := Lib.hid (by rw [look_mk1, if_neg hks])
      have HL3 : Hid ((overF l fu kb (overF l fu ka out)).length ≤ 65536) := Lib.hid (Nat.le_trans (over_good hw _ _ _ (over_good hw _ _ _ hg)).len hl)
      have HFA : 1 ≤ m → Hid (inP l ka = true ∧ ka.toNat ≤ fu) := fun h => Lib.hid (by have := ha1 (by omega); exact ⟨by unfold inP; simp; omega, by omega⟩)
      have HFB : m = 2 → Hid (inP l kb = true ∧ kb.toNat ≤ fu) := fun h => Lib.hid (by have := hb1 (by omega); exact ⟨by unfold inP; simp; omega, by omega⟩)
      have HOK : Hid ((fun k : Nat => (if k = 0 then out else if k = 1 then overF l fu ka out else overF l fu kb (overF l fu ka out))) m = (overF l fu kb (overF l fu ka out))) := Lib.hid (by
        rcases (show m = 0 ∨ m = 1 ∨ m = 2 by omega) with rfl | rfl | rfl
        · have h1 := hpk.1 rfl
          have h2 := hpk.2 (by omega)
          simp only [h1, h2, over_zero]; rfl
        · have h2 := hpk.2 (by omega)
          simp only [h2, over_zero]; rfl
        · rfl)
      have HS0 := Lib.hid hs.kid
      have HG := Lib.hid hg
      have HLE : Hid (ka ≤ (i : Int) ∧ kb ≤ (i : Int)) := Lib.hid (by omega)
      obtain ⟨w0, D, H, back⟩ := hm.open
      clear hm hs hg hf hE hmo hks he hgt hpk ha1 hb1 hn hi hwf hw hlt hl hm9
      go_enter Try.func81, Try.ntmps81
      go_wp2_with (first
    | ((with_reducible refine gLk ?_); refine wl_look1 (v := .int .i64 0) rfl rfl rfl U119 K28 Z3 ((back _ _ H).map (i := 0) rfl) HLK.out ?_)
    | ((with_reducible refine gMu ?_); refine wl_mapUp (q := .i64) (k := (i : Int) + 1) (v := .int .i64 1) rfl rfl rfl rfl (back _ _ H) 0 rfl U119 K28 HNO.out ?_; clear H back; intro w1 hm; simp only [List.set_cons_zero] at hm; rw [mk1_snoc] at hm; obtain ⟨w0, D, H, back⟩ := hm.open; clear hm)
    | (go_at_call 61; (refine (kids_spec (m := m) H (HPL.out.push [_, _, _, _, _]) HL.out HND.out HIN.out HM.out).mono ?_); rintro e w1 ⟨bk, rfl, H1⟩; clear H; have H := H1; clear H1)
    | ((with_reducible refine gLd ?_); refine eLd H rfl rfl ?_; first | ((repeat ((with_reducible refine gEx ?_); first | (refine kLd 0 rfl rfl (by exact TU _ rfl) rfl ?_) | (refine kLdA 0 rfl rfl (by exact TU _ rfl) (Nat.le_of_ble_eq_true rfl) (by simp only [Nd.cells, Nd.zero, LS2]; rfl) ?_) | (refine nxL ?_))); fail_if_success (with_reducible refine gEx ?_)))
    | ((with_reducible refine gBx ?_); refine bxA H rfl rfl rfl ?_; clear H; intro b1 w1 H)
    | ((with_reducible refine gEq ?_); (first | (refine wl_cmp rfl rfl rfl rfl ?_) | (refine wl_scmp rfl rfl rfl rfl ?_)); intro rb hrb; cases rb <;> (first | (exfalso; simp at hrb; done) | ((try simp only [CS1, gt_iff_lt, ge_iff_le, ne_eq, Decidable.not_not] at hrb); (try subst hrb); (try (exfalso; omega)))))
    | ((with_reducible refine gRg ?_); refine wp_region_text rfl (by decide +kernel) ?_; replace H := H.drew)
    | ((with_reducible refine EndQ.intro ?_ ?_); (· kernel_rfl)))
      have H0 := back _ _ (Hp.swap (A := [_]) (B := [_, _, _, _, _]) H)
      simp only [List.cons_append, List.nil_append] at H0
      clear H back w0 D
      go_loopg [20] m (fun g v20 wr => ∃ (k : Nat) (ks1 o1 : List Int) (ar1 : Option Nat) (c1 : Nat), v20 = .int .i64 (k : Int) ∧ k + g = m ∧ Hid (o1 = (if k = 0 then out else if k = 1 then overF l fu ka out else overF l fu kb (overF l fu ka out))) ∧ Hid (SeenK ks1 o1 (i : Int) ∧ SeenKQ (ks ++ [(i : Int) + 1]) ks1 o1 ∧ GoodO l o1) ∧ Hm W E [(ms, .i64, mk1 ks1)] (⟨some b5, [.slice (adr ar1 0) (o1 : List Int).length c1], 61, 1⟩ :: eOu ar1 c1 o1 :: ⟨some b6, [.map (some ms)], 119, 1⟩ :: ⟨some b2, [.pointer (some ⟨p, 0, none⟩)], 24, 1⟩ :: ⟨some b7, [.func (.func 81) #[] #[.pointer (some ⟨b6, 0, none⟩), .pointer (some ⟨b2, 0, none⟩), .pointer (some ⟨b7, 0, none⟩), .pointer (some ⟨b5, 0, none⟩)]], 98, 1⟩ :: ⟨some bk, [.int .i64 ka, .int .i64 kb], 28, 2⟩ :: R) wr)
      case atStart => exact ⟨0, _, out, ar, c, rfl, by omega, Lib.hid rfl, Lib.hid ⟨HS0.out, HS0.out.same, HG.out⟩, H0⟩
      case round =>
        clear H0
        obtain ⟨k, ks1, o1, ar1, c1, rfl, hkg, ho1, HSK, hm1⟩ := hrel
        have HKG := Lib.hid hkg
        obtain ⟨w0, D, H, back⟩ := hm1.open
        clear hm1
        by_cases hk : k < m
        · clear hkg
          rcases (show k = 0 ∨ k = 1 by omega) with rfl | rfl
          · obtain rfl : o1 = out := ho1.out
            have HFX := HFA (by omega)
            clear ho1
            go_wp2_with (first
                | (go_at_call 81; (refine (ih _ ka _ ks1 ar1 c1 HFX.out.1 HFX.out.2 (HPL.out.push [_]) (HSK.out.1.mono (by have := HLE.out; omega)) HSK.out.2.2 (back _ _ H)).mono ?_); rintro e w1 ⟨ks2, ar2, c2, rfl, hq2, hm2⟩; clear H back; obtain ⟨w0, D, H, back⟩ := hm2.open; clear hm2; (try simp only []))
                | ((with_reducible refine gLd ?_); refine eLd H rfl rfl ?_; first | ((repeat ((with_reducible refine gEx ?_); first | (refine kLd 0 rfl rfl (by exact TU _ rfl) rfl ?_) | (refine kLdA 0 rfl rfl (by exact TU _ rfl) (Nat.le_of_ble_eq_true rfl) (by simp only [Nd.cells, Nd.zero, LS2]; rfl) ?_) | (refine nxL ?_))); fail_if_success (with_reducible refine gEx ?_)))
                | ((with_reducible refine gBx ?_); refine bxA H rfl rfl rfl ?_; clear H; intro b1 w1 H)
                | ((with_reducible refine gEq ?_); (first | (refine wl_cmp rfl rfl rfl rfl ?_) | (refine wl_scmp rfl rfl rfl rfl ?_)); intro rb hrb; cases rb <;> (first | (exfalso; simp at hrb; done) | ((try simp only [CS1, gt_iff_lt, ge_iff_le, ne_eq, Decidable.not_not] at hrb); (try subst hrb); (try (exfalso; omega)))))
                | ((with_reducible refine gRg ?_); refine wp_region_text rfl (by decide +kernel) ?_; replace H := H.drew)
                | ((with_reducible refine EndQ.intro ?_ ?_); (· kernel_rfl)))
            go_roundg (gk - 1)
            case measure => have := HKG.out; omega
            case rel =>
              exact ⟨1, ks2, _, ar2, c2, by go_num, by have := HKG.out; omega, Lib.hid rfl, Lib.hid ⟨HSK.out.1.step hq2 (over_sub HW.out), HSK.out.2.1.step hq2 (over_sub HW.out), over_good HW.out _ _ _ HSK.out.2.2⟩, back _ _ H⟩
          · have ho2 := ho1.out
            simp only [Nat.one_ne_zero, if_true, if_false] at ho2
            subst ho2
            have HFX := HFB (by omega)
            clear ho1
            go_wp2_with (first
                | (go_at_call 81; (refine (ih _ kb _ ks1 ar1 c1 HFX.out.1 HFX.out.2 (HPL.out.push [_]) (HSK.out.1.mono (by have := HLE.out; omega)) HSK.out.2.2 (back _ _ H)).mono ?_); rintro e w1 ⟨ks2, ar2, c2, rfl, hq2, hm2⟩; clear H back; obtain ⟨w0, D, H, back⟩ := hm2.open; clear hm2; (try simp only []))
                | ((with_reducible refine gLd ?_); refine eLd H rfl rfl ?_; first | ((repeat ((with_reducible refine gEx ?_); first | (refine kLd 0 rfl rfl (by exact TU _ rfl) rfl ?_) | (refine kLdA 0 rfl rfl (by exact TU _ rfl) (Nat.le_of_ble_eq_true rfl) (by simp only [Nd.cells, Nd.zero, LS2]; rfl) ?_) | (refine nxL ?_))); fail_if_success (with_reducible refine gEx ?_)))
                | ((with_reducible refine gBx ?_); refine bxA H rfl rfl rfl ?_; clear H; intro b1 w1 H)
                | ((with_reducible refine gEq ?_); (first | (refine wl_cmp rfl rfl rfl rfl ?_) | (refine wl_scmp rfl rfl rfl rfl ?_)); intro rb hrb; cases rb <;> (first | (exfalso; simp at hrb; done) | ((try simp only [CS1, gt_iff_lt, ge_iff_le, ne_eq, Decidable.not_not] at hrb); (try subst hrb); (try (exfalso; omega)))))
                | ((with_reducible refine gRg ?_); refine wp_region_text rfl (by decide +kernel) ?_; replace H := H.drew)
                | ((with_reducible refine EndQ.intro ?_ ?_); (· kernel_rfl)))
            go_roundg (gk - 1)
            case measure => have := HKG.out; omega
            case rel =>
              exact ⟨2, ks2, _, ar2, c2, by go_num, by have := HKG.out; omega, Lib.hid rfl, Lib.hid ⟨HSK.out.1.step hq2 (over_sub HW.out), HSK.out.2.1.step hq2 (over_sub HW.out), over_good HW.out _ _ _ HSK.out.2.2⟩, back _ _ H⟩
        · obtain rfl : m = k := by omega
          have ho2 := ho1.out.trans HOK.out
          subst ho2
          clear hkg ho1
          go_wp2_with (first
    | ((with_reducible refine gBs ?_); refine wl_buildSlice1 (v := .int .i64 ((i : Int) + 1)) rfl rfl S61 rfl (by decide) (by decide) H ?_; clear H; intro bq w1 H; replace H : Hp _ _ (⟨some bq, [.int .i64 ((i : Int) + 1)], 28, 1⟩ :: _) w1 := H)
    | ((with_reducible refine gAp ?_); refine wl_append 2 0 rfl H rfl rfl rfl rfl S61 (by decide) (Or.inl rfl) (by rw [List.length_map, Nat.mul_one]) (Nat.mul_one _).symm (fun h => by cases h) (Nat.le_of_ble_eq_true rfl) rfl (by have := HL3.out; unfold maxLen; omega) (by have := HL3.out; omega) ?_; clear H; intro a' c9 w1 H h0; (obtain ⟨a9, e9⟩ : ∃ z, a' = some z := (by cases a' with | none => (have := h0 rfl; omega) | some z => exact ⟨z, rfl⟩)); subst e9; clear h0; simp only [List.set_cons_zero, List.set_cons_succ, List.drop_zero, Nat.one_mul, List.take_succ_cons, List.take_zero] at H; replace H := H.drop)
    | ((with_reducible refine gSt ?_); refine eSt H rfl rfl ⟨.slice _ _ _, rfl, ?_⟩; refine kSt 0 rfl rfl T61 rfl (Nat.le_of_ble_eq_true rfl) ?_; clear H; intro w1 H; simp only [List.set_cons_zero, List.set_cons_succ] at H)
    | ((with_reducible refine gLd ?_); refine eLd H rfl rfl ?_; first | ((repeat ((with_reducible refine gEx ?_); first | (refine kLd 0 rfl rfl (by exact TU _ rfl) rfl ?_) | (refine kLdA 0 rfl rfl (by exact TU _ rfl) (Nat.le_of_ble_eq_true rfl) (by simp only [Nd.cells, Nd.zero, LS2]; rfl) ?_) | (refine nxL ?_))); fail_if_success (with_reducible refine gEx ?_)))
    | ((with_reducible refine gBx ?_); refine bxA H rfl rfl rfl ?_; clear H; intro b1 w1 H)
    | ((with_reducible refine gEq ?_); (first | (refine wl_cmp rfl rfl rfl rfl ?_) | (refine wl_scmp rfl rfl rfl rfl ?_)); intro rb hrb; cases rb <;> (first | (exfalso; simp at hrb; done) | ((try simp only [CS1, gt_iff_lt, ge_iff_le, ne_eq, Decidable.not_not] at hrb); (try subst hrb); (try (exfalso; omega)))))
    | ((with_reducible refine gRg ?_); refine wp_region_text rfl (by decide +kernel) ?_; replace H := H.drew)
    | ((with_reducible refine EndQ.intro ?_ ?_); (· kernel_rfl)))
          exact end_none rfl ⟨ks1, some a9, c9, rfl, HSK.out.2.1.fin, back _ _ ((ou_snoc2 H).dropAt 5)⟩
end Go.Proofs.Ytebecelhcpljaaa
