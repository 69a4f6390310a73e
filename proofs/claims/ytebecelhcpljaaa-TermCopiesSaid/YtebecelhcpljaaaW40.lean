/- The program's subterms: the iterator. -/
import Derived.Test.YtebecelhcpljaaaW38
import Derived.Deep.Cut
import Derived.WalkKit
import Derived.Lib.Hide
import Derived.Deep.LoopGhost
import Derived.WalkSpells
import Derived.Test.YtebecelhcpljaaaGxRfG
import Derived.Sort.LoopGhostIn
import Derived.TacticsInMore
import Derived.Shelf.Abstract
set_option linter.unusedVariables false
set_option linter.unusedSimpArgs false
namespace Go.Proofs.Ytebecelhcpljaaa
open Go.RowKit Go.Gx Go.Gx.Trm
set_option maxRecDepth 100000
theorem SeenK.start (t : Int) : SeenK [] [] t := ⟨by simp, by simp⟩
theorem In_R {w0 w : World} {D : Nat → Prop} {R : List Ent} {p : Nat} {l : List En} {r : Bool} {t : Int} (H : Hp w0 D R w) (hp : PlR R p l) (h : inP l t = r) :
    Calls Try.prog 53 #[.pointer (some ⟨p, 0, none⟩), .int .i64 t] w fun e w' => e = .returned (.bool r) ∧ Hp w0 D R w' := by
  obtain ⟨mb, a, c, i, j, g1, g2⟩ := hp
  subst h
  exact in_at H g1 t
set_option maxHeartbeats 8000000 in
theorem subs_spec {w0 : World} {D : Nat → Prop} {p : Nat} {l : List En} {R : List Ent} {w : World} {t : Int} (hl : l.length ≤ 65536) (hw : wfP l) (H : Hp w0 D R w) (hp : PlR R p l) :
    Calls Try.prog 64 #[.pointer (some ⟨p, 0, none⟩), .int .i64 t] w fun e w' => SubsP w0 D R (subsP l t) e w' := by
  have HPL := Lib.hid hp
  have HL := Lib.hid hl
  have HW := Lib.hid hw
  have hmf : ∀ (fn : Fn) (first cap : Array Value) (w : World), (Instr.makeFunc fn first cap).run Try.prog w = .ok (.func fn first cap) w := fun _ _ _ _ => rfl
  cases hi : inP l t with
  | false =>
    have he : subsP l t = [] := over_no (by rw [hi]; simp)
    rw [he]
    have HIN := Lib.hid hi
    clear hl hw hp hi he
    go_enter Try.func64, Try.ntmps64
    go_wp2_with (first
    | ((with_reducible refine gBx ?_); refine wl_box (v := .pointer (some ⟨p, 0, none⟩)) (n := 1) rfl rfl rfl H ?_; clear H; intro b2 w1 H; replace H : Hp _ _ (⟨some b2, [.pointer (some ⟨p, 0, none⟩)], 24, 1⟩ :: _) w1 := H)
    | ((with_reducible refine gAl ?_); first | (refine wl_alloc rfl Z61 H ?_; clear H; intro b5 w1 H; replace H : Hp _ _ (⟨some b5, [.slice none 0 0], 61, 1⟩ :: _) w1 := H) | (refine wl_alloc rfl Z119 H ?_; clear H; intro b6 w1 H; replace H : Hp _ _ (⟨some b6, [.map none], 119, 1⟩ :: _) w1 := H) | (refine wl_alloc rfl Z98 H ?_; clear H; intro b7 w1 H; replace H : Hp _ _ (⟨some b7, [.nilFunc], 98, 1⟩ :: _) w1 := H))
    | ((with_reducible refine gMm ?_); refine wl_mkMap .i64 rfl (Hm.of H) ?_; clear H; intro ms w1 hm; obtain ⟨w2, D2, H, back⟩ := hm.open; clear hm)
    | ((with_reducible refine gSt ?_); first | (refine eSt H rfl rfl ⟨.map _, rfl, ?_⟩; refine kSt 0 rfl rfl T119 rfl (Nat.le_of_ble_eq_true rfl) ?_; clear H; intro w1 H; simp only [List.set_cons_zero, List.set_cons_succ] at H) | (refine eSt H rfl rfl ⟨.func (.func 81) #[] _, rfl, ?_⟩; refine kSt 0 rfl rfl T98 rfl (Nat.le_of_ble_eq_true rfl) ?_; clear H; intro w1 H; simp only [List.set_cons_zero, List.set_cons_succ] at H))
    | (go_at_call 53; ((refine (In_R H (HPL.out.push [_, _, _, _]) HIN.out).mono ?_); rintro e w1 ⟨rfl, H1⟩; clear H; have H := H1; clear H1))
    | ((with_reducible refine gLd ?_); refine eLd H rfl rfl ?_; first | ((repeat ((with_reducible refine gEx ?_); first | (refine kLd 0 rfl rfl (by exact TU _ rfl) rfl ?_) | (refine kLdA 0 rfl rfl (by exact TU _ rfl) (Nat.le_of_ble_eq_true rfl) (by simp only [Nd.cells, Nd.zero, LS2]; rfl) ?_) | (refine nxL ?_))); fail_if_success (with_reducible refine gEx ?_)))
    | ((with_reducible refine gBx ?_); refine bxA H rfl rfl rfl ?_; clear H; intro b1 w1 H)
    | ((with_reducible refine gEq ?_); (first | (refine wl_cmp rfl rfl rfl rfl ?_) | (refine wl_scmp rfl rfl rfl rfl ?_)); intro rb hrb; cases rb <;> (first | (exfalso; simp at hrb; done) | ((try simp only [CS1, gt_iff_lt, ge_iff_le, ne_eq, Decidable.not_not] at hrb); (try subst hrb); (try (exfalso; omega)))))
    | ((with_reducible refine gRg ?_); refine wp_region_text rfl (by decide +kernel) ?_; replace H := H.drew)
    | ((with_reducible refine EndQ.intro ?_ ?_); (· kernel_rfl)))
    go_ret
    exact ⟨none, 0, rfl, ((back _ _ H).hp.drop.drop.drop.drop).consNone 28⟩
  | true =>
    have HIN := Lib.hid hi
    have HT : Hid (t.toNat ≤ l.length) := Lib.hid (by have := inP_bd hi; omega)
    clear hl hw hp hi
    go_enter Try.func64, Try.ntmps64
    go_wp2_with (first
    | ((with_reducible refine gBx ?_); refine wl_box (v := .pointer (some ⟨p, 0, none⟩)) (n := 1) rfl rfl rfl H ?_; clear H; intro b2 w1 H; replace H : Hp _ _ (⟨some b2, [.pointer (some ⟨p, 0, none⟩)], 24, 1⟩ :: _) w1 := H)
    | ((with_reducible refine gAl ?_); first | (refine wl_alloc rfl Z61 H ?_; clear H; intro b5 w1 H; replace H : Hp _ _ (⟨some b5, [.slice none 0 0], 61, 1⟩ :: _) w1 := H) | (refine wl_alloc rfl Z119 H ?_; clear H; intro b6 w1 H; replace H : Hp _ _ (⟨some b6, [.map none], 119, 1⟩ :: _) w1 := H) | (refine wl_alloc rfl Z98 H ?_; clear H; intro b7 w1 H; replace H : Hp _ _ (⟨some b7, [.nilFunc], 98, 1⟩ :: _) w1 := H))
    | ((with_reducible refine gMm ?_); refine wl_mkMap .i64 rfl (Hm.of H) ?_; clear H; intro ms w1 hm; obtain ⟨w2, D2, H, back⟩ := hm.open; clear hm)
    | ((with_reducible refine gSt ?_); first | (refine eSt H rfl rfl ⟨.map _, rfl, ?_⟩; refine kSt 0 rfl rfl T119 rfl (Nat.le_of_ble_eq_true rfl) ?_; clear H; intro w1 H; simp only [List.set_cons_zero, List.set_cons_succ] at H) | (refine eSt H rfl rfl ⟨.func (.func 81) #[] _, rfl, ?_⟩; refine kSt 0 rfl rfl T98 rfl (Nat.le_of_ble_eq_true rfl) ?_; clear H; intro w1 H; simp only [List.set_cons_zero, List.set_cons_succ] at H))
    | (go_at_call 53; ((refine (In_R H (HPL.out.push [_, _, _, _]) HIN.out).mono ?_); rintro e w1 ⟨rfl, H1⟩; clear H; have H := H1; clear H1))
    | (go_at_call 81; (refine (Sub_spec HL.out HW.out l.length _ t [] [] none 0 HIN.out HT.out HPL.out (SeenK.start t) (GoodO.nil l) (back _ _ ((((((H.consNone 28).swap (A := [_]) (B := [_])).swap (A := [_, _, _, _]) (B := [_])).swap (A := [_, _, _]) (B := [_])).swap (A := [_, _, _]) (B := [_])).swap (A := [_, _, _, _]) (B := [_])))).mono ?_); rintro e w1 ⟨ks2, ar, c, rfl, hq, hm2⟩; clear H back; obtain ⟨w2, D2, H, back⟩ := hm2.open; clear hm2; (try simp only []))
    | ((with_reducible refine gLd ?_); refine eLd H rfl rfl ?_; first | ((repeat ((with_reducible refine gEx ?_); first | (refine kLd 0 rfl rfl (by exact TU _ rfl) rfl ?_) | (refine kLdA 0 rfl rfl (by exact TU _ rfl) (Nat.le_of_ble_eq_true rfl) (by simp only [Nd.cells, Nd.zero, LS2]; rfl) ?_) | (refine nxL ?_))); fail_if_success (with_reducible refine gEx ?_)))
    | ((with_reducible refine gBx ?_); refine bxA H rfl rfl rfl ?_; clear H; intro b1 w1 H)
    | ((with_reducible refine gEq ?_); (first | (refine wl_cmp rfl rfl rfl rfl ?_) | (refine wl_scmp rfl rfl rfl rfl ?_)); intro rb hrb; cases rb <;> (first | (exfalso; simp at hrb; done) | ((try simp only [CS1, gt_iff_lt, ge_iff_le, ne_eq, Decidable.not_not] at hrb); (try subst hrb); (try (exfalso; omega)))))
    | ((with_reducible refine gRg ?_); refine wp_region_text rfl (by decide +kernel) ?_; replace H := H.drew)
    | ((with_reducible refine EndQ.intro ?_ ?_); (· kernel_rfl)))
    go_ret
    exact ⟨ar, c, rfl, ((back _ _ H).hp.drop.dropAt 1).dropAt 1 |>.dropAt 1⟩
def SubsF (w0 : World) (D : Nat → Prop) (R : List Ent) (p : Nat) (t : Int) (e : Ending) (w' : World) : Prop :=
  ∃ b2 b3, e = .returned (.func (.func 63) #[] #[.pointer (some ⟨b2, 0, none⟩), .pointer (some ⟨b3, 0, none⟩)]) ∧ Hp w0 D (⟨some b3, [.int .i64 t], 28, 1⟩ :: ⟨some b2, [.pointer (some ⟨p, 0, none⟩)], 24, 1⟩ :: R) w'
set_option maxHeartbeats 8000000 in
theorem SubsF_spec {w0 : World} {D : Nat → Prop} {p : Nat} {R : List Ent} {w : World} {t : Int} (H : Hp w0 D R w) :
    Calls Try.prog 33 #[.pointer (some ⟨p, 0, none⟩), .int .i64 t] w fun e w' => SubsF w0 D R p t e w' := by
  have hmf : ∀ (fn : Fn) (first cap : Array Value) (w : World), (Instr.makeFunc fn first cap).run Try.prog w = .ok (.func fn first cap) w := fun _ _ _ _ => rfl
  go_enter Try.func33, Try.ntmps33
  go_wp2_with (first
    | ((with_reducible refine gBx ?_); refine wl_box (v := .pointer (some ⟨p, 0, none⟩)) (n := 1) rfl rfl rfl H ?_; clear H; intro b2 w1 H; replace H : Hp _ _ (⟨some b2, [.pointer (some ⟨p, 0, none⟩)], 24, 1⟩ :: _) w1 := H)
    | ((with_reducible refine gBx ?_); refine wl_box (v := .int .i64 t) (n := 1) rfl rfl rfl H ?_; clear H; intro b3 w1 H; replace H : Hp _ _ (⟨some b3, [.int .i64 t], 28, 1⟩ :: _) w1 := H)
    | ((with_reducible refine gLd ?_); refine eLd H rfl rfl ?_; first | ((repeat ((with_reducible refine gEx ?_); first | (refine kLd 0 rfl rfl (by exact TU _ rfl) rfl ?_) | (refine kLdA 0 rfl rfl (by exact TU _ rfl) (Nat.le_of_ble_eq_true rfl) (by simp only [Nd.cells, Nd.zero, LS2]; rfl) ?_) | (refine nxL ?_))); fail_if_success (with_reducible refine gEx ?_)))
    | ((with_reducible refine gBx ?_); refine bxA H rfl rfl rfl ?_; clear H; intro b1 w1 H)
    | ((with_reducible refine gEq ?_); (first | (refine wl_cmp rfl rfl rfl rfl ?_) | (refine wl_scmp rfl rfl rfl rfl ?_)); intro rb hrb; cases rb <;> (first | (exfalso; simp at hrb; done) | ((try simp only [CS1, gt_iff_lt, ge_iff_le, ne_eq, Decidable.not_not] at hrb); (try subst hrb); (try (exfalso; omega)))))
    | ((with_reducible refine gRg ?_); refine wp_region_text rfl (by decide +kernel) ?_; replace H := H.drew)
    | ((with_reducible refine EndQ.intro ?_ ?_); (· kernel_rfl)))
  go_ret
  exact ⟨b2, b3, rfl, H⟩
end Go.Proofs.Ytebecelhcpljaaa
set_option linter.unusedVariables false
set_option linter.unusedSimpArgs false
namespace Go.Proofs.Ytebecelhcpljaaa
open Go.RowKit Go.Gx Go.Gx.Trm
set_option maxRecDepth 100000
attribute [local go_sem] Oper.semAt_some
section
variable {P : Program} {ops : Array Oper} {Q : Exit → Act → World → Prop} {a : Act} {w : World} {rest : List Oper} {o : Oper}
abbrev wlC (P : Program) (ops : Array Oper) (Q : Exit → Act → World → Prop) (l : List Oper) (a : Act) (w : World) : Prop := wpListIn Fence.wide 0 P ops (NQ Q) l a w
theorem wlC_region {id : Nat} {l : List Oper} (h : wlC P l.toArray Q l a w) : (Code.region id l.toArray false).wpIn Fence.wide 0 P Q a w :=
  Go.wpIn_mono (Q := NQ Q) (wpIn_region_lit h) (fun e a w hq => by cases e <;> first | exact hq | exact hq.elim)
theorem wlC_run {v : Value} {w' : World} (hw : Region.wanted o (yielded ops a.tmps) = true) (hr : (execOp a.eval o).run P w = .ok (.value v) w') (k : wlC P ops Q rest (a.put o.dst v) w') : wlC P ops Q (o :: rest) a w := by
  unfold wlC wpListIn
  rw [if_pos hw]
  exact c_run hr k
theorem wlC_skip (hw : Region.wanted o (yielded ops a.tmps) = false) (k : wlC P ops Q rest (a.put o.dst undef) w) : wlC P ops Q (o :: rest) a w := by
  unfold wlC wpListIn
  rw [if_neg (by rw [hw]; simp)]
  exact ⟨fun _ _ => trivial, k⟩
theorem wlC_round {r : Nat} {fn : FuncId} {tmps : Array Value} {assign body : Code} {R : Ending → World → Prop} (hw : Region.wanted o (yielded ops a.tmps) = true) (hr : (execOp a.eval o).run P w = .ok (.round r fn tmps assign body) w) (h : RoundIn Fence.wide 0 P r fn tmps assign body w R)
    (k : ∀ e w', R e w' → ∃ v, e = .returned v ∧ wlC P ops Q rest (a.put o.dst v) w') : wlC P ops Q (o :: rest) a w := by
  unfold wlC wpListIn
  rw [if_pos hw]
  exact c_round hr h k
theorem wlC_nil (h : Q .normal a w) : wlC P ops Q [] a w := h
end
/-- the iterator's boxes, and the pool, among what is kept -/
structure ItZ (Z : List Ent) (b2 b3 p : Nat) (l : List En) (t : Int) : Prop where
  pl : PlR Z p l
  x2 : ∃ i : Nat, Z[i]? = some ⟨some b2, [.pointer (some ⟨p, 0, none⟩)], 24, 1⟩
  x3 : ∃ i : Nat, Z[i]? = some ⟨some b3, [.int .i64 t], 28, 1⟩
theorem get_push {Z : List Ent} {x : Ent} {i : Nat} (h : Z[i]? = some x) (A : List Ent) : (A ++ Z)[A.length + i]? = some x := by
  rw [List.getElem?_append_right (by omega)]; simpa using h
theorem ItZ.push {Z : List Ent} {b2 b3 p : Nat} {l : List En} {t : Int} (h : ItZ Z b2 b3 p l t) (A : List Ent) : ItZ (A ++ Z) b2 b3 p l t := by
  obtain ⟨hp, ⟨i, hi⟩, j, hj⟩ := h
  exact ⟨hp.push A, ⟨_, get_push hi A⟩, _, get_push hj A⟩
set_option maxHeartbeats 8000000 in
theorem Subs_seq {Z : List Ent} {b2 b3 p : Nat} {l : List En} {t : Int} (hl : l.length ≤ 65536) (hw : wfP l) (hz : ItZ Z b2 b3 p l t) :
    SeqG Try.prog 63 #[.pointer (some ⟨b2, 0, none⟩), .pointer (some ⟨b3, 0, none⟩)] (fun x : Int => #[.int .i64 x]) (subsP l t) Z := by
  intro l9 J Jx W hop hxg hY h0
  obtain ⟨w0, D, Z9, H, back⟩ := hop _ _ _ h0
  simp only [List.nil_append] at H
  obtain ⟨hp, ⟨i2, g2⟩, i3, g3⟩ := hz
  have HPL := Lib.hid (hp.push Z9)
  replace g2 := get_push g2 Z9
  replace g3 := get_push g3 Z9
  have HL := Lib.hid hl
  have HW := Lib.hid hw
  have HLN : Hid ((subsP l t).length ≤ 65536) := Lib.hid (Nat.le_trans (subs_good hw t).len hl)
  clear hl hw hp h0
  simp only [List.append_toArray, List.cons_append, List.nil_append]
  refine callsIn_of_wp Try.func63 rfl trivial ?_ rfl
  simp only [Try.ntmps63, List.size_toArray, List.length_cons, List.length_nil, Nat.reduceAdd, Nat.reduceSub, Array.replicate_succ, Array.replicate_zero, List.push_toArray, List.append_toArray, List.nil_append, List.cons_append]
  refine wpIn_seq (wpIn_wide.2 ?_)
  go_wp2_with (first
    | ((with_reducible refine gLd ?_); refine eLd H rfl rfl ?_; first | (refine kLd (Z9.length + i2) g2 rfl T24 rfl ?_) | (refine kLd (Z9.length + i3) g3 rfl T28 rfl ?_))
    | (go_at_call 64; (refine (subs_spec HL.out HW.out H HPL.out).mono ?_); rintro e w1 ⟨ar, c, rfl, H1⟩; clear H; have H := H1; clear H1; (try simp only []))
    | ((with_reducible refine gLd ?_); refine eLd H rfl rfl ?_; first | ((repeat ((with_reducible refine gEx ?_); first | (refine kLd 0 rfl rfl (by exact TU _ rfl) rfl ?_) | (refine kLdA 0 rfl rfl (by exact TU _ rfl) (Nat.le_of_ble_eq_true rfl) (by simp only [Nd.cells, Nd.zero, LS2]; rfl) ?_) | (refine nxL ?_))); fail_if_success (with_reducible refine gEx ?_)))
    | ((with_reducible refine gBx ?_); refine bxA H rfl rfl rfl ?_; clear H; intro b1 w1 H)
    | ((with_reducible refine gEq ?_); (first | (refine wl_cmp rfl rfl rfl rfl ?_) | (refine wl_scmp rfl rfl rfl rfl ?_)); intro rb hrb; cases rb <;> (first | (exfalso; simp at hrb; done) | ((try simp only [CS1, gt_iff_lt, ge_iff_le, ne_eq, Decidable.not_not] at hrb); (try subst hrb); (try (exfalso; omega)))))
    | ((with_reducible refine gRg ?_); refine wp_region_text rfl (by decide +kernel) ?_; replace H := H.drew)
    | ((with_reducible refine EndQ.intro ?_ ?_); (· kernel_rfl)))
  obtain ⟨full, hfull⟩ : ∃ f, subsP l t = f := ⟨_, rfl⟩
  rw [hfull] at HLN H hY ⊢
  clear hfull
  obtain ⟨n, hn⟩ : ∃ n, full.length = n := ⟨_, rfl⟩
  have HN := Lib.hid hn
  have hn6 : n ≤ 65536 := by rw [← hn]; exact HLN.out
  have hJ := back _ _ (Hp.swap (A := [_]) (B := Z9) H)
  rw [hn]
  clear H back HLN HPL g2 g3 w0 D Z9 hn
  refine wpIn_block ?_
  gi_loopg [10] n (fun g v10 wr => ∃ k : Nat, v10 = .int .i64 k ∧ k + g = n ∧ J [eOu ar c full] (full.take k) wr)
  case atStart => exact ⟨0, rfl, by omega, by simpa using hJ⟩
  case round =>
    clear hJ
    obtain ⟨k, rfl, hkg, hJ⟩ := hrel
    obtain ⟨w2, D2, A2, H2, back2⟩ := hop _ _ _ hJ
    have H := Hp.swap (A := A2) (B := [_]) H2
    simp only [List.cons_append, List.nil_append] at H
    clear H2 back2
    by_cases hk : k < n
    · have hkl : k < full.length := by rw [HN.out]; exact hk
      obtain ⟨x, hx⟩ : ∃ x, full[k]? = some x := ⟨_, List.getElem?_eq_getElem hkl⟩
      have HE : Hid ((full.map (Value.int .i64))[k]? = some (.int .i64 x)) := Lib.hid (by rw [List.getElem?_map, hx]; rfl)
      have HPO : Hid (full = full.take k ++ x :: full.drop (k + 1)) := Lib.hid (by
        obtain ⟨hlt, he⟩ := List.getElem?_eq_some_iff.1 hx
        rw [← he, ← List.drop_eq_getElem_cons hlt, List.take_append_drop])
      have HTK : Hid (full.take (k + 1) = full.take k ++ [x]) := Lib.hid (by
        obtain ⟨hlt, he⟩ := List.getElem?_eq_some_iff.1 hx
        rw [← he, List.take_succ_eq_append_getElem hlt])
      have hcap : n ≤ c := by have h5 := H.le (i := 0) rfl; dsimp only at h5; rw [List.length_map, HN.out] at h5; exact h5
      obtain ⟨ab, hab⟩ := H.some_of (i := 0) rfl (by dsimp only; rw [List.length_map]; omega)
      have hab : ar = some ab := hab
      subst hab
      clear hx hkl
      refine wpIn_seq (wpIn_wide.2 ?_)
      go_wp2_with (first
    | ((with_reducible refine gLd ?_); refine eLd H rfl rfl ?_; first | ((repeat ((with_reducible refine gEx ?_); first | (refine kLd 0 rfl rfl (by exact TU _ rfl) rfl ?_) | (refine kLdA 0 rfl rfl (by exact TU _ rfl) (Nat.le_of_ble_eq_true rfl) (by simp only [Nd.cells, Nd.zero, LS2]; rfl) ?_) | (refine nxL ?_))); fail_if_success (with_reducible refine gEx ?_)))
    | ((with_reducible refine gBx ?_); refine bxA H rfl rfl rfl ?_; clear H; intro b1 w1 H)
    | ((with_reducible refine gEq ?_); (first | (refine wl_cmp rfl rfl rfl rfl ?_) | (refine wl_scmp rfl rfl rfl rfl ?_)); intro rb hrb; cases rb <;> (first | (exfalso; simp at hrb; done) | ((try simp only [CS1, gt_iff_lt, ge_iff_le, ne_eq, Decidable.not_not] at hrb); (try subst hrb); (try (exfalso; omega)))))
    | ((with_reducible refine gRg ?_); refine wp_region_text rfl (by decide +kernel) ?_; replace H := H.drew)
    | ((with_reducible refine EndQ.intro ?_ ?_); (· kernel_rfl)))
      (try simp only [Act.put, List.setIfInBounds_toArray, List.set_cons_succ, List.set_cons_zero])
      refine wpIn_seq (wpIn_cond_true rfl (wpIn_skip ?_))
      refine wpIn_seq (wpIn_block ?_)
      refine wpIn_seq (wpIn_wide.2 ?_)
      go_wp2_with (first
    | ((with_reducible refine gLd ?_); refine eLd H rfl rfl ?_; refine kLd 0 rfl rfl T28 HE.out ?_)
    | ((with_reducible refine gLd ?_); refine eLd H rfl rfl ?_; first | ((repeat ((with_reducible refine gEx ?_); first | (refine kLd 0 rfl rfl (by exact TU _ rfl) rfl ?_) | (refine kLdA 0 rfl rfl (by exact TU _ rfl) (Nat.le_of_ble_eq_true rfl) (by simp only [Nd.cells, Nd.zero, LS2]; rfl) ?_) | (refine nxL ?_))); fail_if_success (with_reducible refine gEx ?_)))
    | ((with_reducible refine gBx ?_); refine bxA H rfl rfl rfl ?_; clear H; intro b1 w1 H)
    | ((with_reducible refine gEq ?_); (first | (refine wl_cmp rfl rfl rfl rfl ?_) | (refine wl_scmp rfl rfl rfl rfl ?_)); intro rb hrb; cases rb <;> (first | (exfalso; simp at hrb; done) | ((try simp only [CS1, gt_iff_lt, ge_iff_le, ne_eq, Decidable.not_not] at hrb); (try subst hrb); (try (exfalso; omega)))))
    | ((with_reducible refine gRg ?_); refine wp_region_text rfl (by decide +kernel) ?_; replace H := H.drew)
    | ((with_reducible refine EndQ.intro ?_ ?_); (· kernel_rfl)))
      (try simp only [Act.put, List.setIfInBounds_toArray, List.set_cons_succ, List.set_cons_zero])
      refine wpIn_seq (wlC_region ?_)
      iterate 2 (refine wlC_run rfl (by go_simp; first | rfl | exact ⟨rfl, rfl⟩) ?_; (try simp only [Act.put, List.setIfInBounds_toArray, List.set_cons_succ, List.set_cons_zero]))
      obtain ⟨fn, tmps, assign, body, hy, hRd⟩ := hY _ _ _ _ _ HPO.out hJ
      refine wlC_round rfl (by go_simp; try exact hy) hRd ?_
      rintro e W2 (⟨rfl, hJ2⟩ | ⟨rfl, hx2⟩)
      · refine ⟨_, rfl, ?_⟩; (try simp only [Act.put, List.setIfInBounds_toArray, List.set_cons_succ, List.set_cons_zero])
        refine wlC_run rfl (by go_simp; first | rfl | exact ⟨rfl, rfl⟩) ?_; (try simp only [Act.put, List.setIfInBounds_toArray, List.set_cons_succ, List.set_cons_zero])
        refine wlC_nil ?_
        refine wpIn_cond_false rfl (wpIn_skip ?_)
        refine wpIn_wide.2 ?_
        go_wp2_with (first
    | ((with_reducible refine gLd ?_); refine eLd H rfl rfl ?_; first | ((repeat ((with_reducible refine gEx ?_); first | (refine kLd 0 rfl rfl (by exact TU _ rfl) rfl ?_) | (refine kLdA 0 rfl rfl (by exact TU _ rfl) (Nat.le_of_ble_eq_true rfl) (by simp only [Nd.cells, Nd.zero, LS2]; rfl) ?_) | (refine nxL ?_))); fail_if_success (with_reducible refine gEx ?_)))
    | ((with_reducible refine gBx ?_); refine bxA H rfl rfl rfl ?_; clear H; intro b1 w1 H)
    | ((with_reducible refine gEq ?_); (first | (refine wl_cmp rfl rfl rfl rfl ?_) | (refine wl_scmp rfl rfl rfl rfl ?_)); intro rb hrb; cases rb <;> (first | (exfalso; simp at hrb; done) | ((try simp only [CS1, gt_iff_lt, ge_iff_le, ne_eq, Decidable.not_not] at hrb); (try subst hrb); (try (exfalso; omega)))))
    | ((with_reducible refine gRg ?_); refine wp_region_text rfl (by decide +kernel) ?_; replace H := H.drew)
    | ((with_reducible refine EndQ.intro ?_ ?_); (· kernel_rfl)))
        go_roundg (gk - 1)
        case measure => omega
        case rel => exact ⟨k + 1, by go_num, by omega, by rw [HTK.out]; exact hJ2⟩
      · refine ⟨_, rfl, ?_⟩; (try simp only [Act.put, List.setIfInBounds_toArray, List.set_cons_succ, List.set_cons_zero])
        refine wlC_run rfl (by go_simp; first | rfl | exact ⟨rfl, rfl⟩) ?_; (try simp only [Act.put, List.setIfInBounds_toArray, List.set_cons_succ, List.set_cons_zero])
        refine wlC_nil ?_
        refine wpIn_wide.2 ?_
        go_wp2_with (first
    | ((with_reducible refine gLd ?_); refine eLd H rfl rfl ?_; first | ((repeat ((with_reducible refine gEx ?_); first | (refine kLd 0 rfl rfl (by exact TU _ rfl) rfl ?_) | (refine kLdA 0 rfl rfl (by exact TU _ rfl) (Nat.le_of_ble_eq_true rfl) (by simp only [Nd.cells, Nd.zero, LS2]; rfl) ?_) | (refine nxL ?_))); fail_if_success (with_reducible refine gEx ?_)))
    | ((with_reducible refine gBx ?_); refine bxA H rfl rfl rfl ?_; clear H; intro b1 w1 H)
    | ((with_reducible refine gEq ?_); (first | (refine wl_cmp rfl rfl rfl rfl ?_) | (refine wl_scmp rfl rfl rfl rfl ?_)); intro rb hrb; cases rb <;> (first | (exfalso; simp at hrb; done) | ((try simp only [CS1, gt_iff_lt, ge_iff_le, ne_eq, Decidable.not_not] at hrb); (try subst hrb); (try (exfalso; omega)))))
    | ((with_reducible refine gRg ?_); refine wp_region_text rfl (by decide +kernel) ?_; replace H := H.drew)
    | ((with_reducible refine EndQ.intro ?_ ?_); (· kernel_rfl)))
        refine end_retn rfl ?_
        refine ⟨⟨_, rfl⟩, .inr ⟨_, ?_, hx2⟩⟩
        exact ⟨full.drop (k + 1), by rw [List.append_assoc]; exact HPO.out⟩
    · obtain rfl : n = k := by omega
      refine wpIn_wide.2 ?_
      go_wp2_with (first
    | ((with_reducible refine gLd ?_); refine eLd H rfl rfl ?_; first | ((repeat ((with_reducible refine gEx ?_); first | (refine kLd 0 rfl rfl (by exact TU _ rfl) rfl ?_) | (refine kLdA 0 rfl rfl (by exact TU _ rfl) (Nat.le_of_ble_eq_true rfl) (by simp only [Nd.cells, Nd.zero, LS2]; rfl) ?_) | (refine nxL ?_))); fail_if_success (with_reducible refine gEx ?_)))
    | ((with_reducible refine gBx ?_); refine bxA H rfl rfl rfl ?_; clear H; intro b1 w1 H)
    | ((with_reducible refine gEq ?_); (first | (refine wl_cmp rfl rfl rfl rfl ?_) | (refine wl_scmp rfl rfl rfl rfl ?_)); intro rb hrb; cases rb <;> (first | (exfalso; simp at hrb; done) | ((try simp only [CS1, gt_iff_lt, ge_iff_le, ne_eq, Decidable.not_not] at hrb); (try subst hrb); (try (exfalso; omega)))))
    | ((with_reducible refine gRg ?_); refine wp_region_text rfl (by decide +kernel) ?_; replace H := H.drew)
    | ((with_reducible refine EndQ.intro ?_ ?_); (· kernel_rfl)))
      go_end0
      refine ⟨⟨_, rfl⟩, .inl ⟨[eOu ar c full], ?_⟩⟩
      rw [List.take_of_length_le (by rw [HN.out]; exact Nat.le_refl _)] at hJ
      exact hJ
end Go.Proofs.Ytebecelhcpljaaa
