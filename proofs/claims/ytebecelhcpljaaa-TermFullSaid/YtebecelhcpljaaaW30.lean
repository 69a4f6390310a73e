/- cut, of both pools. -/
import Derived.Test.YtebecelhcpljaaaW25
import Derived.Test.YtebecelhcpljaaaMpD
import Derived.Test.YtebecelhcpljaaaGxSl
import Derived.Deep.Cut
import Derived.WalkKit
import Derived.Lib.Hide
import Derived.Deep.LoopGhost
import Derived.WalkSpells
set_option linter.unusedVariables false
set_option linter.unusedSimpArgs false
namespace Go.Proofs.Ytebecelhcpljaaa
open Go.RowKit Go.Gx Go.Gx.Trm
set_option maxRecDepth 100000
end Go.Proofs.Ytebecelhcpljaaa
section
open Go.Proofs.Ytebecelhcpljaaa
open Go.RowKit Go.Gx Go.Gx.Trm
set_option maxRecDepth 100000
theorem Go.Gx.Hp.short {w0 w : World} {D : Nat → Prop} {L : List Ent} (H : Hp w0 D L w) (i : Nat) {x : Ent} (hi : L[i]? = some x) (m : Nat) : Hp w0 D (L.set i ⟨x.a, x.xs.take m, x.e, x.N⟩) w := by
  refine H.upd hi rfl rfl rfl (Nat.le_refl _) (fun _ _ _ => rfl) ?_ (.inl rfl)
  have h := H.ents i x hi
  unfold Ent.at at h ⊢
  cases hx : x.a with
  | none => rw [hx] at h; simp only [] at h ⊢; rw [h.1, h.2]; simp
  | some b =>
    rw [hx] at h
    simp only [] at h ⊢
    obtain ⟨cur, h1, h2, h3⟩ := h
    refine ⟨cur, h1, h2, ?_⟩
    have e : x.xs.take m = (cur.toList.take x.xs.length).take m := by rw [h3]
    rw [e, List.take_take, List.length_take, ← List.take_take, List.take_length]
end
namespace Go.Proofs.Ytebecelhcpljaaa
open Go.RowKit Go.Gx Go.Gx.Trm
set_option maxRecDepth 100000
theorem end_none {P : Program} {fn : Func} {R : Ending → World → Prop} {ts : Array Value} {w : World} (h : fn.results = #[]) (k : R (.returned (.tuple #[])) w) : bodyPost P fn R .normal ⟨ts, []⟩ w := ⟨rfl, _, results_none h ts P w, k⟩
theorem slice_lo0 {P : Program} {t e : TypeId} {z : Value} {sz by_ : Nat} (ht : sI P t = some (e, z, sz, by_)) (l : Option Nat) (cap n : Nat) (hc : n ≤ cap) :
    ∃ (x : Option Addr) (c : Nat), ∀ w, (Instr.sliceAt t (.slice (adr l 0) n cap) (some (.int .i64 (n : Int))) none none).run P w = .ok (.slice x 0 c) w := by
  obtain ⟨hu, i, hi, hz, hs, hb, _⟩ := sI_spec ht
  have hel : P.underlying t = some (.slice (P.elem t)) := by
    have : P.elem t = e := by simp [Program.elem, hu]
    rw [this]; exact hu
  have hie : P.elem t = e := by simp [Program.elem, hu]
  refine ⟨(if cap = n then adr l 0 else (adr l 0).map (·.add (n * i.size))), cap - n, fun w => ?_⟩
  rw [run_sliceAt_slice w t _ _ _ _ hel, run_slice_l w t (adr l 0) n cap hel .i64 n (by omega) (by omega), hie]
  simp only [sizeOf, typeInfo, Sem.run_bind, hi]
  simp [sliced, hi]
theorem rowsE_take : ∀ (l m : List En), (rowsE (l ++ m)).take (rowsE l).length = rowsE l := fun l m => by
  have h : rowsE (l ++ m) = rowsE l ++ rowsE m := by simp [rowsE]
  rw [h, List.take_left' rfl]
theorem rowsN_take : ∀ (l m : List Nd), (rowsN (l ++ m)).take (rowsN l).length = rowsN l := fun l m => by
  have h : rowsN (l ++ m) = rowsN l ++ rowsN m := by simp [rowsN]
  rw [h, List.take_left' rfl]
theorem rowsE_pick {l : List En} {k : Nat} {p : En} (h : l[k]? = some p) : ((rowsE l).drop (k * 9)).take 9 = p.cells := by
  rw [rowsE_drop]
  obtain ⟨hlt, rfl⟩ := List.getElem?_eq_some_iff.1 h
  rw [List.drop_eq_getElem_cons hlt]
  have : rowsE (l[k] :: l.drop (k + 1)) = l[k].cells ++ rowsE (l.drop (k + 1)) := List.flatMap_cons
  rw [this]; simp [En.cells, Nd.cells]
theorem Z88 : zI Try.prog 88 = some (.agg (List.toArray [.int .i64 0, .int .i64 0, .int .i64 0, .int .u64 0, .string ⟨#[]⟩, .int .i64 0, .int .i64 0, .int .i64 0, .int .i64 0])) := by kernel_rfl
set_option maxHeartbeats 8000000 in
theorem cut_none {W w : World} {E : Nat → Prop} {M : List (Nat × List (Value × Value))} {L : List Ent} {p : Nat} {l0 : List En} (h0 : Pl W E M L p l0 w) (hl : l0.length ≤ 65536) : Calls Try.prog 57 #[.pointer (some ⟨p, 0, none⟩), .int .i64 (l0.length : Int)] w fun e w' => e = .returned (.tuple #[]) ∧ Pl W E M L p l0 w' := by
  obtain ⟨mb, a, c, hg⟩ := h0
  obtain ⟨w0, D, H, back⟩ := hg.open
  clear hg
  obtain ⟨n, hn⟩ : ∃ n, l0.length = n := ⟨_, rfl⟩
  have hc : n ≤ c := by have h9 := H.le (i := 1) rfl; dsimp only at h9; rw [rowsE_length, hn] at h9; omega
  have HN := Lib.hid hn
  have hn6 : (n : Int) ≤ 65536 := by omega
  obtain ⟨x9, c9, h9⟩ := slice_lo0 S79 a c n hc
  have HSL := Lib.hid h9
  have H0 : Hp w0 D (⟨some p, [.slice (adr a 0) n c, .map (some mb)], 81, 2⟩ :: eE a c l0 :: L) w := by rw [← hn]; exact H
  rw [hn]
  clear hn hl h9 H
  have H := H0
  clear H0
  go_enter Try.func57, Try.ntmps57
  go_wp2_with (first
    | ((with_reducible refine gSl ?_); refine wl_sl (v := .slice x9 0 c9) rfl HSL.out ?_)
    | ((with_reducible refine gLd ?_); refine eLd H rfl rfl ?_; first | ((repeat ((with_reducible refine gEx ?_); first | (refine kLd 0 rfl rfl (by exact TT _ rfl) rfl ?_) | (refine kLdA 0 rfl rfl (by exact TT _ rfl) (Nat.le_of_ble_eq_true rfl) (by simp only [Nd.cells, Nd.zero, LS2]; rfl) ?_) | (refine nxL ?_))); fail_if_success (with_reducible refine gEx ?_)))
    | ((with_reducible refine gSt ?_); (first | (refine eSt H rfl rfl ⟨.int _ _, rfl, ?_⟩) | (refine eSt H rfl rfl ⟨.bool _, rfl, ?_⟩) | (refine eSt H rfl rfl ⟨.slice _ _ _, rfl, ?_⟩) | (refine eSt H rfl rfl ⟨.pointer _, rfl, ?_⟩) | (refine eSt H rfl rfl ⟨.string _, rfl, ?_⟩) | (refine eSt H rfl rfl ⟨.agg (List.toArray _), rfl, ?_⟩)); (first | ((repeat ((with_reducible refine gES ?_); first | (refine kSt 0 rfl rfl (by exact TT _ rfl) rfl (Nat.le_of_ble_eq_true rfl) ?_) | (refine kStA 0 rfl rfl (by exact TT _ rfl) rfl rfl (Nat.le_of_ble_eq_true rfl) ?_) | (refine nxS ?_))); fail_if_success (with_reducible refine gES ?_))); clear H; intro w1 H; simp only [List.set_cons_zero, List.set_cons_succ] at H; (try simp only [lay, LS1, Nat.reduceAdd] at H))
    | ((with_reducible refine gBx ?_); refine bxA H rfl rfl rfl ?_; clear H; intro b1 w1 H)
    | ((with_reducible refine gBs ?_); (first | (refine bs1 H rfl (by exact SS _ rfl) rfl (Nat.le_of_ble_eq_true rfl) (Nat.le_of_ble_eq_true rfl) rfl ?_) | (refine wl_buildSlice0 rfl (by exact SS _ rfl) H ?_)); clear H; intro b1 w1 H)
    | ((with_reducible refine gEq ?_); (first | (refine wl_cmp rfl rfl rfl rfl ?_) | (refine wl_scmp rfl rfl rfl rfl ?_)); intro rb hrb; cases rb <;> (first | (exfalso; simp at hrb; done) | ((try simp only [CS1, gt_iff_lt, ge_iff_le, ne_eq, Decidable.not_not] at hrb); (try subst hrb); (try (exfalso; omega)))))
    | ((with_reducible refine gRg ?_); refine wp_region_text rfl (by decide +kernel) ?_; replace H := H.drew)
    | ((with_reducible refine EndQ.intro ?_ ?_); (· kernel_rfl)))
  go_loopg [13] 0 (fun g v13 wr => v13 = .int .i64 0 ∧ Hp w0 D (⟨some p, [.slice (adr a 0) n c, .map (some mb)], 81, 2⟩ :: eE a c l0 :: L) wr)
  case atStart => exact ⟨rfl, H⟩
  case round =>
    clear H
    obtain ⟨rfl, H⟩ := hrel
    go_wp2_with (first
    | ((with_reducible refine gSl ?_); refine wl_sl (v := .slice (adr a 0) n c) rfl (fun w => slice_hi S79 a 0 n c n .i64 (by omega) w) ?_)
    | ((with_reducible refine gLd ?_); refine eLd H rfl rfl ?_; first | ((repeat ((with_reducible refine gEx ?_); first | (refine kLd 0 rfl rfl (by exact TT _ rfl) rfl ?_) | (refine kLdA 0 rfl rfl (by exact TT _ rfl) (Nat.le_of_ble_eq_true rfl) (by simp only [Nd.cells, Nd.zero, LS2]; rfl) ?_) | (refine nxL ?_))); fail_if_success (with_reducible refine gEx ?_)))
    | ((with_reducible refine gSt ?_); (first | (refine eSt H rfl rfl ⟨.int _ _, rfl, ?_⟩) | (refine eSt H rfl rfl ⟨.bool _, rfl, ?_⟩) | (refine eSt H rfl rfl ⟨.slice _ _ _, rfl, ?_⟩) | (refine eSt H rfl rfl ⟨.pointer _, rfl, ?_⟩) | (refine eSt H rfl rfl ⟨.string _, rfl, ?_⟩) | (refine eSt H rfl rfl ⟨.agg (List.toArray _), rfl, ?_⟩)); (first | ((repeat ((with_reducible refine gES ?_); first | (refine kSt 0 rfl rfl (by exact TT _ rfl) rfl (Nat.le_of_ble_eq_true rfl) ?_) | (refine kStA 0 rfl rfl (by exact TT _ rfl) rfl rfl (Nat.le_of_ble_eq_true rfl) ?_) | (refine nxS ?_))); fail_if_success (with_reducible refine gES ?_))); clear H; intro w1 H; simp only [List.set_cons_zero, List.set_cons_succ] at H; (try simp only [lay, LS1, Nat.reduceAdd] at H))
    | ((with_reducible refine gBx ?_); refine bxA H rfl rfl rfl ?_; clear H; intro b1 w1 H)
    | ((with_reducible refine gBs ?_); (first | (refine bs1 H rfl (by exact SS _ rfl) rfl (Nat.le_of_ble_eq_true rfl) (Nat.le_of_ble_eq_true rfl) rfl ?_) | (refine wl_buildSlice0 rfl (by exact SS _ rfl) H ?_)); clear H; intro b1 w1 H)
    | ((with_reducible refine gEq ?_); (first | (refine wl_cmp rfl rfl rfl rfl ?_) | (refine wl_scmp rfl rfl rfl rfl ?_)); intro rb hrb; cases rb <;> (first | (exfalso; simp at hrb; done) | ((try simp only [CS1, gt_iff_lt, ge_iff_le, ne_eq, Decidable.not_not] at hrb); (try subst hrb); (try (exfalso; omega)))))
    | ((with_reducible refine gRg ?_); refine wp_region_text rfl (by decide +kernel) ?_; replace H := H.drew)
    | ((with_reducible refine EndQ.intro ?_ ?_); (· kernel_rfl)))
    exact end_none rfl ⟨rfl, mb, a, c, back _ _ (by rw [← HN.out] at H; exact H)⟩
set_option maxHeartbeats 8000000 in
theorem cut_some {W w : World} {E : Nat → Prop} {M : List (Nat × List (Value × Value))} {L : List Ent} {p : Nat} {l0 m : List En} (h0 : Pl W E M L p (l0 ++ m) w) (hl : (l0 ++ m).length ≤ 65536) (hm : 0 < m.length) (hd : ∀ e ∈ m, ∀ e' ∈ l0, ¬ e'.n = e.n) : Calls Try.prog 57 #[.pointer (some ⟨p, 0, none⟩), .int .i64 (l0.length : Int)] w fun e w' => e = .returned (.tuple #[]) ∧ Pl W E M L p l0 w' := by
  obtain ⟨mb, a, c, hg⟩ := h0
  obtain ⟨N, hN⟩ : ∃ N, (l0 ++ m).length = N := ⟨_, rfl⟩
  obtain ⟨n, hn⟩ : ∃ n, l0.length = n := ⟨_, rfl⟩
  obtain ⟨mn, hmn⟩ : ∃ n, m.length = n := ⟨_, rfl⟩
  have hNn : n + mn = N := by rw [List.length_append] at hN; omega
  obtain ⟨ab, rfl⟩ : ∃ ab, a = some ab := by
    obtain ⟨w0, D, H, back⟩ := hg.open
    obtain ⟨b, hb⟩ := H.some_of (i := 1) rfl (by dsimp only; rw [rowsE_length]; omega)
    exact ⟨b, hb⟩
  have hg2 : Hg W E ((mb, kvp (kvN l0 0 ++ kvN m n)) :: M) (⟨some p, [.slice (some ⟨ab, 0, none⟩) N c, .map (some mb)], 81, 2⟩ :: ⟨some ab, rowsE (l0 ++ m), 88, c * 9⟩ :: L) w := by
    have h9 := hg
    rw [kvF_N, kvN_app, Nat.zero_add, hn] at h9
    simp only [eP, eE, hN] at h9
    exact h9
  obtain ⟨w0, D, H, back⟩ := hg2.open
  have hc : N ≤ c := by have h9 := H.le (i := 1) rfl; dsimp only at h9; rw [rowsE_length, hN] at h9; omega
  have HSL := Lib.hid (slice_lo S79 (some ab) N c n .i64 (by omega) (by omega))
  rw [show N - n = mn by omega] at HSL
  have HNl := Lib.hid hn
  have HMl := Lib.hid hmn
  have HD := Lib.hid hd
  have HNN := Lib.hid hN
  rw [hn]
  have hN6 : (N : Int) ≤ 65536 := by omega
  have hni : (n : Int) + mn = N := by omega
  clear hg hg2 hN hl hd
  clear hn hmn
  go_enter Try.func57, Try.ntmps57
  go_wp2_with (first
    | ((with_reducible refine gSl ?_); refine wl_sl (v := .slice (adr (some ab) (n * 9)) mn (c - n)) rfl HSL.out ?_)
    | ((with_reducible refine gLd ?_); refine eLd H rfl rfl ?_; first | ((repeat ((with_reducible refine gEx ?_); first | (refine kLd 0 rfl rfl (by exact TT _ rfl) rfl ?_) | (refine kLdA 0 rfl rfl (by exact TT _ rfl) (Nat.le_of_ble_eq_true rfl) (by simp only [Nd.cells, Nd.zero, LS2]; rfl) ?_) | (refine nxL ?_))); fail_if_success (with_reducible refine gEx ?_)))
    | ((with_reducible refine gSt ?_); (first | (refine eSt H rfl rfl ⟨.int _ _, rfl, ?_⟩) | (refine eSt H rfl rfl ⟨.bool _, rfl, ?_⟩) | (refine eSt H rfl rfl ⟨.slice _ _ _, rfl, ?_⟩) | (refine eSt H rfl rfl ⟨.pointer _, rfl, ?_⟩) | (refine eSt H rfl rfl ⟨.string _, rfl, ?_⟩) | (refine eSt H rfl rfl ⟨.agg (List.toArray _), rfl, ?_⟩)); (first | ((repeat ((with_reducible refine gES ?_); first | (refine kSt 0 rfl rfl (by exact TT _ rfl) rfl (Nat.le_of_ble_eq_true rfl) ?_) | (refine kStA 0 rfl rfl (by exact TT _ rfl) rfl rfl (Nat.le_of_ble_eq_true rfl) ?_) | (refine nxS ?_))); fail_if_success (with_reducible refine gES ?_))); clear H; intro w1 H; simp only [List.set_cons_zero, List.set_cons_succ] at H; (try simp only [lay, LS1, Nat.reduceAdd] at H))
    | ((with_reducible refine gBx ?_); refine bxA H rfl rfl rfl ?_; clear H; intro b1 w1 H)
    | ((with_reducible refine gBs ?_); (first | (refine bs1 H rfl (by exact SS _ rfl) rfl (Nat.le_of_ble_eq_true rfl) (Nat.le_of_ble_eq_true rfl) rfl ?_) | (refine wl_buildSlice0 rfl (by exact SS _ rfl) H ?_)); clear H; intro b1 w1 H)
    | ((with_reducible refine gEq ?_); (first | (refine wl_cmp rfl rfl rfl rfl ?_) | (refine wl_scmp rfl rfl rfl rfl ?_)); intro rb hrb; cases rb <;> (first | (exfalso; simp at hrb; done) | ((try simp only [CS1, gt_iff_lt, ge_iff_le, ne_eq, Decidable.not_not] at hrb); (try subst hrb); (try (exfalso; omega)))))
    | ((with_reducible refine gRg ?_); refine wp_region_text rfl (by decide +kernel) ?_; replace H := H.drew)
    | ((with_reducible refine EndQ.intro ?_ ?_); (· kernel_rfl)))
  have hg3 : Hg W E ((mb, kvp (kvN l0 0 ++ kvN (m.drop 0) (n + 0))) :: M) (⟨some p, [.slice (some ⟨ab, 0, none⟩) N c, .map (some mb)], 81, 2⟩ :: ⟨some ab, rowsE (l0 ++ m), 88, c * 9⟩ :: L) _ := back _ _ H
  clear H back
  go_loopg [13] mn (fun g v13 wr => ∃ k : Nat, v13 = .int .i64 (k : Int) ∧ k + g = mn ∧ Hg W E ((mb, kvp (kvN l0 0 ++ kvN (m.drop k) (n + k))) :: M) (⟨some p, [.slice (some ⟨ab, 0, none⟩) N c, .map (some mb)], 81, 2⟩ :: ⟨some ab, rowsE (l0 ++ m), 88, c * 9⟩ :: L) wr)
  case atStart => exact ⟨0, rfl, by omega, hg3⟩
  case round =>
    clear hg3
    obtain ⟨k, rfl, hkg, hg⟩ := hrel
    have HKG := Lib.hid hkg
    by_cases hk : k < mn
    · obtain ⟨x, hx⟩ : ∃ x, m[k]? = some x := ⟨_, List.getElem?_eq_getElem (by rw [HMl.out]; exact hk)⟩
      have hx2 : (l0 ++ m)[n + k]? = some x := by rw [List.getElem?_append_right (by rw [HNl.out]; omega), HNl.out]; simpa using hx
      have hdr : m.drop k = x :: m.drop (k + 1) := by
        obtain ⟨hlt, he⟩ := List.getElem?_eq_some_iff.1 hx
        rw [List.drop_eq_getElem_cons hlt, he]
      have hno := HD.out x (List.mem_of_getElem? hx)
      obtain ⟨⟨x1, x2, x3, x4, x5, x6, x7⟩, x8, x9⟩ := x
      have HNO : Hid (∀ p ∈ kvN l0 0, ¬ p.1 = (⟨x1, x2, x3, x4, x5, x6, x7⟩ : Nd)) := Lib.hid (fun p hp => by
        obtain ⟨e, he1, he2⟩ := kvN_mem hp
        rw [← he2]; exact hno e he1)
      have HPK := Lib.hid (rowsE_pick hx2)
      have HLE : Hid ((n * 9 + k * 9) + 9 ≤ (rowsE (l0 ++ m)).length) := Lib.hid (by rw [rowsE_length, HNN.out]; omega)
      rw [show (n + k) * 9 = n * 9 + k * 9 by omega] at HPK
      have HM0 : ∀ M' : List (Nat × List (Value × Value)), Hid ((((mb, kvp (kvN l0 0 ++ kvN (m.drop k) (n + k))) : Nat × List (Value × Value)) :: M')[0]? = some (mb, kvp (kvN l0 0 ++ ((⟨x1, x2, x3, x4, x5, x6, x7⟩ : Nd), Value.int .i64 (((n + k : Nat) : Int) + 1)) :: kvN (m.drop (k + 1)) (n + k + 1)))) := fun M' => Lib.hid (by rw [hdr]; rfl)
      have HM0 := HM0 M
      obtain ⟨w0, D, H, back⟩ := hg.open
      clear hx hx2 hdr hno hkg hg
      go_wp2_with (first
    | ((with_reducible refine gLd ?_); refine eLd H rfl rfl ?_; refine kLdA 1 rfl rfl T88 HLE.out HPK.out ?_; (try simp only [En.cells, Nd.cells, List.cons_append, List.nil_append]))
    | ((with_reducible refine gAl ?_); refine al H Z88 rfl rfl ?_; clear H; intro b5 w1 H)
    | ((with_reducible refine gDl ?_); refine wl_delN (n := ⟨x1, x2, x3, x4, x5, x6, x7⟩) (v := .int .i64 (((n + k : Nat) : Int) + 1)) (pre := kvN l0 0) (post := kvN (m.drop (k + 1)) (n + k + 1)) rfl rfl rfl (back _ _ H) 0 HM0.out HNO.out ?_; clear H back; intro w1 h1; simp only [List.set_cons_zero] at h1; obtain ⟨w0, D, H, back⟩ := h1.open; clear h1)
    | ((with_reducible refine gLd ?_); refine eLd H rfl rfl ?_; first | ((repeat ((with_reducible refine gEx ?_); first | (refine kLd 0 rfl rfl (by exact TT _ rfl) rfl ?_) | (refine kLdA 0 rfl rfl (by exact TT _ rfl) (Nat.le_of_ble_eq_true rfl) (by simp only [Nd.cells, Nd.zero, LS2]; rfl) ?_) | (refine nxL ?_))); fail_if_success (with_reducible refine gEx ?_)))
    | ((with_reducible refine gSt ?_); (first | (refine eSt H rfl rfl ⟨.int _ _, rfl, ?_⟩) | (refine eSt H rfl rfl ⟨.bool _, rfl, ?_⟩) | (refine eSt H rfl rfl ⟨.slice _ _ _, rfl, ?_⟩) | (refine eSt H rfl rfl ⟨.pointer _, rfl, ?_⟩) | (refine eSt H rfl rfl ⟨.string _, rfl, ?_⟩) | (refine eSt H rfl rfl ⟨.agg (List.toArray _), rfl, ?_⟩)); (first | ((repeat ((with_reducible refine gES ?_); first | (refine kSt 0 rfl rfl (by exact TT _ rfl) rfl (Nat.le_of_ble_eq_true rfl) ?_) | (refine kStA 0 rfl rfl (by exact TT _ rfl) rfl rfl (Nat.le_of_ble_eq_true rfl) ?_) | (refine nxS ?_))); fail_if_success (with_reducible refine gES ?_))); clear H; intro w1 H; simp only [List.set_cons_zero, List.set_cons_succ] at H; (try simp only [lay, LS1, Nat.reduceAdd] at H))
    | ((with_reducible refine gBx ?_); refine bxA H rfl rfl rfl ?_; clear H; intro b1 w1 H)
    | ((with_reducible refine gBs ?_); (first | (refine bs1 H rfl (by exact SS _ rfl) rfl (Nat.le_of_ble_eq_true rfl) (Nat.le_of_ble_eq_true rfl) rfl ?_) | (refine wl_buildSlice0 rfl (by exact SS _ rfl) H ?_)); clear H; intro b1 w1 H)
    | ((with_reducible refine gEq ?_); (first | (refine wl_cmp rfl rfl rfl rfl ?_) | (refine wl_scmp rfl rfl rfl rfl ?_)); intro rb hrb; cases rb <;> (first | (exfalso; simp at hrb; done) | ((try simp only [CS1, gt_iff_lt, ge_iff_le, ne_eq, Decidable.not_not] at hrb); (try subst hrb); (try (exfalso; omega)))))
    | ((with_reducible refine gRg ?_); refine wp_region_text rfl (by decide +kernel) ?_; replace H := H.drew)
    | ((with_reducible refine EndQ.intro ?_ ?_); (· kernel_rfl)))
      go_roundg (gk - 1)
      case measure => have := HKG.out; omega
      case rel => exact ⟨k + 1, by go_num, by have := HKG.out; omega, back _ _ H.drop⟩
    · obtain rfl : mn = k := by omega
      have hdn : m.drop mn = [] := List.drop_of_length_le (by rw [HMl.out]; exact Nat.le_refl _)
      rw [hdn] at hg
      obtain ⟨w0, D, H, back⟩ := hg.open
      clear hkg hg hdn
      go_wp2_with (first
    | ((with_reducible refine gSl ?_); refine wl_sl (v := .slice (some ⟨ab, 0, none⟩) n c) rfl (fun w => slice_hi S79 (some ab) 0 N c n .i64 (by omega) w) ?_)
    | ((with_reducible refine gLd ?_); refine eLd H rfl rfl ?_; first | ((repeat ((with_reducible refine gEx ?_); first | (refine kLd 0 rfl rfl (by exact TT _ rfl) rfl ?_) | (refine kLdA 0 rfl rfl (by exact TT _ rfl) (Nat.le_of_ble_eq_true rfl) (by simp only [Nd.cells, Nd.zero, LS2]; rfl) ?_) | (refine nxL ?_))); fail_if_success (with_reducible refine gEx ?_)))
    | ((with_reducible refine gSt ?_); (first | (refine eSt H rfl rfl ⟨.int _ _, rfl, ?_⟩) | (refine eSt H rfl rfl ⟨.bool _, rfl, ?_⟩) | (refine eSt H rfl rfl ⟨.slice _ _ _, rfl, ?_⟩) | (refine eSt H rfl rfl ⟨.pointer _, rfl, ?_⟩) | (refine eSt H rfl rfl ⟨.string _, rfl, ?_⟩) | (refine eSt H rfl rfl ⟨.agg (List.toArray _), rfl, ?_⟩)); (first | ((repeat ((with_reducible refine gES ?_); first | (refine kSt 0 rfl rfl (by exact TT _ rfl) rfl (Nat.le_of_ble_eq_true rfl) ?_) | (refine kStA 0 rfl rfl (by exact TT _ rfl) rfl rfl (Nat.le_of_ble_eq_true rfl) ?_) | (refine nxS ?_))); fail_if_success (with_reducible refine gES ?_))); clear H; intro w1 H; simp only [List.set_cons_zero, List.set_cons_succ] at H; (try simp only [lay, LS1, Nat.reduceAdd] at H))
    | ((with_reducible refine gBx ?_); refine bxA H rfl rfl rfl ?_; clear H; intro b1 w1 H)
    | ((with_reducible refine gBs ?_); (first | (refine bs1 H rfl (by exact SS _ rfl) rfl (Nat.le_of_ble_eq_true rfl) (Nat.le_of_ble_eq_true rfl) rfl ?_) | (refine wl_buildSlice0 rfl (by exact SS _ rfl) H ?_)); clear H; intro b1 w1 H)
    | ((with_reducible refine gEq ?_); (first | (refine wl_cmp rfl rfl rfl rfl ?_) | (refine wl_scmp rfl rfl rfl rfl ?_)); intro rb hrb; cases rb <;> (first | (exfalso; simp at hrb; done) | ((try simp only [CS1, gt_iff_lt, ge_iff_le, ne_eq, Decidable.not_not] at hrb); (try subst hrb); (try (exfalso; omega)))))
    | ((with_reducible refine gRg ?_); refine wp_region_text rfl (by decide +kernel) ?_; replace H := H.drew)
    | ((with_reducible refine EndQ.intro ?_ ?_); (· kernel_rfl)))
      refine end_none rfl ⟨rfl, mb, some ab, c, ?_⟩
      have h9 := Hp.short H 1 rfl (rowsE l0).length
      simp only [List.set_cons_zero, List.set_cons_succ, rowsE_take] at h9
      have h8 := back _ _ h9
      rw [kvF_N]
      simp only [eP, eE, HNl.out]
      simpa [kvN] using h8
theorem cut_spec {W w : World} {E : Nat → Prop} {M : List (Nat × List (Value × Value))} {L : List Ent} {p : Nat} {l0 m : List En} (h0 : Pl W E M L p (l0 ++ m) w) (hl : (l0 ++ m).length ≤ 65536) (hw : wfP (l0 ++ m)) : Calls Try.prog 57 #[.pointer (some ⟨p, 0, none⟩), .int .i64 (l0.length : Int)] w fun e w' => e = .returned (.tuple #[]) ∧ Pl W E M L p l0 w' := by
  by_cases hm : 0 < m.length
  · refine cut_some h0 hl hm fun e he e' he' hn => ?_
    obtain ⟨i, hi⟩ := List.getElem?_of_mem he
    obtain ⟨j, hj⟩ := List.getElem?_of_mem he'
    have hjl : j < l0.length := (List.getElem?_eq_some_iff.1 hj).1
    have h1 := (hw.wf (l0.length + i) e (by rw [List.getElem?_append_right (by omega)]; simpa using hi)).fi
    have h2 := (hw.wf j e' (by rw [List.getElem?_append_left hjl]; exact hj)).fi
    rw [hn, h1] at h2
    simp only [Option.some.injEq] at h2
    omega
  · have h9 : m = [] := List.eq_nil_of_length_eq_zero (by omega)
    subst h9
    rw [List.append_nil] at h0 hl
    exact cut_none h0 hl
end Go.Proofs.Ytebecelhcpljaaa
