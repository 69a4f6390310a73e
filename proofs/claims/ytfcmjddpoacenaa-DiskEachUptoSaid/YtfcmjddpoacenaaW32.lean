/- DiskEach: the iterator. -/
import Derived.Test.YtfcmjddpoacenaaTab
import Derived.Test.YtfcmjddpoacenaaGxRf2
import Derived.Test.YtfcmjddpoacenaaGxRfC
import Derived.Test.YtfcmjddpoacenaaEach
import Derived.Test.YtfcmjddpoacenaaGxRd
import Derived.Sort.LoopGhostIn
import Derived.TacticsInMore
import Derived.Shelf.Abstract
import Derived.WalkKit
import Derived.Lib.Hide
import Derived.Deep.LoopGhost
import Derived.WalkSpells
set_option linter.unusedVariables false
set_option linter.unusedSimpArgs false
namespace Go.Proofs.Ytfcmjddpoacenaa
open Go.RowKit Go.Gx Go.Gx.Dsk
set_option maxRecDepth 100000
attribute [local go_sem] Oper.semAt_some
theorem Rd_cells {w0 : World} {D : Nat → Prop} {R : List Ent} {q : Nat} {xs : List Value} (h : Rd w0 D R (some ⟨q, 0, none⟩) xs) : ∀ (L' : List Ent) (w' : World), Hp w0 D (L' ++ R) w' → ∀ (j : Nat) (v : Value), xs[j]? = some v → w'.cell? ⟨q, 0 + j, none⟩ = some v := by
  rcases h with h | ⟨b, o, e, h⟩
  · intro L' w' H j v hj; rw [h] at hj; simp at hj
  · cases e; exact h
section
variable {P : Program} {ops : Array Oper} {Q : Exit → Act → World → Prop} {a : Act} {w : World} {rest : List Oper} {o : Oper}
abbrev wlC (P : Program) (ops : Array Oper) (Q : Exit → Act → World → Prop) (l : List Oper) (a : Act) (w : World) : Prop := wpListIn Fence.wide 0 P ops (NQ Q) l a w
theorem wlC_region {id : Nat} {l : List Oper} (h : wlC P l.toArray Q l a w) : (Code.region id l.toArray false).wpIn Fence.wide 0 P Q a w :=
  Go.wpIn_mono (Q := NQ Q) (wpIn_region_lit h) (fun e a w hq => by cases e <;> first | exact hq | exact hq.elim)
theorem wlC_run {v : Value} {w' : World} (hw : Region.wanted o (yielded ops a.tmps) = true) (hr : (execOp a.eval o).run P w = .ok (.value v) w') (k : wlC P ops Q rest (a.put o.dst v) w') : wlC P ops Q (o :: rest) a w := by
  unfold wlC wpListIn
  rw [if_pos hw]
  exact c_run hr k
theorem wlC_skip (hw : Region.wanted o (yielded ops a.tmps) = false) (k : wlC P ops Q rest (a.put o.dst undef) w) : wlC P ops Q (o :: rest) a w := by
  unfold wlC wpListIn
  rw [if_neg (by rw [hw]; simp)]
  exact ⟨fun _ _ => trivial, k⟩
theorem wlC_round {r : Nat} {fn : FuncId} {tmps : Array Value} {assign body : Code} {R : Ending → World → Prop} (hw : Region.wanted o (yielded ops a.tmps) = true) (hr : (execOp a.eval o).run P w = .ok (.round r fn tmps assign body) w) (h : RoundIn Fence.wide 0 P r fn tmps assign body w R)
    (k : ∀ e w', R e w' → ∃ v, e = .returned v ∧ wlC P ops Q rest (a.put o.dst v) w') : wlC P ops Q (o :: rest) a w := by
  unfold wlC wpListIn
  rw [if_pos hw]
  exact c_round hr h k
theorem wlC_nil (h : Q .normal a w) : wlC P ops Q [] a w := h
end
theorem end_noneR {P : Program} {fn : Func} {R : Ending → World → Prop} {ts : Array Value} {w : World} (h : fn.results = #[]) (k : R (.returned (.tuple #[])) w) : bodyPost P fn R .ret ⟨ts, []⟩ w := ⟨rfl, _, results_none h ts P w, k⟩
theorem sne_run {w : World} {a : Act} {s t : ByteArray} {u ty : TypeId} {dst : Option Tmp} {x y : Operand} {pos : String} {af : Array Edge} {g : Option (Nat × Bool)} (hx : a.eval x = .string s) (hy : a.eval y = .string t) (hne : sEq s t = false) :
    (execOp a.eval ⟨dst, .binOp .neq 9 x y u, ty, pos, af, g⟩).run Try.prog w = .ok (.value (.bool true)) w := by
  have h : ¬ s = t := fun h => by rw [sEq_iff.2 h] at hne; cases hne
  exact run_scmp hx hy (by simp [scmpB]; exact fun e => h (sEq_iff.1 (by unfold sEq; rw [beq_iff_eq]; exact e)))
def EachI (im : List ByteArray) (J : List IB → World → Prop) (k : Nat) (w : World) : Prop := J (nz (im.take k) 0) w
set_option maxHeartbeats 4000000 in
theorem Each_seq {w0 : World} {D : Nat → Prop} {Z : List Ent} {bx c n : Nat} {x : Option Addr} {im : List ByteArray} (hbx : Rd w0 D Z (some ⟨bx, 0, none⟩) [.slice x n c]) (hX : Rd w0 D Z x (strs im)) (hn : im.length = n) (hs : n ≤ 1000) (hne : 0 < n) :
    SeqHp Try.prog 40 #[.pointer (some ⟨bx, 0, none⟩)] (fun x : IB => #[.int .i64 x.1, .string x.2]) (nz im 0) (fun u => Hp w0 D Z u) := by
  intro l J Jx W hJS hg hxg hY h0
  have H := hJS _ _ h0
  dsimp only at H
  have hB := Rd_cells hbx
  obtain ⟨ab, ao, rfl, hM⟩ := hX.some_of (by rw [strs_length]; omega)
  have HN := Lib.hid hn
  have hJ : J [] W.drew ∨ J [] W := .inr h0
  simp only [List.append_toArray, List.cons_append, List.nil_append]
  refine callsIn_of_wp Try.func40 rfl trivial ?_ rfl
  simp only [Try.ntmps40, List.size_toArray, List.length_cons, List.length_nil, Nat.reduceAdd, Nat.reduceSub, Array.replicate_succ, Array.replicate_zero, List.push_toArray, List.append_toArray, List.nil_append, List.cons_append]
  refine wpIn_seq (wpIn_wide.2 ?_)
  go_wp2_with (first
    | ((with_reducible refine gLd ?_); refine wl_loadR (k := 0) (hB [] _ H) rfl rfl rfl T33 rfl ?_)
    | ((with_reducible refine gLd ?_); refine eLd H rfl rfl ?_; first | (refine kLd 0 rfl rfl (by first | exact T3 | exact T4 | exact T9 | exact T23 | exact T31 | exact T33 | exact T45 | exact T37 | exact T50 | exact T72) rfl ?_) | (refine kLdA 0 rfl rfl (by first | exact T3 | exact T4 | exact T9 | exact T23 | exact T31 | exact T33 | exact T45 | exact T37 | exact T50 | exact T72) (Nat.le_of_ble_eq_true rfl) (by simp only [dkC, Wr.cells, bmt, eD, eS, eW, List.drop_succ_cons, List.drop_zero, List.take_succ_cons, List.take_zero, List.set_cons_zero, List.set_cons_succ]; rfl) ?_))
    | ((with_reducible refine gSt ?_); (first | (refine eSt H rfl rfl ⟨.int _ _, rfl, ?_⟩) | (refine eSt H rfl rfl ⟨.bool _, rfl, ?_⟩) | (refine eSt H rfl rfl ⟨.slice _ _ _, rfl, ?_⟩) | (refine eSt H rfl rfl ⟨.pointer _, rfl, ?_⟩) | (refine eSt H rfl rfl ⟨.string _, rfl, ?_⟩) | (refine eSt H rfl rfl ⟨.agg (List.toArray _), rfl, ?_⟩)); (first | (refine kSt 0 rfl rfl (by first | exact T3 | exact T4 | exact T9 | exact T23 | exact T31 | exact T33 | exact T45 | exact T37 | exact T50 | exact T72) rfl (Nat.le_of_ble_eq_true rfl) ?_) | (refine kStA 0 rfl rfl (by first | exact T3 | exact T4 | exact T9 | exact T23 | exact T31 | exact T33 | exact T45 | exact T37 | exact T50 | exact T72) rfl rfl (Nat.le_of_ble_eq_true rfl) ?_)); clear H; intro w1 H; simp only [List.set_cons_zero, List.set_cons_succ] at H; (try simp only [lay, List.take_zero, List.nil_append, List.length_cons, List.length_nil, Nat.zero_add, Nat.reduceAdd, List.drop_succ_cons, List.drop_zero, List.drop_nil, List.append_nil, List.take_succ_cons, List.cons_append] at H))
    | ((with_reducible refine gBx ?_); refine bxA H rfl rfl rfl ?_; clear H; intro b1 w1 H)
    | ((with_reducible refine gBs ?_); (first | (refine bs1 H rfl (by first | exact S33 | exact S45 | exact S31) rfl (Nat.le_of_ble_eq_true rfl) (Nat.le_of_ble_eq_true rfl) rfl ?_) | (refine wl_buildSlice0 rfl (by first | exact S33 | exact S45 | exact S31) H ?_)); clear H; intro b1 w1 H)
    | ((with_reducible refine gEq ?_); (first | (refine wl_cmp rfl rfl rfl rfl ?_) | (refine wl_scmp rfl rfl rfl rfl ?_)); intro rb hrb; cases rb <;> (first | (exfalso; simp at hrb; done) | ((try simp only [decide_eq_true_eq, decide_eq_false_iff_not, beq_iff_eq, beq_eq_false_iff_ne, ne_eq, bne_iff_ne, bne_eq_false_iff_eq, Bool.not_eq_true', Bool.not_eq_false', gt_iff_lt, ge_iff_le, Int.not_lt, Int.not_le, Decidable.not_not] at hrb); (try subst hrb); (try (exfalso; omega)))))
    | ((with_reducible refine gAl ?_); (first | (refine al H Z50 rfl rfl ?_) | (refine al H Z41 rfl rfl ?_)); clear H; intro b1 w1 H)
    | ((with_reducible refine gRg ?_); refine wp_region_text rfl (by decide +kernel) ?_; replace H := H.drew)
    | ((with_reducible refine EndQ.intro ?_ ?_); (· kernel_rfl)))
  refine wpIn_block ?_
  gi_loopg [7] n (fun g v7 wr => ∃ k : Nat, v7 = .int .i64 (k : Int) ∧ k + g = n ∧ J (nz (im.take k) 0) wr)
  case atStart => exact ⟨0, rfl, by omega, by simpa [nz] using h0⟩
  case round =>
    clear H h0 hJ
    obtain ⟨k, rfl, hkg, hJ⟩ := hrel
    have H := hJS _ _ hJ
    by_cases hk : k < n
    · have hkl : k < im.length := by rw [hn]; exact hk
      obtain ⟨b, hb⟩ : ∃ b, im[k]? = some b := ⟨_, List.getElem?_eq_getElem hkl⟩
      have HE := Lib.hid (strs_at hb)
      have htk := nz_take im 0 k b hb
      rw [Nat.zero_add] at htk
      cases hbe : sEq b bmt with
      | true =>
        obtain rfl := sEq_iff.1 hbe
        rw [hbe, if_pos rfl, List.append_nil] at htk
        refine wpIn_wide.2 ?_
        simp only [bmt] at HE
        go_wp2_with (first
    | ((with_reducible refine gLd ?_); refine wl_loadR (k := k) (hM [] _ H) rfl rfl (by first | rfl | omega) T9 HE.out ?_)
    | ((with_reducible refine gLd ?_); refine eLd H rfl rfl ?_; first | (refine kLd 0 rfl rfl (by first | exact T3 | exact T4 | exact T9 | exact T23 | exact T31 | exact T33 | exact T45 | exact T37 | exact T50 | exact T72) rfl ?_) | (refine kLdA 0 rfl rfl (by first | exact T3 | exact T4 | exact T9 | exact T23 | exact T31 | exact T33 | exact T45 | exact T37 | exact T50 | exact T72) (Nat.le_of_ble_eq_true rfl) (by simp only [dkC, Wr.cells, bmt, eD, eS, eW, List.drop_succ_cons, List.drop_zero, List.take_succ_cons, List.take_zero, List.set_cons_zero, List.set_cons_succ]; rfl) ?_))
    | ((with_reducible refine gSt ?_); (first | (refine eSt H rfl rfl ⟨.int _ _, rfl, ?_⟩) | (refine eSt H rfl rfl ⟨.bool _, rfl, ?_⟩) | (refine eSt H rfl rfl ⟨.slice _ _ _, rfl, ?_⟩) | (refine eSt H rfl rfl ⟨.pointer _, rfl, ?_⟩) | (refine eSt H rfl rfl ⟨.string _, rfl, ?_⟩) | (refine eSt H rfl rfl ⟨.agg (List.toArray _), rfl, ?_⟩)); (first | (refine kSt 0 rfl rfl (by first | exact T3 | exact T4 | exact T9 | exact T23 | exact T31 | exact T33 | exact T45 | exact T37 | exact T50 | exact T72) rfl (Nat.le_of_ble_eq_true rfl) ?_) | (refine kStA 0 rfl rfl (by first | exact T3 | exact T4 | exact T9 | exact T23 | exact T31 | exact T33 | exact T45 | exact T37 | exact T50 | exact T72) rfl rfl (Nat.le_of_ble_eq_true rfl) ?_)); clear H; intro w1 H; simp only [List.set_cons_zero, List.set_cons_succ] at H; (try simp only [lay, List.take_zero, List.nil_append, List.length_cons, List.length_nil, Nat.zero_add, Nat.reduceAdd, List.drop_succ_cons, List.drop_zero, List.drop_nil, List.append_nil, List.take_succ_cons, List.cons_append] at H))
    | ((with_reducible refine gBx ?_); refine bxA H rfl rfl rfl ?_; clear H; intro b1 w1 H)
    | ((with_reducible refine gBs ?_); (first | (refine bs1 H rfl (by first | exact S33 | exact S45 | exact S31) rfl (Nat.le_of_ble_eq_true rfl) (Nat.le_of_ble_eq_true rfl) rfl ?_) | (refine wl_buildSlice0 rfl (by first | exact S33 | exact S45 | exact S31) H ?_)); clear H; intro b1 w1 H)
    | ((with_reducible refine gEq ?_); (first | (refine wl_cmp rfl rfl rfl rfl ?_) | (refine wl_scmp rfl rfl rfl rfl ?_)); intro rb hrb; cases rb <;> (first | (exfalso; simp at hrb; done) | ((try simp only [decide_eq_true_eq, decide_eq_false_iff_not, beq_iff_eq, beq_eq_false_iff_ne, ne_eq, bne_iff_ne, bne_eq_false_iff_eq, Bool.not_eq_true', Bool.not_eq_false', gt_iff_lt, ge_iff_le, Int.not_lt, Int.not_le, Decidable.not_not] at hrb); (try subst hrb); (try (exfalso; omega)))))
    | ((with_reducible refine gAl ?_); (first | (refine al H Z50 rfl rfl ?_) | (refine al H Z41 rfl rfl ?_)); clear H; intro b1 w1 H)
    | ((with_reducible refine gRg ?_); refine wp_region_text rfl (by decide +kernel) ?_; replace H := H.drew)
    | ((with_reducible refine EndQ.intro ?_ ?_); (· kernel_rfl)))
        go_roundg (gk - 1)
        case measure => omega
        case rel => exact ⟨k + 1, by go_num, by omega, by rw [htk]; exact hJ⟩
      | false =>
        rw [hbe, if_neg (by simp)] at htk
        refine wpIn_seq (wpIn_wide.2 ?_)
        go_wp2_with (first
    | ((with_reducible refine gLd ?_); refine eLd H rfl rfl ?_; first | (refine kLd 0 rfl rfl (by first | exact T3 | exact T4 | exact T9 | exact T23 | exact T31 | exact T33 | exact T45 | exact T37 | exact T50 | exact T72) rfl ?_) | (refine kLdA 0 rfl rfl (by first | exact T3 | exact T4 | exact T9 | exact T23 | exact T31 | exact T33 | exact T45 | exact T37 | exact T50 | exact T72) (Nat.le_of_ble_eq_true rfl) (by simp only [dkC, Wr.cells, bmt, eD, eS, eW, List.drop_succ_cons, List.drop_zero, List.take_succ_cons, List.take_zero, List.set_cons_zero, List.set_cons_succ]; rfl) ?_))
    | ((with_reducible refine gSt ?_); (first | (refine eSt H rfl rfl ⟨.int _ _, rfl, ?_⟩) | (refine eSt H rfl rfl ⟨.bool _, rfl, ?_⟩) | (refine eSt H rfl rfl ⟨.slice _ _ _, rfl, ?_⟩) | (refine eSt H rfl rfl ⟨.pointer _, rfl, ?_⟩) | (refine eSt H rfl rfl ⟨.string _, rfl, ?_⟩) | (refine eSt H rfl rfl ⟨.agg (List.toArray _), rfl, ?_⟩)); (first | (refine kSt 0 rfl rfl (by first | exact T3 | exact T4 | exact T9 | exact T23 | exact T31 | exact T33 | exact T45 | exact T37 | exact T50 | exact T72) rfl (Nat.le_of_ble_eq_true rfl) ?_) | (refine kStA 0 rfl rfl (by first | exact T3 | exact T4 | exact T9 | exact T23 | exact T31 | exact T33 | exact T45 | exact T37 | exact T50 | exact T72) rfl rfl (Nat.le_of_ble_eq_true rfl) ?_)); clear H; intro w1 H; simp only [List.set_cons_zero, List.set_cons_succ] at H; (try simp only [lay, List.take_zero, List.nil_append, List.length_cons, List.length_nil, Nat.zero_add, Nat.reduceAdd, List.drop_succ_cons, List.drop_zero, List.drop_nil, List.append_nil, List.take_succ_cons, List.cons_append] at H))
    | ((with_reducible refine gBx ?_); refine bxA H rfl rfl rfl ?_; clear H; intro b1 w1 H)
    | ((with_reducible refine gBs ?_); (first | (refine bs1 H rfl (by first | exact S33 | exact S45 | exact S31) rfl (Nat.le_of_ble_eq_true rfl) (Nat.le_of_ble_eq_true rfl) rfl ?_) | (refine wl_buildSlice0 rfl (by first | exact S33 | exact S45 | exact S31) H ?_)); clear H; intro b1 w1 H)
    | ((with_reducible refine gEq ?_); (first | (refine wl_cmp rfl rfl rfl rfl ?_) | (refine wl_scmp rfl rfl rfl rfl ?_)); intro rb hrb; cases rb <;> (first | (exfalso; simp at hrb; done) | ((try simp only [decide_eq_true_eq, decide_eq_false_iff_not, beq_iff_eq, beq_eq_false_iff_ne, ne_eq, bne_iff_ne, bne_eq_false_iff_eq, Bool.not_eq_true', Bool.not_eq_false', gt_iff_lt, ge_iff_le, Int.not_lt, Int.not_le, Decidable.not_not] at hrb); (try subst hrb); (try (exfalso; omega)))))
    | ((with_reducible refine gAl ?_); (first | (refine al H Z50 rfl rfl ?_) | (refine al H Z41 rfl rfl ?_)); clear H; intro b1 w1 H)
    | ((with_reducible refine gRg ?_); refine wp_region_text rfl (by decide +kernel) ?_; replace H := H.drew)
    | ((with_reducible refine EndQ.intro ?_ ?_); (· kernel_rfl)))
        (try simp only [Act.put, List.setIfInBounds_toArray, List.set_cons_succ, List.set_cons_zero])
        obtain ⟨post, hpost⟩ := nz_at im 0 k b hb hbe
        rw [Nat.zero_add] at hpost
        have HPO := Lib.hid hpost
        clear hpost
        refine wpIn_seq (wpIn_cond_true rfl (wpIn_skip ?_))
        refine wpIn_seq (wpIn_block ?_)
        refine wpIn_seq (wpIn_wide.2 ?_)
        go_wp2_with (first
    | ((with_reducible refine gLd ?_); refine wl_loadR (k := k) (hM [] _ H) rfl rfl (by first | rfl | omega) T9 HE.out ?_)
    | ((with_reducible refine gLd ?_); refine eLd H rfl rfl ?_; first | (refine kLd 0 rfl rfl (by first | exact T3 | exact T4 | exact T9 | exact T23 | exact T31 | exact T33 | exact T45 | exact T37 | exact T50 | exact T72) rfl ?_) | (refine kLdA 0 rfl rfl (by first | exact T3 | exact T4 | exact T9 | exact T23 | exact T31 | exact T33 | exact T45 | exact T37 | exact T50 | exact T72) (Nat.le_of_ble_eq_true rfl) (by simp only [dkC, Wr.cells, bmt, eD, eS, eW, List.drop_succ_cons, List.drop_zero, List.take_succ_cons, List.take_zero, List.set_cons_zero, List.set_cons_succ]; rfl) ?_))
    | ((with_reducible refine gSt ?_); (first | (refine eSt H rfl rfl ⟨.int _ _, rfl, ?_⟩) | (refine eSt H rfl rfl ⟨.bool _, rfl, ?_⟩) | (refine eSt H rfl rfl ⟨.slice _ _ _, rfl, ?_⟩) | (refine eSt H rfl rfl ⟨.pointer _, rfl, ?_⟩) | (refine eSt H rfl rfl ⟨.string _, rfl, ?_⟩) | (refine eSt H rfl rfl ⟨.agg (List.toArray _), rfl, ?_⟩)); (first | (refine kSt 0 rfl rfl (by first | exact T3 | exact T4 | exact T9 | exact T23 | exact T31 | exact T33 | exact T45 | exact T37 | exact T50 | exact T72) rfl (Nat.le_of_ble_eq_true rfl) ?_) | (refine kStA 0 rfl rfl (by first | exact T3 | exact T4 | exact T9 | exact T23 | exact T31 | exact T33 | exact T45 | exact T37 | exact T50 | exact T72) rfl rfl (Nat.le_of_ble_eq_true rfl) ?_)); clear H; intro w1 H; simp only [List.set_cons_zero, List.set_cons_succ] at H; (try simp only [lay, List.take_zero, List.nil_append, List.length_cons, List.length_nil, Nat.zero_add, Nat.reduceAdd, List.drop_succ_cons, List.drop_zero, List.drop_nil, List.append_nil, List.take_succ_cons, List.cons_append] at H))
    | ((with_reducible refine gBx ?_); refine bxA H rfl rfl rfl ?_; clear H; intro b1 w1 H)
    | ((with_reducible refine gBs ?_); (first | (refine bs1 H rfl (by first | exact S33 | exact S45 | exact S31) rfl (Nat.le_of_ble_eq_true rfl) (Nat.le_of_ble_eq_true rfl) rfl ?_) | (refine wl_buildSlice0 rfl (by first | exact S33 | exact S45 | exact S31) H ?_)); clear H; intro b1 w1 H)
    | ((with_reducible refine gEq ?_); (first | (refine wl_cmp rfl rfl rfl rfl ?_) | (refine wl_scmp rfl rfl rfl rfl ?_)); intro rb hrb; cases rb <;> (first | (exfalso; simp at hrb; done) | ((try simp only [decide_eq_true_eq, decide_eq_false_iff_not, beq_iff_eq, beq_eq_false_iff_ne, ne_eq, bne_iff_ne, bne_eq_false_iff_eq, Bool.not_eq_true', Bool.not_eq_false', gt_iff_lt, ge_iff_le, Int.not_lt, Int.not_le, Decidable.not_not] at hrb); (try subst hrb); (try (exfalso; omega)))))
    | ((with_reducible refine gAl ?_); (first | (refine al H Z50 rfl rfl ?_) | (refine al H Z41 rfl rfl ?_)); clear H; intro b1 w1 H)
    | ((with_reducible refine gRg ?_); refine wp_region_text rfl (by decide +kernel) ?_; replace H := H.drew)
    | ((with_reducible refine EndQ.intro ?_ ?_); (· kernel_rfl)))
        (try simp only [Act.put, List.setIfInBounds_toArray, List.set_cons_succ, List.set_cons_zero])
        refine wpIn_seq (wlC_region ?_)
        refine wlC_run rfl (by go_simp; first | rfl | exact ⟨rfl, rfl⟩) ?_; (try simp only [Act.put, List.setIfInBounds_toArray, List.set_cons_succ, List.set_cons_zero])
        refine wlC_run rfl (sne_run rfl rfl hbe) ?_; (try simp only [Act.put, List.setIfInBounds_toArray, List.set_cons_succ, List.set_cons_zero])
        iterate 4 (refine wlC_run rfl (by go_simp; first | rfl | exact ⟨rfl, rfl⟩) ?_; (try simp only [Act.put, List.setIfInBounds_toArray, List.set_cons_succ, List.set_cons_zero]))
        obtain ⟨fn, tmps, assign, body, hy, hRd⟩ := hY _ _ _ _ HPO.out hJ
        refine wlC_round rfl (by go_simp; try exact hy) hRd ?_
        rintro e W2 (⟨rfl, hJ2⟩ | ⟨rfl, hx2⟩)
        · refine ⟨_, rfl, ?_⟩; (try simp only [Act.put, List.setIfInBounds_toArray, List.set_cons_succ, List.set_cons_zero])
          iterate 2 (refine wlC_run rfl (by go_simp; first | rfl | exact ⟨rfl, rfl⟩) ?_; (try simp only [Act.put, List.setIfInBounds_toArray, List.set_cons_succ, List.set_cons_zero]))
          refine wlC_nil ?_
          refine wpIn_cond_false rfl (wpIn_skip ?_)
          refine wpIn_wide.2 ?_
          go_wp2_with (first
    | ((with_reducible refine gLd ?_); refine eLd H rfl rfl ?_; first | (refine kLd 0 rfl rfl (by first | exact T3 | exact T4 | exact T9 | exact T23 | exact T31 | exact T33 | exact T45 | exact T37 | exact T50 | exact T72) rfl ?_) | (refine kLdA 0 rfl rfl (by first | exact T3 | exact T4 | exact T9 | exact T23 | exact T31 | exact T33 | exact T45 | exact T37 | exact T50 | exact T72) (Nat.le_of_ble_eq_true rfl) (by simp only [dkC, Wr.cells, bmt, eD, eS, eW, List.drop_succ_cons, List.drop_zero, List.take_succ_cons, List.take_zero, List.set_cons_zero, List.set_cons_succ]; rfl) ?_))
    | ((with_reducible refine gSt ?_); (first | (refine eSt H rfl rfl ⟨.int _ _, rfl, ?_⟩) | (refine eSt H rfl rfl ⟨.bool _, rfl, ?_⟩) | (refine eSt H rfl rfl ⟨.slice _ _ _, rfl, ?_⟩) | (refine eSt H rfl rfl ⟨.pointer _, rfl, ?_⟩) | (refine eSt H rfl rfl ⟨.string _, rfl, ?_⟩) | (refine eSt H rfl rfl ⟨.agg (List.toArray _), rfl, ?_⟩)); (first | (refine kSt 0 rfl rfl (by first | exact T3 | exact T4 | exact T9 | exact T23 | exact T31 | exact T33 | exact T45 | exact T37 | exact T50 | exact T72) rfl (Nat.le_of_ble_eq_true rfl) ?_) | (refine kStA 0 rfl rfl (by first | exact T3 | exact T4 | exact T9 | exact T23 | exact T31 | exact T33 | exact T45 | exact T37 | exact T50 | exact T72) rfl rfl (Nat.le_of_ble_eq_true rfl) ?_)); clear H; intro w1 H; simp only [List.set_cons_zero, List.set_cons_succ] at H; (try simp only [lay, List.take_zero, List.nil_append, List.length_cons, List.length_nil, Nat.zero_add, Nat.reduceAdd, List.drop_succ_cons, List.drop_zero, List.drop_nil, List.append_nil, List.take_succ_cons, List.cons_append] at H))
    | ((with_reducible refine gBx ?_); refine bxA H rfl rfl rfl ?_; clear H; intro b1 w1 H)
    | ((with_reducible refine gBs ?_); (first | (refine bs1 H rfl (by first | exact S33 | exact S45 | exact S31) rfl (Nat.le_of_ble_eq_true rfl) (Nat.le_of_ble_eq_true rfl) rfl ?_) | (refine wl_buildSlice0 rfl (by first | exact S33 | exact S45 | exact S31) H ?_)); clear H; intro b1 w1 H)
    | ((with_reducible refine gEq ?_); (first | (refine wl_cmp rfl rfl rfl rfl ?_) | (refine wl_scmp rfl rfl rfl rfl ?_)); intro rb hrb; cases rb <;> (first | (exfalso; simp at hrb; done) | ((try simp only [decide_eq_true_eq, decide_eq_false_iff_not, beq_iff_eq, beq_eq_false_iff_ne, ne_eq, bne_iff_ne, bne_eq_false_iff_eq, Bool.not_eq_true', Bool.not_eq_false', gt_iff_lt, ge_iff_le, Int.not_lt, Int.not_le, Decidable.not_not] at hrb); (try subst hrb); (try (exfalso; omega)))))
    | ((with_reducible refine gAl ?_); (first | (refine al H Z50 rfl rfl ?_) | (refine al H Z41 rfl rfl ?_)); clear H; intro b1 w1 H)
    | ((with_reducible refine gRg ?_); refine wp_region_text rfl (by decide +kernel) ?_; replace H := H.drew)
    | ((with_reducible refine EndQ.intro ?_ ?_); (· kernel_rfl)))
          go_roundg (gk - 1)
          case measure => omega
          case rel => exact ⟨k + 1, by go_num, by omega, by rw [htk]; exact hJ2⟩
        · refine ⟨_, rfl, ?_⟩; (try simp only [Act.put, List.setIfInBounds_toArray, List.set_cons_succ, List.set_cons_zero])
          iterate 2 (refine wlC_run rfl (by go_simp; first | rfl | exact ⟨rfl, rfl⟩) ?_; (try simp only [Act.put, List.setIfInBounds_toArray, List.set_cons_succ, List.set_cons_zero]))
          refine wlC_nil ?_
          refine wpIn_wide.2 ?_
          go_wp2_with (first
    | ((with_reducible refine gLd ?_); refine eLd H rfl rfl ?_; first | (refine kLd 0 rfl rfl (by first | exact T3 | exact T4 | exact T9 | exact T23 | exact T31 | exact T33 | exact T45 | exact T37 | exact T50 | exact T72) rfl ?_) | (refine kLdA 0 rfl rfl (by first | exact T3 | exact T4 | exact T9 | exact T23 | exact T31 | exact T33 | exact T45 | exact T37 | exact T50 | exact T72) (Nat.le_of_ble_eq_true rfl) (by simp only [dkC, Wr.cells, bmt, eD, eS, eW, List.drop_succ_cons, List.drop_zero, List.take_succ_cons, List.take_zero, List.set_cons_zero, List.set_cons_succ]; rfl) ?_))
    | ((with_reducible refine gSt ?_); (first | (refine eSt H rfl rfl ⟨.int _ _, rfl, ?_⟩) | (refine eSt H rfl rfl ⟨.bool _, rfl, ?_⟩) | (refine eSt H rfl rfl ⟨.slice _ _ _, rfl, ?_⟩) | (refine eSt H rfl rfl ⟨.pointer _, rfl, ?_⟩) | (refine eSt H rfl rfl ⟨.string _, rfl, ?_⟩) | (refine eSt H rfl rfl ⟨.agg (List.toArray _), rfl, ?_⟩)); (first | (refine kSt 0 rfl rfl (by first | exact T3 | exact T4 | exact T9 | exact T23 | exact T31 | exact T33 | exact T45 | exact T37 | exact T50 | exact T72) rfl (Nat.le_of_ble_eq_true rfl) ?_) | (refine kStA 0 rfl rfl (by first | exact T3 | exact T4 | exact T9 | exact T23 | exact T31 | exact T33 | exact T45 | exact T37 | exact T50 | exact T72) rfl rfl (Nat.le_of_ble_eq_true rfl) ?_)); clear H; intro w1 H; simp only [List.set_cons_zero, List.set_cons_succ] at H; (try simp only [lay, List.take_zero, List.nil_append, List.length_cons, List.length_nil, Nat.zero_add, Nat.reduceAdd, List.drop_succ_cons, List.drop_zero, List.drop_nil, List.append_nil, List.take_succ_cons, List.cons_append] at H))
    | ((with_reducible refine gBx ?_); refine bxA H rfl rfl rfl ?_; clear H; intro b1 w1 H)
    | ((with_reducible refine gBs ?_); (first | (refine bs1 H rfl (by first | exact S33 | exact S45 | exact S31) rfl (Nat.le_of_ble_eq_true rfl) (Nat.le_of_ble_eq_true rfl) rfl ?_) | (refine wl_buildSlice0 rfl (by first | exact S33 | exact S45 | exact S31) H ?_)); clear H; intro b1 w1 H)
    | ((with_reducible refine gEq ?_); (first | (refine wl_cmp rfl rfl rfl rfl ?_) | (refine wl_scmp rfl rfl rfl rfl ?_)); intro rb hrb; cases rb <;> (first | (exfalso; simp at hrb; done) | ((try simp only [decide_eq_true_eq, decide_eq_false_iff_not, beq_iff_eq, beq_eq_false_iff_ne, ne_eq, bne_iff_ne, bne_eq_false_iff_eq, Bool.not_eq_true', Bool.not_eq_false', gt_iff_lt, ge_iff_le, Int.not_lt, Int.not_le, Decidable.not_not] at hrb); (try subst hrb); (try (exfalso; omega)))))
    | ((with_reducible refine gAl ?_); (first | (refine al H Z50 rfl rfl ?_) | (refine al H Z41 rfl rfl ?_)); clear H; intro b1 w1 H)
    | ((with_reducible refine gRg ?_); refine wp_region_text rfl (by decide +kernel) ?_; replace H := H.drew)
    | ((with_reducible refine EndQ.intro ?_ ?_); (· kernel_rfl)))
          refine end_noneR rfl ?_
          refine ⟨⟨_, rfl⟩, .inr ⟨_, ?_, hx2⟩⟩
          exact ⟨post, by rw [HPO.out, List.append_assoc]; rfl⟩
    · obtain rfl : k = n := by omega
      refine wpIn_wide.2 ?_
      go_wp2_with (first
    | ((with_reducible refine gLd ?_); refine wl_loadR (k := k) (hM [] _ H) rfl rfl (by first | rfl | omega) T9 HE.out ?_)
    | ((with_reducible refine gLd ?_); refine eLd H rfl rfl ?_; first | (refine kLd 0 rfl rfl (by first | exact T3 | exact T4 | exact T9 | exact T23 | exact T31 | exact T33 | exact T45 | exact T37 | exact T50 | exact T72) rfl ?_) | (refine kLdA 0 rfl rfl (by first | exact T3 | exact T4 | exact T9 | exact T23 | exact T31 | exact T33 | exact T45 | exact T37 | exact T50 | exact T72) (Nat.le_of_ble_eq_true rfl) (by simp only [dkC, Wr.cells, bmt, eD, eS, eW, List.drop_succ_cons, List.drop_zero, List.take_succ_cons, List.take_zero, List.set_cons_zero, List.set_cons_succ]; rfl) ?_))
    | ((with_reducible refine gSt ?_); (first | (refine eSt H rfl rfl ⟨.int _ _, rfl, ?_⟩) | (refine eSt H rfl rfl ⟨.bool _, rfl, ?_⟩) | (refine eSt H rfl rfl ⟨.slice _ _ _, rfl, ?_⟩) | (refine eSt H rfl rfl ⟨.pointer _, rfl, ?_⟩) | (refine eSt H rfl rfl ⟨.string _, rfl, ?_⟩) | (refine eSt H rfl rfl ⟨.agg (List.toArray _), rfl, ?_⟩)); (first | (refine kSt 0 rfl rfl (by first | exact T3 | exact T4 | exact T9 | exact T23 | exact T31 | exact T33 | exact T45 | exact T37 | exact T50 | exact T72) rfl (Nat.le_of_ble_eq_true rfl) ?_) | (refine kStA 0 rfl rfl (by first | exact T3 | exact T4 | exact T9 | exact T23 | exact T31 | exact T33 | exact T45 | exact T37 | exact T50 | exact T72) rfl rfl (Nat.le_of_ble_eq_true rfl) ?_)); clear H; intro w1 H; simp only [List.set_cons_zero, List.set_cons_succ] at H; (try simp only [lay, List.take_zero, List.nil_append, List.length_cons, List.length_nil, Nat.zero_add, Nat.reduceAdd, List.drop_succ_cons, List.drop_zero, List.drop_nil, List.append_nil, List.take_succ_cons, List.cons_append] at H))
    | ((with_reducible refine gBx ?_); refine bxA H rfl rfl rfl ?_; clear H; intro b1 w1 H)
    | ((with_reducible refine gBs ?_); (first | (refine bs1 H rfl (by first | exact S33 | exact S45 | exact S31) rfl (Nat.le_of_ble_eq_true rfl) (Nat.le_of_ble_eq_true rfl) rfl ?_) | (refine wl_buildSlice0 rfl (by first | exact S33 | exact S45 | exact S31) H ?_)); clear H; intro b1 w1 H)
    | ((with_reducible refine gEq ?_); (first | (refine wl_cmp rfl rfl rfl rfl ?_) | (refine wl_scmp rfl rfl rfl rfl ?_)); intro rb hrb; cases rb <;> (first | (exfalso; simp at hrb; done) | ((try simp only [decide_eq_true_eq, decide_eq_false_iff_not, beq_iff_eq, beq_eq_false_iff_ne, ne_eq, bne_iff_ne, bne_eq_false_iff_eq, Bool.not_eq_true', Bool.not_eq_false', gt_iff_lt, ge_iff_le, Int.not_lt, Int.not_le, Decidable.not_not] at hrb); (try subst hrb); (try (exfalso; omega)))))
    | ((with_reducible refine gAl ?_); (first | (refine al H Z50 rfl rfl ?_) | (refine al H Z41 rfl rfl ?_)); clear H; intro b1 w1 H)
    | ((with_reducible refine gRg ?_); refine wp_region_text rfl (by decide +kernel) ?_; replace H := H.drew)
    | ((with_reducible refine EndQ.intro ?_ ?_); (· kernel_rfl)))
      go_end0
      refine ⟨⟨_, rfl⟩, .inl ?_⟩
      rw [List.take_of_length_le (by omega)] at hJ
      exact hJ
end Go.Proofs.Ytfcmjddpoacenaa
