/- The states to which a state may come: what the program makes. -/
import Derived.Test.YtjflokgplehfgaaW8
import Derived.Test.YtjflokgplehfgaaW12
import Derived.Test.YtjflokgplehfgaaQ3
import Derived.Test.YtjflokgplehfgaaE
import Derived.Test.YtjflokgplehfgaaGxRd
import Derived.Test.YtjflokgplehfgaaGxBsn
import Derived.WalkKit
import Derived.Lib.Hide
import Derived.Deep.LoopGhost
import Derived.WalkSpells
set_option linter.unusedVariables false
set_option linter.unusedSimpArgs false
namespace Go.Proofs.Ytjflokgplehfgaa
open Go.RowKit Go.Gx Go.Gx.Ans
set_option maxRecDepth 100000
section
variable {P : Program} {w0 w : World} {D : Nat → Prop} {L : List Ent} {ops : Array Oper} {Q : Exit → Act → World → Prop} {a : Act} {rest : List Oper}
/-- a whole block is read -/
theorem kLdW (i : Nat) {b N n : Nat} {xs : List Value} {e t : TypeId} {K : Value → Prop} (hi : L[i]? = some ⟨some b, xs, e, N⟩) (ht : tI P t = some (true, n)) (hn : xs.length = n) (k : K (.agg xs.toArray)) :
    ∃ (i : Nat) (x : Ent) (agg : Bool) (n : Nat) (v : Value), L[i]? = some x ∧ x.a = some b ∧ tI P t = some (agg, n) ∧ pick agg n x.xs 0 = some v ∧ K v := by
  refine ⟨i, _, true, n, _, hi, rfl, ht, ?_, k⟩
  simp only [pick, if_true]
  rw [if_pos (by omega), List.drop_zero, List.take_of_length_le (by omega)]
theorem run_ldW (i : Nat) {b N n : Nat} {xs : List Value} {e : TypeId} {dst : Option Tmp} {t ty : TypeId} {ad : Operand} {pos : String} {af : Array Edge} {g : Option (Nat × Bool)} (H : Hp w0 D L w)
    (hx : a.eval ad = .pointer (some ⟨b, 0, none⟩)) (hi : L[i]? = some ⟨some b, xs, e, N⟩) (ht : tI P t = some (true, n)) (hn : xs.length = n) :
    (execOp a.eval ⟨dst, .load t ad, ty, pos, af, g⟩).run P w = .ok (.value (.agg xs.toArray)) w :=
  run_ldA i H hx hi rfl ht (by dsimp only; omega) (by dsimp only; rw [List.drop_zero, List.take_of_length_le (by omega)])
/-- .. and written -/
theorem kStW (i : Nat) {b N n : Nat} {xs vs : List Value} {e t : TypeId} {K : Nat → Ent → List Value → Prop} (hi : L[i]? = some ⟨some b, xs, e, N⟩) (ht : tI P t = some (true, n)) (hn : vs.length = n) (h1 : vs.all (·.oneCell') = true) (hx : xs.length = n) (k : K i ⟨some b, xs, e, N⟩ vs) :
    ∃ (i : Nat) (x : Ent) (agg : Bool) (n : Nat) (xs' : List Value), L[i]? = some x ∧ x.a = some b ∧ tI P t = some (agg, n) ∧ (Value.agg vs.toArray).cells.size = n ∧ one (Value.agg vs.toArray) = true ∧ 0 + n ≤ x.xs.length ∧ lay x.xs 0 (Value.agg vs.toArray).cells.toList = xs' ∧ K i x xs' := by
  refine ⟨i, _, true, n, vs, hi, rfl, ht, hn, h1, by dsimp only; omega, ?_, k⟩
  show lay xs 0 vs = vs
  unfold lay
  rw [List.take_zero, List.nil_append, List.drop_of_length_le (by omega), List.append_nil]
end
end Go.Proofs.Ytjflokgplehfgaa
section
open Go.Proofs.Ytjflokgplehfgaa
open Go.RowKit Go.Gx Go.Gx.Ans
set_option maxRecDepth 100000
theorem Go.Gx.Rd.cells {w0 : World} {D : Nat → Prop} {R : List Ent} {q : Nat} {xs : List Value} (h : Rd w0 D R (some ⟨q, 0, none⟩) xs) : ∀ (L' : List Ent) (w' : World), Hp w0 D (L' ++ R) w' → ∀ (j : Nat) (v : Value), xs[j]? = some v → w'.cell? ⟨q, 0 + j, none⟩ = some v := by
  rcases h with h | ⟨b, o, e, h⟩
  · intro L' w' H j v hj; rw [h] at hj; simp at hj
  · cases e; exact h
end
namespace Go.Proofs.Ytjflokgplehfgaa
open Go.RowKit Go.Gx Go.Gx.Ans
set_option maxRecDepth 100000
theorem flat_pick {α : Type} {f : α → List Value} {sz : Nat} (hf : ∀ x, (f x).length = sz) : ∀ {l : List α} {j : Nat} {x : α}, l[j]? = some x → pick true sz (l.flatMap f) (j * sz) = some (.agg (f x).toArray) := by
  intro l j x h
  have hl : ∀ m : List α, (m.flatMap f).length = m.length * sz := fun m => by
    induction m with
    | nil => simp
    | cons a m ih => simp only [List.flatMap_cons, List.length_append, hf, ih, List.length_cons]; rw [Nat.succ_mul]; omega
  have h1 := (List.getElem?_eq_some_iff.1 h).1
  have hd : ∀ (m : List α) (j : Nat), m[j]? = some x → ((m.flatMap f).drop (j * sz)).take sz = f x := by
    intro m
    induction m with
    | nil => intro j h; simp at h
    | cons a m ih =>
      intro j h
      cases j with
      | zero =>
        simp at h
        subst h
        rw [Nat.zero_mul, List.drop_zero, List.flatMap_cons, List.take_append_of_le_length (by rw [hf]; exact Nat.le_refl _), List.take_of_length_le (by rw [hf]; exact Nat.le_refl _)]
      | succ j =>
        rw [List.flatMap_cons, Nat.succ_mul, Nat.add_comm, ← List.drop_drop, List.drop_append_of_le_length (by rw [hf]; exact Nat.le_refl _), show (f a).drop sz = [] from List.drop_of_length_le (by rw [hf]; exact Nat.le_refl _), List.nil_append]
        exact ih j (by simpa using h)
  simp only [pick, if_true]
  rw [if_pos ?_, hd l j h]
  rw [hl]
  have : (j + 1) * sz ≤ l.length * sz := Nat.mul_le_mul_right _ h1
  rw [Nat.succ_mul] at this
  exact this
def stas (l : List Sta) : List Value := l.flatMap Sta.cells
theorem stas_len : ∀ l : List Sta, (stas l).length = l.length * 9
  | [] => rfl
  | x :: l => by
    have := stas_len l
    unfold stas at *
    rw [List.flatMap_cons, List.length_append, this, List.length_cons]
    show 9 + _ = _
    omega
theorem stas_pick {l : List Sta} {j : Nat} {x : Sta} (h : l[j]? = some x) : pick true 9 (stas l) (j * 9) = some (.agg x.cells.toArray) := flat_pick (f := Sta.cells) (sz := 9) (fun _ => rfl) h
theorem stas_snoc (l : List Sta) (x : Sta) : stas l ++ x.cells = stas (l ++ [x]) := by simp [stas]
theorem stas_one : ∀ l : List Sta, (stas l).all (·.oneCell') = true
  | [] => rfl
  | x :: l => by
    have := stas_one l
    unfold stas at *
    rw [List.flatMap_cons, List.all_append, this]
    rfl
def evC (l : List Ev) : List Value := l.flatMap Ev.cells
theorem evC_pick {l : List Ev} {j : Nat} {x : Ev} (h : l[j]? = some x) : pick true 8 (evC l) (j * 8) = some (.agg x.cells.toArray) := flat_pick (f := Ev.cells) (sz := 8) (fun _ => rfl) h
theorem S48 : sI Try.prog 48 = some (29, .agg (List.toArray [.int .i64 0, .int .u64 0, .string ⟨#[]⟩, .int .i64 0, .int .i64 0, .int .i64 0, .int .u64 0, .string ⟨#[]⟩, .bool false]), 9, 88) := by kernel_rfl
theorem S23 : sI Try.prog 23 = some (35, .agg (List.toArray [.int .i64 0, .int .u64 0, .string ⟨#[]⟩, .int .i64 0, .int .i64 0, .int .u64 0, .string ⟨#[]⟩, .bool false]), 8, 80) := by kernel_rfl
theorem Z35 : zI Try.prog 35 = some (.agg (List.toArray [.int .i64 0, .int .u64 0, .string ⟨#[]⟩, .int .i64 0, .int .i64 0, .int .u64 0, .string ⟨#[]⟩, .bool false])) := by kernel_rfl
section
variable {w0 w : World} {D : Nat → Prop} {L : List Ent} {ops : Array Oper} {Q : Exit → Act → World → Prop} {a : Act} {rest : List Oper}
theorem wl_neS {s t : Sta} {r : Bool} {u ty : TypeId} {dst : Option Tmp} {x y : Operand} {pos : String} {af : Array Edge} {g : Option (Nat × Bool)} (hw : Region.wanted ⟨dst, .binOp .neq 29 x y u, ty, pos, af, g⟩ (yielded ops a.tmps) = true)
    (hx : a.eval x = .agg s.cells.toArray) (hy : a.eval y = .agg t.cells.toArray) (hr : (!(s.beq t)) = r)
    (k : wpList Try.prog ops Q rest (a.put dst (.bool r)) w) : wpList Try.prog ops Q (⟨dst, .binOp .neq 29 x y u, ty, pos, af, g⟩ :: rest) a w := by
  subst hr; exact wl_run hw (run_neAgg G29 (eq29 9997 s t) hx hy) k
theorem wl_eqS {s t : Sta} {r : Bool} {u ty : TypeId} {dst : Option Tmp} {x y : Operand} {pos : String} {af : Array Edge} {g : Option (Nat × Bool)} (hw : Region.wanted ⟨dst, .binOp .eql 29 x y u, ty, pos, af, g⟩ (yielded ops a.tmps) = true)
    (hx : a.eval x = .agg s.cells.toArray) (hy : a.eval y = .agg t.cells.toArray) (hr : s.beq t = r)
    (k : wpList Try.prog ops Q rest (a.put dst (.bool r)) w) : wpList Try.prog ops Q (⟨dst, .binOp .eql 29 x y u, ty, pos, af, g⟩ :: rest) a w := by
  subst hr; exact wl_run hw (run_eqAgg G29 (eq29 9997 s t) hx hy) k
end
theorem StepN {w0 w : World} {D : Nat → Prop} {R : List Ent} {s t : Sta} {v : Ev} (H : Hp w0 D R w) (h : (stepS s v).1 = t) : Calls Try.prog 13 #[.agg s.cells.toArray, .agg v.cells.toArray] w fun e w' => ∃ a n c, e = .returned (.tuple #[.agg t.cells.toArray, .slice a n c]) ∧ Hp w0 D R w' := by
  refine (Step_spec H s v).mono ?_
  rintro e w' ⟨a, c, r, hr, he, hh⟩
  subst hr; subst h
  exact ⟨_, _, _, he, hh.drop⟩
/-- is a state in a list? -/
def inL (l : List Sta) (s : Sta) : Bool := l.any fun x => s.beq x
/-- the number of a state in a list, from the i-th on -/
theorem rd_h {w0 : World} {D : Nat → Prop} {R : List Ent} {e : Ent} {x : Option Addr} {xs : List Value} (h : Rd w0 D R x xs) : Rd w0 D (e :: R) x xs := h.push [e]
def IxP (w0 : World) (D : Nat → Prop) (R : List Ent) (r : Bool) (e : Ending) (w' : World) : Prop := ∃ i : Int, e = .returned (.int .i64 i) ∧ decide (0 ≤ i) = r ∧ Hp w0 D R w'
theorem inL_drop {l : List Sta} {j : Nat} {x s : Sta} (h : l[j]? = some x) : inL (l.drop j) s = (s.beq x || inL (l.drop (j + 1)) s) := by
  have hj := (List.getElem?_eq_some_iff.1 h).1
  rw [List.drop_eq_getElem_cons hj]
  have : l[j] = x := by rw [List.getElem?_eq_getElem hj] at h; exact Option.some.inj h
  unfold inL
  rw [List.any_cons, this]
set_option maxHeartbeats 4000000 in
theorem Index_spec {w0 w : World} {D : Nat → Prop} {R : List Ent} {x : Option Addr} {c n : Nat} {l : List Sta} {s : Sta} {r : Bool} (H : Hp w0 D (R) w) (hx : Rd w0 D R x (stas l)) (hn : l.length = n) (hb : n ≤ 1000) (hr : inL l s = r) :
    Calls Try.prog 42 #[.slice x n c, .agg s.cells.toArray] w fun e w' => IxP w0 D R r e w' := by
  have HN := Lib.hid hn
  have HX := Lib.hid hx
  have HR := Lib.hid (show inL (l.drop 0) s = r from hr)
  clear hn hx hr
  go_enter Try.func42, Try.ntmps42
  go_wp2_with (first
    | ((with_reducible refine gBx ?_); refine bxA (vs := s.cells) H rfl rfl rfl ?_; clear H; intro b1 w1 H)
    | ((with_reducible refine gLd ?_); refine eLd H rfl rfl ?_; first | (refine kLd 0 rfl rfl (by first | exact T3 | exact T4 | exact T9 | exact T22 | exact T27 | exact T29 | exact T35 | exact T55) rfl ?_) | (refine kLdA 0 rfl rfl (by first | exact T3 | exact T4 | exact T9 | exact T22 | exact T27 | exact T29 | exact T35 | exact T55) (Nat.le_of_ble_eq_true rfl) (by simp only [List.drop_succ_cons, List.drop_zero, List.take_succ_cons, List.take_zero, List.set_cons_zero, List.set_cons_succ]; rfl) ?_))
    | ((with_reducible refine gSt ?_); (first | (refine eSt H rfl rfl ⟨.int _ _, rfl, ?_⟩) | (refine eSt H rfl rfl ⟨.bool _, rfl, ?_⟩) | (refine eSt H rfl rfl ⟨.slice _ _ _, rfl, ?_⟩) | (refine eSt H rfl rfl ⟨.pointer _, rfl, ?_⟩) | (refine eSt H rfl rfl ⟨.string _, rfl, ?_⟩) | (refine eSt H rfl rfl ⟨.agg (List.toArray _), rfl, ?_⟩)); (first | (refine kSt 0 rfl rfl (by first | exact T3 | exact T4 | exact T9 | exact T22 | exact T27 | exact T29 | exact T35 | exact T55) rfl (Nat.le_of_ble_eq_true rfl) ?_) | (refine kStA 0 rfl rfl (by first | exact T3 | exact T4 | exact T9 | exact T22 | exact T27 | exact T29 | exact T35 | exact T55) rfl rfl (Nat.le_of_ble_eq_true rfl) ?_)); clear H; intro w1 H; simp only [List.set_cons_zero, List.set_cons_succ] at H; (try simp only [lay, List.take_zero, List.nil_append, List.length_cons, List.length_nil, Nat.zero_add, Nat.reduceAdd, List.drop_succ_cons, List.drop_zero, List.drop_nil, List.append_nil, List.take_succ_cons, List.cons_append] at H))
    | ((with_reducible refine gBx ?_); refine bxA H rfl rfl rfl ?_; clear H; intro b1 w1 H)
    | ((with_reducible refine gBs ?_); (first | (refine bs1 H rfl (by first | exact S48) rfl (Nat.le_of_ble_eq_true rfl) (Nat.le_of_ble_eq_true rfl) rfl ?_) | (refine wl_buildSlice0 rfl (by first | exact S48) H ?_)); clear H; intro b1 w1 H)
    | ((with_reducible refine gEq ?_); (first | (refine wl_cmp rfl rfl rfl rfl ?_) | (refine wl_scmp rfl rfl rfl rfl ?_)); intro rb hrb; cases rb <;> (first | (exfalso; simp at hrb; done) | ((try simp only [decide_eq_true_eq, decide_eq_false_iff_not, beq_iff_eq, beq_eq_false_iff_ne, ne_eq, bne_iff_ne, bne_eq_false_iff_eq, Bool.not_eq_true', Bool.not_eq_false', gt_iff_lt, ge_iff_le, Int.not_lt, Int.not_le, Decidable.not_not] at hrb); (try subst hrb); (try (exfalso; omega)))))
    | ((with_reducible refine gRg ?_); refine wp_region_text rfl (by decide +kernel) ?_; replace H := H.drew)
    | ((with_reducible refine EndQ.intro ?_ ?_); (· kernel_rfl)))
  go_loopg [8] n (fun g v8 wr => ∃ j : Nat, v8 = .int .i64 (j : Int) ∧ j + g = n ∧ Hid (inL (l.drop j) s = r) ∧ Hp w0 D (⟨some b1, s.cells, 29, 9⟩ :: R) wr)
  case atStart => exact ⟨0, rfl, by omega, HR, H⟩
  case round =>
    clear H HR
    obtain ⟨j, rfl, hjg, HI, H⟩ := hrel
    by_cases hj : j < n
    · obtain ⟨y, hy⟩ : ∃ y, l[j]? = some y := ⟨_, List.getElem?_eq_getElem (by rw [HN.out]; exact hj)⟩
      obtain ⟨bx, ox, rfl, hX⟩ := HX.out.some_of (by rw [stas_len, HN.out]; omega)
      have HG := Lib.hid (stas_pick hy)
      have hst := inL_drop (s := s) hy
      rw [HI.out] at hst
      have hgp : 0 < gk := by omega
      cases hb1 : s.beq y with
      | true =>
        rw [hb1] at hst
        have er : r = true := by simpa using hst
        subst er
        have HB := Lib.hid hb1
        clear hy hst hb1
        go_wp2_with (first
    | ((with_reducible refine gLd ?_); refine wl_loadR (k := j * 9) (hX [_] _ H) rfl rfl (by first | rfl | omega) T29 HG.out ?_)
    | ((with_reducible refine gLd ?_); refine eLd H rfl rfl ?_; refine kLdW 0 rfl T29 rfl ?_)
    | ((with_reducible refine gEq ?_); refine wl_eqS rfl rfl rfl HB.out ?_)
    | ((with_reducible refine gLd ?_); refine eLd H rfl rfl ?_; first | (refine kLd 0 rfl rfl (by first | exact T3 | exact T4 | exact T9 | exact T22 | exact T27 | exact T29 | exact T35 | exact T55) rfl ?_) | (refine kLdA 0 rfl rfl (by first | exact T3 | exact T4 | exact T9 | exact T22 | exact T27 | exact T29 | exact T35 | exact T55) (Nat.le_of_ble_eq_true rfl) (by simp only [List.drop_succ_cons, List.drop_zero, List.take_succ_cons, List.take_zero, List.set_cons_zero, List.set_cons_succ]; rfl) ?_))
    | ((with_reducible refine gSt ?_); (first | (refine eSt H rfl rfl ⟨.int _ _, rfl, ?_⟩) | (refine eSt H rfl rfl ⟨.bool _, rfl, ?_⟩) | (refine eSt H rfl rfl ⟨.slice _ _ _, rfl, ?_⟩) | (refine eSt H rfl rfl ⟨.pointer _, rfl, ?_⟩) | (refine eSt H rfl rfl ⟨.string _, rfl, ?_⟩) | (refine eSt H rfl rfl ⟨.agg (List.toArray _), rfl, ?_⟩)); (first | (refine kSt 0 rfl rfl (by first | exact T3 | exact T4 | exact T9 | exact T22 | exact T27 | exact T29 | exact T35 | exact T55) rfl (Nat.le_of_ble_eq_true rfl) ?_) | (refine kStA 0 rfl rfl (by first | exact T3 | exact T4 | exact T9 | exact T22 | exact T27 | exact T29 | exact T35 | exact T55) rfl rfl (Nat.le_of_ble_eq_true rfl) ?_)); clear H; intro w1 H; simp only [List.set_cons_zero, List.set_cons_succ] at H; (try simp only [lay, List.take_zero, List.nil_append, List.length_cons, List.length_nil, Nat.zero_add, Nat.reduceAdd, List.drop_succ_cons, List.drop_zero, List.drop_nil, List.append_nil, List.take_succ_cons, List.cons_append] at H))
    | ((with_reducible refine gBx ?_); refine bxA H rfl rfl rfl ?_; clear H; intro b1 w1 H)
    | ((with_reducible refine gBs ?_); (first | (refine bs1 H rfl (by first | exact S48) rfl (Nat.le_of_ble_eq_true rfl) (Nat.le_of_ble_eq_true rfl) rfl ?_) | (refine wl_buildSlice0 rfl (by first | exact S48) H ?_)); clear H; intro b1 w1 H)
    | ((with_reducible refine gEq ?_); (first | (refine wl_cmp rfl rfl rfl rfl ?_) | (refine wl_scmp rfl rfl rfl rfl ?_)); intro rb hrb; cases rb <;> (first | (exfalso; simp at hrb; done) | ((try simp only [decide_eq_true_eq, decide_eq_false_iff_not, beq_iff_eq, beq_eq_false_iff_ne, ne_eq, bne_iff_ne, bne_eq_false_iff_eq, Bool.not_eq_true', Bool.not_eq_false', gt_iff_lt, ge_iff_le, Int.not_lt, Int.not_le, Decidable.not_not] at hrb); (try subst hrb); (try (exfalso; omega)))))
    | ((with_reducible refine gRg ?_); refine wp_region_text rfl (by decide +kernel) ?_; replace H := H.drew)
    | ((with_reducible refine EndQ.intro ?_ ?_); (· kernel_rfl)))
        go_ret
        exact ⟨_, rfl, by simp, H.drop⟩
      | false =>
        rw [hb1] at hst
        have HI2 := Lib.hid (show inL (l.drop (j + 1)) s = r by simpa using hst.symm)
        have HB := Lib.hid hb1
        clear hy hst hb1 HI
        go_wp2_with (first
    | ((with_reducible refine gLd ?_); refine wl_loadR (k := j * 9) (hX [_] _ H) rfl rfl (by first | rfl | omega) T29 HG.out ?_)
    | ((with_reducible refine gLd ?_); refine eLd H rfl rfl ?_; refine kLdW 0 rfl T29 rfl ?_)
    | ((with_reducible refine gEq ?_); refine wl_eqS rfl rfl rfl HB.out ?_)
    | ((with_reducible refine gLd ?_); refine eLd H rfl rfl ?_; first | (refine kLd 0 rfl rfl (by first | exact T3 | exact T4 | exact T9 | exact T22 | exact T27 | exact T29 | exact T35 | exact T55) rfl ?_) | (refine kLdA 0 rfl rfl (by first | exact T3 | exact T4 | exact T9 | exact T22 | exact T27 | exact T29 | exact T35 | exact T55) (Nat.le_of_ble_eq_true rfl) (by simp only [List.drop_succ_cons, List.drop_zero, List.take_succ_cons, List.take_zero, List.set_cons_zero, List.set_cons_succ]; rfl) ?_))
    | ((with_reducible refine gSt ?_); (first | (refine eSt H rfl rfl ⟨.int _ _, rfl, ?_⟩) | (refine eSt H rfl rfl ⟨.bool _, rfl, ?_⟩) | (refine eSt H rfl rfl ⟨.slice _ _ _, rfl, ?_⟩) | (refine eSt H rfl rfl ⟨.pointer _, rfl, ?_⟩) | (refine eSt H rfl rfl ⟨.string _, rfl, ?_⟩) | (refine eSt H rfl rfl ⟨.agg (List.toArray _), rfl, ?_⟩)); (first | (refine kSt 0 rfl rfl (by first | exact T3 | exact T4 | exact T9 | exact T22 | exact T27 | exact T29 | exact T35 | exact T55) rfl (Nat.le_of_ble_eq_true rfl) ?_) | (refine kStA 0 rfl rfl (by first | exact T3 | exact T4 | exact T9 | exact T22 | exact T27 | exact T29 | exact T35 | exact T55) rfl rfl (Nat.le_of_ble_eq_true rfl) ?_)); clear H; intro w1 H; simp only [List.set_cons_zero, List.set_cons_succ] at H; (try simp only [lay, List.take_zero, List.nil_append, List.length_cons, List.length_nil, Nat.zero_add, Nat.reduceAdd, List.drop_succ_cons, List.drop_zero, List.drop_nil, List.append_nil, List.take_succ_cons, List.cons_append] at H))
    | ((with_reducible refine gBx ?_); refine bxA H rfl rfl rfl ?_; clear H; intro b1 w1 H)
    | ((with_reducible refine gBs ?_); (first | (refine bs1 H rfl (by first | exact S48) rfl (Nat.le_of_ble_eq_true rfl) (Nat.le_of_ble_eq_true rfl) rfl ?_) | (refine wl_buildSlice0 rfl (by first | exact S48) H ?_)); clear H; intro b1 w1 H)
    | ((with_reducible refine gEq ?_); (first | (refine wl_cmp rfl rfl rfl rfl ?_) | (refine wl_scmp rfl rfl rfl rfl ?_)); intro rb hrb; cases rb <;> (first | (exfalso; simp at hrb; done) | ((try simp only [decide_eq_true_eq, decide_eq_false_iff_not, beq_iff_eq, beq_eq_false_iff_ne, ne_eq, bne_iff_ne, bne_eq_false_iff_eq, Bool.not_eq_true', Bool.not_eq_false', gt_iff_lt, ge_iff_le, Int.not_lt, Int.not_le, Decidable.not_not] at hrb); (try subst hrb); (try (exfalso; omega)))))
    | ((with_reducible refine gRg ?_); refine wp_region_text rfl (by decide +kernel) ?_; replace H := H.drew)
    | ((with_reducible refine EndQ.intro ?_ ?_); (· kernel_rfl)))
        go_roundg (gk - 1)
        case measure => omega
        case rel => exact ⟨j + 1, by go_num, by omega, HI2, H⟩
    · have er : r = false := by rw [← HI.out, List.drop_of_length_le (by rw [HN.out]; omega)]; rfl
      subst er
      go_wp2_with (first
    | ((with_reducible refine gLd ?_); refine eLd H rfl rfl ?_; first | (refine kLd 0 rfl rfl (by first | exact T3 | exact T4 | exact T9 | exact T22 | exact T27 | exact T29 | exact T35 | exact T55) rfl ?_) | (refine kLdA 0 rfl rfl (by first | exact T3 | exact T4 | exact T9 | exact T22 | exact T27 | exact T29 | exact T35 | exact T55) (Nat.le_of_ble_eq_true rfl) (by simp only [List.drop_succ_cons, List.drop_zero, List.take_succ_cons, List.take_zero, List.set_cons_zero, List.set_cons_succ]; rfl) ?_))
    | ((with_reducible refine gSt ?_); (first | (refine eSt H rfl rfl ⟨.int _ _, rfl, ?_⟩) | (refine eSt H rfl rfl ⟨.bool _, rfl, ?_⟩) | (refine eSt H rfl rfl ⟨.slice _ _ _, rfl, ?_⟩) | (refine eSt H rfl rfl ⟨.pointer _, rfl, ?_⟩) | (refine eSt H rfl rfl ⟨.string _, rfl, ?_⟩) | (refine eSt H rfl rfl ⟨.agg (List.toArray _), rfl, ?_⟩)); (first | (refine kSt 0 rfl rfl (by first | exact T3 | exact T4 | exact T9 | exact T22 | exact T27 | exact T29 | exact T35 | exact T55) rfl (Nat.le_of_ble_eq_true rfl) ?_) | (refine kStA 0 rfl rfl (by first | exact T3 | exact T4 | exact T9 | exact T22 | exact T27 | exact T29 | exact T35 | exact T55) rfl rfl (Nat.le_of_ble_eq_true rfl) ?_)); clear H; intro w1 H; simp only [List.set_cons_zero, List.set_cons_succ] at H; (try simp only [lay, List.take_zero, List.nil_append, List.length_cons, List.length_nil, Nat.zero_add, Nat.reduceAdd, List.drop_succ_cons, List.drop_zero, List.drop_nil, List.append_nil, List.take_succ_cons, List.cons_append] at H))
    | ((with_reducible refine gBx ?_); refine bxA H rfl rfl rfl ?_; clear H; intro b1 w1 H)
    | ((with_reducible refine gBs ?_); (first | (refine bs1 H rfl (by first | exact S48) rfl (Nat.le_of_ble_eq_true rfl) (Nat.le_of_ble_eq_true rfl) rfl ?_) | (refine wl_buildSlice0 rfl (by first | exact S48) H ?_)); clear H; intro b1 w1 H)
    | ((with_reducible refine gEq ?_); (first | (refine wl_cmp rfl rfl rfl rfl ?_) | (refine wl_scmp rfl rfl rfl rfl ?_)); intro rb hrb; cases rb <;> (first | (exfalso; simp at hrb; done) | ((try simp only [decide_eq_true_eq, decide_eq_false_iff_not, beq_iff_eq, beq_eq_false_iff_ne, ne_eq, bne_iff_ne, bne_eq_false_iff_eq, Bool.not_eq_true', Bool.not_eq_false', gt_iff_lt, ge_iff_le, Int.not_lt, Int.not_le, Decidable.not_not] at hrb); (try subst hrb); (try (exfalso; omega)))))
    | ((with_reducible refine gRg ?_); refine wp_region_text rfl (by decide +kernel) ?_; replace H := H.drew)
    | ((with_reducible refine EndQ.intro ?_ ?_); (· kernel_rfl)))
      go_ret
      exact ⟨_, rfl, by simp, H.drop⟩
set_option maxHeartbeats 4000000 in
theorem Contains_spec {w0 w : World} {D : Nat → Prop} {R : List Ent} {x : Option Addr} {c n : Nat} {l : List Sta} {s : Sta} {r : Bool} (H : Hp w0 D (R) w) (hx : Rd w0 D R x (stas l)) (hn : l.length = n) (hb : n ≤ 1000) (hr : inL l s = r) :
    Calls Try.prog 37 #[.slice x n c, .agg s.cells.toArray] w fun e w' => e = .returned (.bool r) ∧ Hp w0 D R w' := by
  have HN := Lib.hid hn
  have HX := Lib.hid (show Rd w0 D R x (stas l) from hx)
  have HR := Lib.hid hr
  clear hn hx hr
  cases r
  · go_enter Try.func37, Try.ntmps37
    go_wp2_with (first
    | ((with_reducible refine gBx ?_); refine bxA (vs := s.cells) H rfl rfl rfl ?_; clear H; intro b1 w1 H)
    | ((with_reducible refine gLd ?_); refine eLd H rfl rfl ?_; refine kLdW 0 rfl T29 rfl ?_)
    | (go_at_call 42; ((with_reducible refine (Index_spec H (rd_h HX.out) HN.out hb HR.out).mono ?_); rintro e w1 ⟨i, rfl, hi, H1⟩; have hi0 : i < 0 := (by simpa using hi); clear hi; clear H; have H := H1; clear H1))
    | ((with_reducible refine gLd ?_); refine eLd H rfl rfl ?_; first | (refine kLd 0 rfl rfl (by first | exact T3 | exact T4 | exact T9 | exact T22 | exact T27 | exact T29 | exact T35 | exact T55) rfl ?_) | (refine kLdA 0 rfl rfl (by first | exact T3 | exact T4 | exact T9 | exact T22 | exact T27 | exact T29 | exact T35 | exact T55) (Nat.le_of_ble_eq_true rfl) (by simp only [List.drop_succ_cons, List.drop_zero, List.take_succ_cons, List.take_zero, List.set_cons_zero, List.set_cons_succ]; rfl) ?_))
    | ((with_reducible refine gSt ?_); (first | (refine eSt H rfl rfl ⟨.int _ _, rfl, ?_⟩) | (refine eSt H rfl rfl ⟨.bool _, rfl, ?_⟩) | (refine eSt H rfl rfl ⟨.slice _ _ _, rfl, ?_⟩) | (refine eSt H rfl rfl ⟨.pointer _, rfl, ?_⟩) | (refine eSt H rfl rfl ⟨.string _, rfl, ?_⟩) | (refine eSt H rfl rfl ⟨.agg (List.toArray _), rfl, ?_⟩)); (first | (refine kSt 0 rfl rfl (by first | exact T3 | exact T4 | exact T9 | exact T22 | exact T27 | exact T29 | exact T35 | exact T55) rfl (Nat.le_of_ble_eq_true rfl) ?_) | (refine kStA 0 rfl rfl (by first | exact T3 | exact T4 | exact T9 | exact T22 | exact T27 | exact T29 | exact T35 | exact T55) rfl rfl (Nat.le_of_ble_eq_true rfl) ?_)); clear H; intro w1 H; simp only [List.set_cons_zero, List.set_cons_succ] at H; (try simp only [lay, List.take_zero, List.nil_append, List.length_cons, List.length_nil, Nat.zero_add, Nat.reduceAdd, List.drop_succ_cons, List.drop_zero, List.drop_nil, List.append_nil, List.take_succ_cons, List.cons_append] at H))
    | ((with_reducible refine gBx ?_); refine bxA H rfl rfl rfl ?_; clear H; intro b1 w1 H)
    | ((with_reducible refine gBs ?_); (first | (refine bs1 H rfl (by first | exact S48) rfl (Nat.le_of_ble_eq_true rfl) (Nat.le_of_ble_eq_true rfl) rfl ?_) | (refine wl_buildSlice0 rfl (by first | exact S48) H ?_)); clear H; intro b1 w1 H)
    | ((with_reducible refine gEq ?_); (first | (refine wl_cmp rfl rfl rfl rfl ?_) | (refine wl_scmp rfl rfl rfl rfl ?_)); intro rb hrb; cases rb <;> (first | (exfalso; simp at hrb; done) | ((try simp only [decide_eq_true_eq, decide_eq_false_iff_not, beq_iff_eq, beq_eq_false_iff_ne, ne_eq, bne_iff_ne, bne_eq_false_iff_eq, Bool.not_eq_true', Bool.not_eq_false', gt_iff_lt, ge_iff_le, Int.not_lt, Int.not_le, Decidable.not_not] at hrb); (try subst hrb); (try (exfalso; omega)))))
    | ((with_reducible refine gRg ?_); refine wp_region_text rfl (by decide +kernel) ?_; replace H := H.drew)
    | ((with_reducible refine EndQ.intro ?_ ?_); (· kernel_rfl)))
    all_goals (go_ret; exact ⟨rfl, H.drop⟩)
  · go_enter Try.func37, Try.ntmps37
    go_wp2_with (first
    | ((with_reducible refine gBx ?_); refine bxA (vs := s.cells) H rfl rfl rfl ?_; clear H; intro b1 w1 H)
    | ((with_reducible refine gLd ?_); refine eLd H rfl rfl ?_; refine kLdW 0 rfl T29 rfl ?_)
    | (go_at_call 42; ((with_reducible refine (Index_spec H (rd_h HX.out) HN.out hb HR.out).mono ?_); rintro e w1 ⟨i, rfl, hi, H1⟩; have hi0 : 0 ≤ i := (by simpa using hi); clear hi; clear H; have H := H1; clear H1))
    | ((with_reducible refine gLd ?_); refine eLd H rfl rfl ?_; first | (refine kLd 0 rfl rfl (by first | exact T3 | exact T4 | exact T9 | exact T22 | exact T27 | exact T29 | exact T35 | exact T55) rfl ?_) | (refine kLdA 0 rfl rfl (by first | exact T3 | exact T4 | exact T9 | exact T22 | exact T27 | exact T29 | exact T35 | exact T55) (Nat.le_of_ble_eq_true rfl) (by simp only [List.drop_succ_cons, List.drop_zero, List.take_succ_cons, List.take_zero, List.set_cons_zero, List.set_cons_succ]; rfl) ?_))
    | ((with_reducible refine gSt ?_); (first | (refine eSt H rfl rfl ⟨.int _ _, rfl, ?_⟩) | (refine eSt H rfl rfl ⟨.bool _, rfl, ?_⟩) | (refine eSt H rfl rfl ⟨.slice _ _ _, rfl, ?_⟩) | (refine eSt H rfl rfl ⟨.pointer _, rfl, ?_⟩) | (refine eSt H rfl rfl ⟨.string _, rfl, ?_⟩) | (refine eSt H rfl rfl ⟨.agg (List.toArray _), rfl, ?_⟩)); (first | (refine kSt 0 rfl rfl (by first | exact T3 | exact T4 | exact T9 | exact T22 | exact T27 | exact T29 | exact T35 | exact T55) rfl (Nat.le_of_ble_eq_true rfl) ?_) | (refine kStA 0 rfl rfl (by first | exact T3 | exact T4 | exact T9 | exact T22 | exact T27 | exact T29 | exact T35 | exact T55) rfl rfl (Nat.le_of_ble_eq_true rfl) ?_)); clear H; intro w1 H; simp only [List.set_cons_zero, List.set_cons_succ] at H; (try simp only [lay, List.take_zero, List.nil_append, List.length_cons, List.length_nil, Nat.zero_add, Nat.reduceAdd, List.drop_succ_cons, List.drop_zero, List.drop_nil, List.append_nil, List.take_succ_cons, List.cons_append] at H))
    | ((with_reducible refine gBx ?_); refine bxA H rfl rfl rfl ?_; clear H; intro b1 w1 H)
    | ((with_reducible refine gBs ?_); (first | (refine bs1 H rfl (by first | exact S48) rfl (Nat.le_of_ble_eq_true rfl) (Nat.le_of_ble_eq_true rfl) rfl ?_) | (refine wl_buildSlice0 rfl (by first | exact S48) H ?_)); clear H; intro b1 w1 H)
    | ((with_reducible refine gEq ?_); (first | (refine wl_cmp rfl rfl rfl rfl ?_) | (refine wl_scmp rfl rfl rfl rfl ?_)); intro rb hrb; cases rb <;> (first | (exfalso; simp at hrb; done) | ((try simp only [decide_eq_true_eq, decide_eq_false_iff_not, beq_iff_eq, beq_eq_false_iff_ne, ne_eq, bne_iff_ne, bne_eq_false_iff_eq, Bool.not_eq_true', Bool.not_eq_false', gt_iff_lt, ge_iff_le, Int.not_lt, Int.not_le, Decidable.not_not] at hrb); (try subst hrb); (try (exfalso; omega)))))
    | ((with_reducible refine gRg ?_); refine wp_region_text rfl (by decide +kernel) ?_; replace H := H.drew)
    | ((with_reducible refine EndQ.intro ?_ ?_); (· kernel_rfl)))
    all_goals (go_ret; exact ⟨rfl, H.drop⟩)
theorem beq_self (s : Sta) : (!(s.beq s)) = false := by rw [Sta.beq_iff.2 rfl]; rfl
set_option maxHeartbeats 4000000 in
theorem States_spec {w0 w : World} {D : Nat → Prop} {R : List Ent} {x y : Option Addr} {c d n : Nat} {l : List Sta} (H : Hp w0 D (R) w) (hx : Rd w0 D R x (stas l)) (hy : Rd w0 D R y (stas l)) (hn : l.length = n) (hs : n ≤ 1000) :
    Calls Try.prog 24 #[.slice x n c, .slice y n d] w fun e w' => e = .returned (.bool true) ∧ Hp w0 D R w' := by
  have HN := Lib.hid hn
  have HX := Lib.hid hx
  have HY := Lib.hid hy
  clear hn hx hy
  go_enter Try.func24, Try.ntmps24
  go_wp2_with (first
    | ((with_reducible refine gLd ?_); refine eLd H rfl rfl ?_; first | (refine kLd 0 rfl rfl (by first | exact T3 | exact T4 | exact T9 | exact T22 | exact T27 | exact T29 | exact T35 | exact T55) rfl ?_) | (refine kLdA 0 rfl rfl (by first | exact T3 | exact T4 | exact T9 | exact T22 | exact T27 | exact T29 | exact T35 | exact T55) (Nat.le_of_ble_eq_true rfl) (by simp only [List.drop_succ_cons, List.drop_zero, List.take_succ_cons, List.take_zero, List.set_cons_zero, List.set_cons_succ]; rfl) ?_))
    | ((with_reducible refine gSt ?_); (first | (refine eSt H rfl rfl ⟨.int _ _, rfl, ?_⟩) | (refine eSt H rfl rfl ⟨.bool _, rfl, ?_⟩) | (refine eSt H rfl rfl ⟨.slice _ _ _, rfl, ?_⟩) | (refine eSt H rfl rfl ⟨.pointer _, rfl, ?_⟩) | (refine eSt H rfl rfl ⟨.string _, rfl, ?_⟩) | (refine eSt H rfl rfl ⟨.agg (List.toArray _), rfl, ?_⟩)); (first | (refine kSt 0 rfl rfl (by first | exact T3 | exact T4 | exact T9 | exact T22 | exact T27 | exact T29 | exact T35 | exact T55) rfl (Nat.le_of_ble_eq_true rfl) ?_) | (refine kStA 0 rfl rfl (by first | exact T3 | exact T4 | exact T9 | exact T22 | exact T27 | exact T29 | exact T35 | exact T55) rfl rfl (Nat.le_of_ble_eq_true rfl) ?_)); clear H; intro w1 H; simp only [List.set_cons_zero, List.set_cons_succ] at H; (try simp only [lay, List.take_zero, List.nil_append, List.length_cons, List.length_nil, Nat.zero_add, Nat.reduceAdd, List.drop_succ_cons, List.drop_zero, List.drop_nil, List.append_nil, List.take_succ_cons, List.cons_append] at H))
    | ((with_reducible refine gBx ?_); refine bxA H rfl rfl rfl ?_; clear H; intro b1 w1 H)
    | ((with_reducible refine gBs ?_); (first | (refine bs1 H rfl (by first | exact S48) rfl (Nat.le_of_ble_eq_true rfl) (Nat.le_of_ble_eq_true rfl) rfl ?_) | (refine wl_buildSlice0 rfl (by first | exact S48) H ?_)); clear H; intro b1 w1 H)
    | ((with_reducible refine gEq ?_); (first | (refine wl_cmp rfl rfl rfl rfl ?_) | (refine wl_scmp rfl rfl rfl rfl ?_)); intro rb hrb; cases rb <;> (first | (exfalso; simp at hrb; done) | ((try simp only [decide_eq_true_eq, decide_eq_false_iff_not, beq_iff_eq, beq_eq_false_iff_ne, ne_eq, bne_iff_ne, bne_eq_false_iff_eq, Bool.not_eq_true', Bool.not_eq_false', gt_iff_lt, ge_iff_le, Int.not_lt, Int.not_le, Decidable.not_not] at hrb); (try subst hrb); (try (exfalso; omega)))))
    | ((with_reducible refine gRg ?_); refine wp_region_text rfl (by decide +kernel) ?_; replace H := H.drew)
    | ((with_reducible refine EndQ.intro ?_ ?_); (· kernel_rfl)))
  go_loopg [5] n (fun g v5 wr => ∃ j : Nat, v5 = .int .i64 (j : Int) ∧ j + g = n ∧ Hp w0 D R wr)
  case atStart => exact ⟨0, rfl, by omega, H⟩
  case round =>
    clear H
    obtain ⟨j, rfl, hjg, H⟩ := hrel
    by_cases hj : j < n
    · obtain ⟨y, hy⟩ : ∃ y, l[j]? = some y := ⟨_, List.getElem?_eq_getElem (by rw [HN.out]; exact hj)⟩
      obtain ⟨bx, ox, rfl, hA⟩ := HX.out.some_of (by rw [stas_len, HN.out]; omega)
      obtain ⟨by_, oy, rfl, hB⟩ := HY.out.some_of (by rw [stas_len, HN.out]; omega)
      have HG := Lib.hid (stas_pick hy)
      have HS := Lib.hid (beq_self y)
      have hgp : 0 < gk := by omega
      clear hy
      go_wp2_with (first
    | ((with_reducible refine gLd ?_); first | (refine wl_loadR (k := j * 9) (hA [] _ H) rfl rfl (by first | rfl | omega) T29 HG.out ?_) | (refine wl_loadR (k := j * 9) (hB [] _ H) rfl rfl (by first | rfl | omega) T29 HG.out ?_))
    | ((with_reducible refine gEq ?_); refine wl_neS rfl rfl rfl HS.out ?_)
    | ((with_reducible refine gLd ?_); refine eLd H rfl rfl ?_; first | (refine kLd 0 rfl rfl (by first | exact T3 | exact T4 | exact T9 | exact T22 | exact T27 | exact T29 | exact T35 | exact T55) rfl ?_) | (refine kLdA 0 rfl rfl (by first | exact T3 | exact T4 | exact T9 | exact T22 | exact T27 | exact T29 | exact T35 | exact T55) (Nat.le_of_ble_eq_true rfl) (by simp only [List.drop_succ_cons, List.drop_zero, List.take_succ_cons, List.take_zero, List.set_cons_zero, List.set_cons_succ]; rfl) ?_))
    | ((with_reducible refine gSt ?_); (first | (refine eSt H rfl rfl ⟨.int _ _, rfl, ?_⟩) | (refine eSt H rfl rfl ⟨.bool _, rfl, ?_⟩) | (refine eSt H rfl rfl ⟨.slice _ _ _, rfl, ?_⟩) | (refine eSt H rfl rfl ⟨.pointer _, rfl, ?_⟩) | (refine eSt H rfl rfl ⟨.string _, rfl, ?_⟩) | (refine eSt H rfl rfl ⟨.agg (List.toArray _), rfl, ?_⟩)); (first | (refine kSt 0 rfl rfl (by first | exact T3 | exact T4 | exact T9 | exact T22 | exact T27 | exact T29 | exact T35 | exact T55) rfl (Nat.le_of_ble_eq_true rfl) ?_) | (refine kStA 0 rfl rfl (by first | exact T3 | exact T4 | exact T9 | exact T22 | exact T27 | exact T29 | exact T35 | exact T55) rfl rfl (Nat.le_of_ble_eq_true rfl) ?_)); clear H; intro w1 H; simp only [List.set_cons_zero, List.set_cons_succ] at H; (try simp only [lay, List.take_zero, List.nil_append, List.length_cons, List.length_nil, Nat.zero_add, Nat.reduceAdd, List.drop_succ_cons, List.drop_zero, List.drop_nil, List.append_nil, List.take_succ_cons, List.cons_append] at H))
    | ((with_reducible refine gBx ?_); refine bxA H rfl rfl rfl ?_; clear H; intro b1 w1 H)
    | ((with_reducible refine gBs ?_); (first | (refine bs1 H rfl (by first | exact S48) rfl (Nat.le_of_ble_eq_true rfl) (Nat.le_of_ble_eq_true rfl) rfl ?_) | (refine wl_buildSlice0 rfl (by first | exact S48) H ?_)); clear H; intro b1 w1 H)
    | ((with_reducible refine gEq ?_); (first | (refine wl_cmp rfl rfl rfl rfl ?_) | (refine wl_scmp rfl rfl rfl rfl ?_)); intro rb hrb; cases rb <;> (first | (exfalso; simp at hrb; done) | ((try simp only [decide_eq_true_eq, decide_eq_false_iff_not, beq_iff_eq, beq_eq_false_iff_ne, ne_eq, bne_iff_ne, bne_eq_false_iff_eq, Bool.not_eq_true', Bool.not_eq_false', gt_iff_lt, ge_iff_le, Int.not_lt, Int.not_le, Decidable.not_not] at hrb); (try subst hrb); (try (exfalso; omega)))))
    | ((with_reducible refine gRg ?_); refine wp_region_text rfl (by decide +kernel) ?_; replace H := H.drew)
    | ((with_reducible refine EndQ.intro ?_ ?_); (· kernel_rfl)))
      all_goals
        go_roundg (gk - 1)
        case measure => omega
        case rel => exact ⟨j + 1, by go_num, by omega, H⟩
    · obtain rfl : j = n := by omega
      go_wp2_with (first
    | ((with_reducible refine gLd ?_); refine eLd H rfl rfl ?_; first | (refine kLd 0 rfl rfl (by first | exact T3 | exact T4 | exact T9 | exact T22 | exact T27 | exact T29 | exact T35 | exact T55) rfl ?_) | (refine kLdA 0 rfl rfl (by first | exact T3 | exact T4 | exact T9 | exact T22 | exact T27 | exact T29 | exact T35 | exact T55) (Nat.le_of_ble_eq_true rfl) (by simp only [List.drop_succ_cons, List.drop_zero, List.take_succ_cons, List.take_zero, List.set_cons_zero, List.set_cons_succ]; rfl) ?_))
    | ((with_reducible refine gSt ?_); (first | (refine eSt H rfl rfl ⟨.int _ _, rfl, ?_⟩) | (refine eSt H rfl rfl ⟨.bool _, rfl, ?_⟩) | (refine eSt H rfl rfl ⟨.slice _ _ _, rfl, ?_⟩) | (refine eSt H rfl rfl ⟨.pointer _, rfl, ?_⟩) | (refine eSt H rfl rfl ⟨.string _, rfl, ?_⟩) | (refine eSt H rfl rfl ⟨.agg (List.toArray _), rfl, ?_⟩)); (first | (refine kSt 0 rfl rfl (by first | exact T3 | exact T4 | exact T9 | exact T22 | exact T27 | exact T29 | exact T35 | exact T55) rfl (Nat.le_of_ble_eq_true rfl) ?_) | (refine kStA 0 rfl rfl (by first | exact T3 | exact T4 | exact T9 | exact T22 | exact T27 | exact T29 | exact T35 | exact T55) rfl rfl (Nat.le_of_ble_eq_true rfl) ?_)); clear H; intro w1 H; simp only [List.set_cons_zero, List.set_cons_succ] at H; (try simp only [lay, List.take_zero, List.nil_append, List.length_cons, List.length_nil, Nat.zero_add, Nat.reduceAdd, List.drop_succ_cons, List.drop_zero, List.drop_nil, List.append_nil, List.take_succ_cons, List.cons_append] at H))
    | ((with_reducible refine gBx ?_); refine bxA H rfl rfl rfl ?_; clear H; intro b1 w1 H)
    | ((with_reducible refine gBs ?_); (first | (refine bs1 H rfl (by first | exact S48) rfl (Nat.le_of_ble_eq_true rfl) (Nat.le_of_ble_eq_true rfl) rfl ?_) | (refine wl_buildSlice0 rfl (by first | exact S48) H ?_)); clear H; intro b1 w1 H)
    | ((with_reducible refine gEq ?_); (first | (refine wl_cmp rfl rfl rfl rfl ?_) | (refine wl_scmp rfl rfl rfl rfl ?_)); intro rb hrb; cases rb <;> (first | (exfalso; simp at hrb; done) | ((try simp only [decide_eq_true_eq, decide_eq_false_iff_not, beq_iff_eq, beq_eq_false_iff_ne, ne_eq, bne_iff_ne, bne_eq_false_iff_eq, Bool.not_eq_true', Bool.not_eq_false', gt_iff_lt, ge_iff_le, Int.not_lt, Int.not_le, Decidable.not_not] at hrb); (try subst hrb); (try (exfalso; omega)))))
    | ((with_reducible refine gRg ?_); refine wp_region_text rfl (by decide +kernel) ?_; replace H := H.drew)
    | ((with_reducible refine EndQ.intro ?_ ?_); (· kernel_rfl)))
      all_goals (go_ret; exact ⟨rfl, H⟩)
end Go.Proofs.Ytjflokgplehfgaa
