/- What functions of layer 1 compute. -/
import Derived.Test.YtajaloaknfbobaaPlain
import Derived.Test.YtajaloaknfbobaaW12
import Derived.OwnWalk
import Derived.WalkKit
import Derived.WalkLawsBesides
import Derived.Lib.Hide
import Derived.Deep.LoopGhost
import Derived.WalkSpells
set_option linter.unusedVariables false
set_option linter.unusedSimpArgs false
namespace Go.Proofs.Ytajaloaknfbobaa
open Go.RowKit Go.Gx Go.Gx.Cod
set_option maxRecDepth 100000

section
variable {w0 w : World} {D : Nat → Prop} {R : List Ent}
theorem openM_num {l : List UInt8} {k v : Nat} {er : Int} (h : numM l 0 0 = (k, er, v)) (he : ¬ er = 0) : openM l = ([], 0, er) := by
  unfold openM; rw [h]; rw [if_pos he]
theorem openM_long {l : List UInt8} {k v : Nat} (h : numM l 0 0 = (k, 0, v)) (hv : 4096 < v) : openM l = ([], 0, 1) := by
  unfold openM; rw [h]; rw [if_neg (by simp), if_pos hv]
theorem openM_short {l : List UInt8} {k v : Nat} (h : numM l 0 0 = (k, 0, v)) (hv : v ≤ 4096) (hs : l.length < k + v + 4) : openM l = ([], 0, 3) := by
  unfold openM; rw [h]; rw [if_neg (by simp), if_neg (by simp; omega), if_pos hs]
theorem openM_sum {l : List UInt8} {k v : Nat} (h : numM l 0 0 = (k, 0, v)) (hv : v ≤ 4096) (hs : k + v + 4 ≤ l.length) (hc : ¬ le ((l.drop (k + v)).take 4) 0 = (crc ((l.drop k).take v)).toNat) : openM l = ([], 0, 12) := by
  unfold openM; rw [h]; rw [if_neg (by simp), if_neg (by simp; omega), if_neg (by simp; omega), if_pos hc]
theorem openM_ok {l : List UInt8} {k v : Nat} (h : numM l 0 0 = (k, 0, v)) (hv : v ≤ 4096) (hs : k + v + 4 ≤ l.length) (hc : le ((l.drop (k + v)).take 4) 0 = (crc ((l.drop k).take v)).toNat) : openM l = ((l.drop k).take v, k + v + 4, 0) := by
  unfold openM; rw [h]; rw [if_neg (by simp), if_neg (by simp; omega), if_neg (by simp; omega), if_neg (by simpa using hc)]
/-- Open, whatever comes of it -/
theorem Open_spec (H : Hp w0 D R w) {x : Option Addr} {c n : Nat} {l : List UInt8} (hX : Rd w0 D R x (bs l)) (hl : l.length ≤ 1000000) (hc : l.length ≤ c) (hn : n = l.length) {ld : List UInt8} {m : Nat} {er : Int} (ho : openM l = (ld, m, er)) :
    Calls Try.prog 12 #[.slice x n c] w fun e w' => ∃ a' c', e = .returned (.tuple #[.slice (adr a' 0) ld.length c', .int .i64 (m : Int), .int .i64 er]) ∧ Hp w0 D (eB a' c' ld :: R) w' := by
  subst hn
  have hbad : ∀ (er : Int), (Calls Try.prog 12 #[.slice x l.length c] w fun e w' => e = .returned (.tuple #[.slice none 0 0, .int .i64 0, .int .i64 er]) ∧ Hp w0 D R w') →
      Calls Try.prog 12 #[.slice x l.length c] w fun e w' => ∃ a' c', e = .returned (.tuple #[.slice (adr a' 0) ([] : List UInt8).length c', .int .i64 ((0 : Nat) : Int), .int .i64 er]) ∧ Hp w0 D (eB a' c' [] :: R) w' := by
    intro er hcall
    exact hcall.mono fun e w' hh => ⟨none, 0, hh.1, hh.2.consNone 5⟩
  rcases hnum : numM l 0 0 with ⟨k, e0, v⟩
  have hk : k ≤ l.length := by have := numM_le l 0 0; rw [hnum] at this; exact this
  have hnd : numM (l.drop 0) 0 0 = (k, e0, v) := by rw [List.drop_zero]; exact hnum
  by_cases he : e0 = 0
  · subst he
    by_cases hv : 4096 < v
    · rw [openM_long hnum hv] at ho
      cases ho
      exact hbad 1 (Open_long H hX hl hc hv hnd)
    · by_cases hs : l.length < k + v + 4
      · rw [openM_short hnum (by omega) hs] at ho
        cases ho
        exact hbad 3 (Open_short H hX hl hc hk (by omega) hs hnd)
      · by_cases hcm : le ((l.drop (k + v)).take 4) 0 = (crc ((l.drop k).take v)).toNat
        · rw [openM_ok hnum (by omega) (by omega) hcm] at ho
          cases ho
          have hlen : ((l.drop k).take v).length = v := by simp; omega
          rw [hlen]
          exact Open_ok H hX hl hc hk (by omega) (by omega) hnd hcm
        · rw [openM_sum hnum (by omega) (by omega) hcm] at ho
          cases ho
          exact hbad 12 (Open_sum H hX hl hc hk (by omega) (by omega) hnd hcm)
  · rw [openM_num hnum he] at ho
    cases ho
    exact hbad er (Open_num H hX hl hc he hnd)
end
/-- frames, one behind the other -/
def framesM : Nat → List UInt8 → List (List UInt8) × Nat × Int
  | 0, _ => ([], 0, 0)
  | f + 1, l =>
    if l = [] then ([], 0, 0)
    else if (openM l).2.2 ≠ 0 then ([], 0, (openM l).2.2)
    else ((openM l).1 :: (framesM f (l.drop (openM l).2.1)).1, (openM l).2.1 + (framesM f (l.drop (openM l).2.1)).2.1, (framesM f (l.drop (openM l).2.1)).2.2)
theorem openM_len {l ld : List UInt8} {n : Nat} (h : openM l = (ld, n, 0)) : 4 ≤ n ∧ n ≤ l.length ∧ ld.length ≤ 4096 := by
  unfold openM at h
  split at h
  · rename_i h1; simp at h; exact absurd h.2.2 h1
  · split at h
    · simp at h
    · split at h
      · simp at h
      · split at h
        · simp at h
        · simp only [Prod.mk.injEq] at h
          obtain ⟨rfl, rfl, _⟩ := h
          refine ⟨by omega, by omega, ?_⟩
          simp; omega
theorem openM_err {l ld : List UInt8} {n : Nat} {er : Int} (h : openM l = (ld, n, er)) : 0 ≤ er ∧ er ≤ 12 := by
  have he := numM_er l 0 0
  unfold openM at h
  split at h
  · simp at h; omega
  · repeat' split at h
    all_goals simp at h; omega
abbrev cellR (r : Option Nat × Nat × List UInt8) : Value := .slice (adr r.1 0) r.2.2.length r.2.1
abbrev entR (r : Option Nat × Nat × List UInt8) : Ent := eB r.1 r.2.1 r.2.2
/-- a list of rows of bytes in memory, the newest row first -/
abbrev eSl (a : Option Nat) (c : Nat) (rs : List (Option Nat × Nat × List UInt8)) : Ent := ⟨a, (rs.map cellR).reverse, 22, c⟩
theorem cells_len (rs : List (Option Nat × Nat × List UInt8)) : ((rs.map cellR).reverse).length = rs.length * 1 := by simp
theorem cells_one (r : Option Nat × Nat × List UInt8) : [cellR r].all (·.oneCell') = true := by simp [Value.oneCell', cellR]
theorem cells_put (rs : List (Option Nat × Nat × List UInt8)) (r : Option Nat × Nat × List UInt8) : (rs.map cellR).reverse ++ ([cellR r].drop 0).take (1 * 1) = ((r :: rs).map cellR).reverse := by simp
set_option maxHeartbeats 4000000 in
theorem Frames_spec {w0 w : World} {D : Nat → Prop} {R : List Ent} {x : Option Addr} {c : Nat} {l : List UInt8} (H : Hp w0 D (R) w) (hX : Rd w0 D R x (bs l)) (hl : l.length ≤ 1000000) (hc : l.length ≤ c) {ls : List (List UInt8)} {m : Nat} {er : Int} (hf : framesM (l.length + 1) l = (ls, m, er)) :
    Calls Try.prog 30 #[.slice x l.length c] w fun e w' => ∃ rs af cf, e = .returned (.tuple #[.slice (adr af 0) rs.length cf, .int .i64 (m : Int), .int .i64 er]) ∧ (rs.map (·.2.2)).reverse = ls ∧ Hp w0 D (eSl af cf rs :: (rs.map entR ++ R)) w' := by
  have HX := Lib.hid hX
  have HF := Lib.hid hf
  clear hX hf
  try simp only [eR, eB, eSl] at H
  try simp only [eR, eB, eSl]
  go_enter Try.func30, Try.ntmps30
  go_wp2_with (first
    | ((with_reducible refine gLd ?_); refine eLd H rfl rfl ?_; first | (refine kLdB 0 rfl rfl (by first | exact T3 | exact T5 | exact T22 | exact T23 | exact T24 | exact T33 | exact T38 | exact T9 | exact T2 | exact T4 | exact T54 | exact T69 | exact T66 | exact T72) rfl ?_; intro rb hrb; cases rb <;> (first | (exfalso; simp at hrb; done) | ((try simp only [decide_eq_true_eq, decide_eq_false_iff_not, beq_iff_eq, beq_eq_false_iff_ne, ne_eq, bne_iff_ne, bne_eq_false_iff_eq, Bool.not_eq_true', Bool.not_eq_false', gt_iff_lt, ge_iff_le, Int.not_lt, Int.not_le, Decidable.not_not] at hrb); (try subst hrb); (try (exfalso; omega))))) | (refine kLd 0 rfl rfl (by first | exact T3 | exact T5 | exact T22 | exact T23 | exact T24 | exact T33 | exact T38 | exact T9 | exact T2 | exact T4 | exact T54 | exact T69 | exact T66 | exact T72) rfl ?_) | (refine kLdA 0 rfl rfl (by first | exact T3 | exact T5 | exact T22 | exact T23 | exact T24 | exact T33 | exact T38 | exact T9 | exact T2 | exact T4 | exact T54 | exact T69 | exact T66 | exact T72) (Nat.le_of_ble_eq_true rfl) (by simp only [eR, eB, eSl, List.drop_succ_cons, List.drop_zero, List.take_succ_cons, List.take_zero, List.set_cons_zero, List.set_cons_succ]; rfl) ?_))
    | ((with_reducible refine gSt ?_); (first | (refine eSt H rfl rfl ⟨.int _ _, rfl, ?_⟩) | (refine eSt H rfl rfl ⟨.bool _, rfl, ?_⟩) | (refine eSt H rfl rfl ⟨.slice _ _ _, rfl, ?_⟩) | (refine eSt H rfl rfl ⟨.pointer _, rfl, ?_⟩) | (refine eSt H rfl rfl ⟨.string _, rfl, ?_⟩) | (refine eSt H rfl rfl ⟨.agg (List.toArray _), rfl, ?_⟩)); (first | (refine kSt 0 rfl rfl (by first | exact T3 | exact T5 | exact T22 | exact T23 | exact T24 | exact T33 | exact T38 | exact T9 | exact T2 | exact T4 | exact T54 | exact T69 | exact T66 | exact T72) rfl (Nat.le_of_ble_eq_true rfl) ?_) | (refine kStA 0 rfl rfl (by first | exact T3 | exact T5 | exact T22 | exact T23 | exact T24 | exact T33 | exact T38 | exact T9 | exact T2 | exact T4 | exact T54 | exact T69 | exact T66 | exact T72) rfl rfl (Nat.le_of_ble_eq_true rfl) ?_)); clear H; intro w1 H; simp only [List.set_cons_zero, List.set_cons_succ] at H; (try simp only [lay, List.take_zero, List.nil_append, List.length_cons, List.length_nil, Nat.zero_add, Nat.reduceAdd, List.drop_succ_cons, List.drop_zero, List.drop_nil, List.append_nil, List.take_succ_cons, List.cons_append] at H))
    | ((with_reducible refine gBx ?_); refine bxA H rfl rfl rfl ?_; clear H; intro b1 w1 H)
    | ((with_reducible refine gBs ?_); (first | (refine bs1 H rfl (by first | exact S22 | exact S54 | exact S61) rfl (Nat.le_of_ble_eq_true rfl) (Nat.le_of_ble_eq_true rfl) rfl ?_) | (refine wl_buildSlice0 rfl (by first | exact S22 | exact S54 | exact S61) H ?_)); clear H; intro b1 w1 H)
    | ((with_reducible refine gEq ?_); (first | (refine wl_cmp rfl rfl rfl rfl ?_) | (refine wl_scmp rfl rfl rfl rfl ?_)); intro rb hrb; cases rb <;> (first | (exfalso; simp at hrb; done) | ((try simp only [decide_eq_true_eq, decide_eq_false_iff_not, beq_iff_eq, beq_eq_false_iff_ne, ne_eq, bne_iff_ne, bne_eq_false_iff_eq, Bool.not_eq_true', Bool.not_eq_false', gt_iff_lt, ge_iff_le, Int.not_lt, Int.not_le, Decidable.not_not] at hrb); (try subst hrb); (try (exfalso; omega)))))
    | ((with_reducible refine gRg ?_); refine wp_region_text rfl (by decide +kernel) ?_; replace H := H.drew)
    | ((with_reducible refine EndQ.intro ?_ ?_); (· kernel_rfl)))
  go_loopg [5, 6] (l.length + 1) (fun g v5 v6 wr => ∃ (at_ : Nat) (rs : List (Option Nat × Nat × List UInt8)) (af : Option Nat) (cf : Nat), at_ ≤ l.length ∧ rs.length ≤ at_ ∧ v5 = .slice (adr af 0) rs.length cf ∧ v6 = .int .i64 (at_ : Int) ∧ l.length < at_ + g ∧ (rs.map (·.2.2)).reverse ++ (framesM g (l.drop at_)).1 = ls ∧ at_ + (framesM g (l.drop at_)).2.1 = m ∧ (framesM g (l.drop at_)).2.2 = er ∧ Hp w0 D (eSl af cf rs :: (rs.map entR ++ R)) wr)
  case atStart => exact ⟨0, [], none, 0, by omega, by simp, rfl, rfl, by omega, by rw [List.drop_zero, HF.out]; rfl, by rw [List.drop_zero, HF.out]; simp, by rw [List.drop_zero, HF.out], H.consNone 22⟩
  case round =>
    clear H HF
    obtain ⟨at_, rs, af, cf, hat, hrs, rfl, rfl, hg, h1, h2, h3, H⟩ := hrel
    obtain ⟨g1, hg1⟩ : ∃ g1, gk = g1 + 1 := ⟨gk - 1, by omega⟩
    by_cases hk : at_ < l.length
    · have hne : ¬ l.drop at_ = [] := by intro e; have := congrArg List.length e; simp at this; omega
      rcases ho : openM (l.drop at_) with ⟨ld, n, e0⟩
      have HO := Lib.hid ho
      have hsub : Rd w0 D (eSl af cf rs :: (rs.map entR ++ R)) (subA x c at_ 1) (bs (l.drop at_)) := by
        have h9 := HX.out.sub (cap := c) (lo := at_) (hi := l.length) (by omega) (by omega)
        have h8 := h9.eq (ys := bs (l.drop at_)) (by rw [← bs_drop, ← bs_take, List.take_of_length_le (by simp)])
        exact (h8.push (rs.map entR)).cons _
      have HSB := Lib.hid hsub
      rw [hg1, framesM, if_neg hne, ho] at h1 h2 h3
      clear hsub
      have hdl : (l.drop at_).length = l.length - at_ := by simp
      by_cases he : e0 = 0
      · subst he
        obtain ⟨hn1, hn2, hld⟩ := openM_len ho
        rw [if_neg (by simp)] at h1 h2 h3
        simp only [List.drop_drop] at h1 h2 h3
        have HD1 := Lib.hid h1
        have HD2 := Lib.hid h2
        have HD3 := Lib.hid h3
        have hg2 : 0 < gk := by omega
        have HG := Lib.hid hg1
        clear h1 h2 h3 ho hne hg1
        go_wp2_with (first
    | ((with_reducible refine gSl ?_); refine wl_sl (v := .slice (subA x c at_ 1) (l.length - at_) (c - at_)) rfl (slice_loI S22 at_ rfl (by omega)) ?_)
    | (go_at_call 12; (with_reducible refine (Open_spec (l := l.drop at_) H HSB.out (by simp; omega) (by simp; omega) (by simp) HO.out).mono ?_); rintro e w1 ⟨ao, co, rfl, H1⟩; clear H; have H := H1; clear H1)
    | ((with_reducible refine gBs ?_); refine wl_buildSlice1 (v := cellR (ao, co, ld)) rfl rfl S54 rfl (by decide) (by decide) H ?_; clear H; intro bs1 w1 H; replace H : Hp w0 D (⟨some bs1, [cellR (ao, co, ld)], 22, 1⟩ :: _) w1 := H)
    | ((with_reducible refine gAp ?_); refine wl_append 2 0 rfl H rfl rfl rfl rfl S54 (by decide) (Or.inl rfl) (cells_len _) (Nat.mul_one _).symm (fun h => by cases h) (Nat.le_of_ble_eq_true rfl) (cells_one _) (by unfold maxLen; omega) (by omega) ?_; clear H; intro a' cap' w1 H h0; clear h0; simp only [List.set_cons_zero, List.set_cons_succ, Nat.mul_one] at H; replace H := H.drop; rw [cells_put] at H)
    | ((with_reducible refine gLd ?_); refine eLd H rfl rfl ?_; first | (refine kLdB 0 rfl rfl (by first | exact T3 | exact T5 | exact T22 | exact T23 | exact T24 | exact T33 | exact T38 | exact T9 | exact T2 | exact T4 | exact T54 | exact T69 | exact T66 | exact T72) rfl ?_; intro rb hrb; cases rb <;> (first | (exfalso; simp at hrb; done) | ((try simp only [decide_eq_true_eq, decide_eq_false_iff_not, beq_iff_eq, beq_eq_false_iff_ne, ne_eq, bne_iff_ne, bne_eq_false_iff_eq, Bool.not_eq_true', Bool.not_eq_false', gt_iff_lt, ge_iff_le, Int.not_lt, Int.not_le, Decidable.not_not] at hrb); (try subst hrb); (try (exfalso; omega))))) | (refine kLd 0 rfl rfl (by first | exact T3 | exact T5 | exact T22 | exact T23 | exact T24 | exact T33 | exact T38 | exact T9 | exact T2 | exact T4 | exact T54 | exact T69 | exact T66 | exact T72) rfl ?_) | (refine kLdA 0 rfl rfl (by first | exact T3 | exact T5 | exact T22 | exact T23 | exact T24 | exact T33 | exact T38 | exact T9 | exact T2 | exact T4 | exact T54 | exact T69 | exact T66 | exact T72) (Nat.le_of_ble_eq_true rfl) (by simp only [eR, eB, eSl, List.drop_succ_cons, List.drop_zero, List.take_succ_cons, List.take_zero, List.set_cons_zero, List.set_cons_succ]; rfl) ?_))
    | ((with_reducible refine gSt ?_); (first | (refine eSt H rfl rfl ⟨.int _ _, rfl, ?_⟩) | (refine eSt H rfl rfl ⟨.bool _, rfl, ?_⟩) | (refine eSt H rfl rfl ⟨.slice _ _ _, rfl, ?_⟩) | (refine eSt H rfl rfl ⟨.pointer _, rfl, ?_⟩) | (refine eSt H rfl rfl ⟨.string _, rfl, ?_⟩) | (refine eSt H rfl rfl ⟨.agg (List.toArray _), rfl, ?_⟩)); (first | (refine kSt 0 rfl rfl (by first | exact T3 | exact T5 | exact T22 | exact T23 | exact T24 | exact T33 | exact T38 | exact T9 | exact T2 | exact T4 | exact T54 | exact T69 | exact T66 | exact T72) rfl (Nat.le_of_ble_eq_true rfl) ?_) | (refine kStA 0 rfl rfl (by first | exact T3 | exact T5 | exact T22 | exact T23 | exact T24 | exact T33 | exact T38 | exact T9 | exact T2 | exact T4 | exact T54 | exact T69 | exact T66 | exact T72) rfl rfl (Nat.le_of_ble_eq_true rfl) ?_)); clear H; intro w1 H; simp only [List.set_cons_zero, List.set_cons_succ] at H; (try simp only [lay, List.take_zero, List.nil_append, List.length_cons, List.length_nil, Nat.zero_add, Nat.reduceAdd, List.drop_succ_cons, List.drop_zero, List.drop_nil, List.append_nil, List.take_succ_cons, List.cons_append] at H))
    | ((with_reducible refine gBx ?_); refine bxA H rfl rfl rfl ?_; clear H; intro b1 w1 H)
    | ((with_reducible refine gBs ?_); (first | (refine bs1 H rfl (by first | exact S22 | exact S54 | exact S61) rfl (Nat.le_of_ble_eq_true rfl) (Nat.le_of_ble_eq_true rfl) rfl ?_) | (refine wl_buildSlice0 rfl (by first | exact S22 | exact S54 | exact S61) H ?_)); clear H; intro b1 w1 H)
    | ((with_reducible refine gEq ?_); (first | (refine wl_cmp rfl rfl rfl rfl ?_) | (refine wl_scmp rfl rfl rfl rfl ?_)); intro rb hrb; cases rb <;> (first | (exfalso; simp at hrb; done) | ((try simp only [decide_eq_true_eq, decide_eq_false_iff_not, beq_iff_eq, beq_eq_false_iff_ne, ne_eq, bne_iff_ne, bne_eq_false_iff_eq, Bool.not_eq_true', Bool.not_eq_false', gt_iff_lt, ge_iff_le, Int.not_lt, Int.not_le, Decidable.not_not] at hrb); (try subst hrb); (try (exfalso; omega)))))
    | ((with_reducible refine gRg ?_); refine wp_region_text rfl (by decide +kernel) ?_; replace H := H.drew)
    | ((with_reducible refine EndQ.intro ?_ ?_); (· kernel_rfl)))
        go_roundg g1
        case measure => have := HG.out; omega
        case rel =>
          refine ⟨at_ + n, (ao, co, ld) :: rs, a', cap', by omega, by simp; omega, by simp, by go_num, by have := HG.out; omega, ?_, ?_, HD3.out, ?_⟩
          · have := HD1.out; simpa using this
          · have := HD2.out; omega
          · exact H.swap (A := [_]) (B := [_])
      · rw [if_pos he] at h1 h2 h3
        simp only [List.append_nil, Nat.add_zero] at h1 h2
        subst h2
        subst h3
        have H1' := Lib.hid h1
        have hl0 : ld = [] := by
          have := ho
          unfold openM at this
          repeat' split at this
          all_goals first | (simp only [Prod.mk.injEq] at this; exact this.1.symm) | (simp only [Prod.mk.injEq] at this; exact absurd this.2.2.symm he)
        subst hl0
        clear h1 ho hne
        go_wp2_with (first
    | ((with_reducible refine gSl ?_); refine wl_sl (v := .slice (subA x c at_ 1) (l.length - at_) (c - at_)) rfl (slice_loI S22 at_ rfl (by omega)) ?_)
    | (go_at_call 12; (with_reducible refine (Open_spec (l := l.drop at_) H HSB.out (by simp; omega) (by simp; omega) (by simp) HO.out).mono ?_); rintro e w1 ⟨ao, co, rfl, H1⟩; clear H; have H := H1; clear H1)
    | ((with_reducible refine gLd ?_); refine eLd H rfl rfl ?_; first | (refine kLdB 0 rfl rfl (by first | exact T3 | exact T5 | exact T22 | exact T23 | exact T24 | exact T33 | exact T38 | exact T9 | exact T2 | exact T4 | exact T54 | exact T69 | exact T66 | exact T72) rfl ?_; intro rb hrb; cases rb <;> (first | (exfalso; simp at hrb; done) | ((try simp only [decide_eq_true_eq, decide_eq_false_iff_not, beq_iff_eq, beq_eq_false_iff_ne, ne_eq, bne_iff_ne, bne_eq_false_iff_eq, Bool.not_eq_true', Bool.not_eq_false', gt_iff_lt, ge_iff_le, Int.not_lt, Int.not_le, Decidable.not_not] at hrb); (try subst hrb); (try (exfalso; omega))))) | (refine kLd 0 rfl rfl (by first | exact T3 | exact T5 | exact T22 | exact T23 | exact T24 | exact T33 | exact T38 | exact T9 | exact T2 | exact T4 | exact T54 | exact T69 | exact T66 | exact T72) rfl ?_) | (refine kLdA 0 rfl rfl (by first | exact T3 | exact T5 | exact T22 | exact T23 | exact T24 | exact T33 | exact T38 | exact T9 | exact T2 | exact T4 | exact T54 | exact T69 | exact T66 | exact T72) (Nat.le_of_ble_eq_true rfl) (by simp only [eR, eB, eSl, List.drop_succ_cons, List.drop_zero, List.take_succ_cons, List.take_zero, List.set_cons_zero, List.set_cons_succ]; rfl) ?_))
    | ((with_reducible refine gSt ?_); (first | (refine eSt H rfl rfl ⟨.int _ _, rfl, ?_⟩) | (refine eSt H rfl rfl ⟨.bool _, rfl, ?_⟩) | (refine eSt H rfl rfl ⟨.slice _ _ _, rfl, ?_⟩) | (refine eSt H rfl rfl ⟨.pointer _, rfl, ?_⟩) | (refine eSt H rfl rfl ⟨.string _, rfl, ?_⟩) | (refine eSt H rfl rfl ⟨.agg (List.toArray _), rfl, ?_⟩)); (first | (refine kSt 0 rfl rfl (by first | exact T3 | exact T5 | exact T22 | exact T23 | exact T24 | exact T33 | exact T38 | exact T9 | exact T2 | exact T4 | exact T54 | exact T69 | exact T66 | exact T72) rfl (Nat.le_of_ble_eq_true rfl) ?_) | (refine kStA 0 rfl rfl (by first | exact T3 | exact T5 | exact T22 | exact T23 | exact T24 | exact T33 | exact T38 | exact T9 | exact T2 | exact T4 | exact T54 | exact T69 | exact T66 | exact T72) rfl rfl (Nat.le_of_ble_eq_true rfl) ?_)); clear H; intro w1 H; simp only [List.set_cons_zero, List.set_cons_succ] at H; (try simp only [lay, List.take_zero, List.nil_append, List.length_cons, List.length_nil, Nat.zero_add, Nat.reduceAdd, List.drop_succ_cons, List.drop_zero, List.drop_nil, List.append_nil, List.take_succ_cons, List.cons_append] at H))
    | ((with_reducible refine gBx ?_); refine bxA H rfl rfl rfl ?_; clear H; intro b1 w1 H)
    | ((with_reducible refine gBs ?_); (first | (refine bs1 H rfl (by first | exact S22 | exact S54 | exact S61) rfl (Nat.le_of_ble_eq_true rfl) (Nat.le_of_ble_eq_true rfl) rfl ?_) | (refine wl_buildSlice0 rfl (by first | exact S22 | exact S54 | exact S61) H ?_)); clear H; intro b1 w1 H)
    | ((with_reducible refine gEq ?_); (first | (refine wl_cmp rfl rfl rfl rfl ?_) | (refine wl_scmp rfl rfl rfl rfl ?_)); intro rb hrb; cases rb <;> (first | (exfalso; simp at hrb; done) | ((try simp only [decide_eq_true_eq, decide_eq_false_iff_not, beq_iff_eq, beq_eq_false_iff_ne, ne_eq, bne_iff_ne, bne_eq_false_iff_eq, Bool.not_eq_true', Bool.not_eq_false', gt_iff_lt, ge_iff_le, Int.not_lt, Int.not_le, Decidable.not_not] at hrb); (try subst hrb); (try (exfalso; omega)))))
    | ((with_reducible refine gRg ?_); refine wp_region_text rfl (by decide +kernel) ?_; replace H := H.drew)
    | ((with_reducible refine EndQ.intro ?_ ?_); (· kernel_rfl)))
        go_ret3
        exact ⟨rs, af, cf, rfl, H1'.out, (H.drop)⟩
    · have hae : at_ = l.length := by omega
      subst hae
      rw [List.drop_length, hg1, framesM, if_pos rfl] at h1 h2 h3
      simp only [List.append_nil, Nat.add_zero] at h1 h2
      subst h2
      subst h3
      have H1' := Lib.hid h1
      clear h1
      go_wp2_with (first
    | ((with_reducible refine gLd ?_); refine eLd H rfl rfl ?_; first | (refine kLdB 0 rfl rfl (by first | exact T3 | exact T5 | exact T22 | exact T23 | exact T24 | exact T33 | exact T38 | exact T9 | exact T2 | exact T4 | exact T54 | exact T69 | exact T66 | exact T72) rfl ?_; intro rb hrb; cases rb <;> (first | (exfalso; simp at hrb; done) | ((try simp only [decide_eq_true_eq, decide_eq_false_iff_not, beq_iff_eq, beq_eq_false_iff_ne, ne_eq, bne_iff_ne, bne_eq_false_iff_eq, Bool.not_eq_true', Bool.not_eq_false', gt_iff_lt, ge_iff_le, Int.not_lt, Int.not_le, Decidable.not_not] at hrb); (try subst hrb); (try (exfalso; omega))))) | (refine kLd 0 rfl rfl (by first | exact T3 | exact T5 | exact T22 | exact T23 | exact T24 | exact T33 | exact T38 | exact T9 | exact T2 | exact T4 | exact T54 | exact T69 | exact T66 | exact T72) rfl ?_) | (refine kLdA 0 rfl rfl (by first | exact T3 | exact T5 | exact T22 | exact T23 | exact T24 | exact T33 | exact T38 | exact T9 | exact T2 | exact T4 | exact T54 | exact T69 | exact T66 | exact T72) (Nat.le_of_ble_eq_true rfl) (by simp only [eR, eB, eSl, List.drop_succ_cons, List.drop_zero, List.take_succ_cons, List.take_zero, List.set_cons_zero, List.set_cons_succ]; rfl) ?_))
    | ((with_reducible refine gSt ?_); (first | (refine eSt H rfl rfl ⟨.int _ _, rfl, ?_⟩) | (refine eSt H rfl rfl ⟨.bool _, rfl, ?_⟩) | (refine eSt H rfl rfl ⟨.slice _ _ _, rfl, ?_⟩) | (refine eSt H rfl rfl ⟨.pointer _, rfl, ?_⟩) | (refine eSt H rfl rfl ⟨.string _, rfl, ?_⟩) | (refine eSt H rfl rfl ⟨.agg (List.toArray _), rfl, ?_⟩)); (first | (refine kSt 0 rfl rfl (by first | exact T3 | exact T5 | exact T22 | exact T23 | exact T24 | exact T33 | exact T38 | exact T9 | exact T2 | exact T4 | exact T54 | exact T69 | exact T66 | exact T72) rfl (Nat.le_of_ble_eq_true rfl) ?_) | (refine kStA 0 rfl rfl (by first | exact T3 | exact T5 | exact T22 | exact T23 | exact T24 | exact T33 | exact T38 | exact T9 | exact T2 | exact T4 | exact T54 | exact T69 | exact T66 | exact T72) rfl rfl (Nat.le_of_ble_eq_true rfl) ?_)); clear H; intro w1 H; simp only [List.set_cons_zero, List.set_cons_succ] at H; (try simp only [lay, List.take_zero, List.nil_append, List.length_cons, List.length_nil, Nat.zero_add, Nat.reduceAdd, List.drop_succ_cons, List.drop_zero, List.drop_nil, List.append_nil, List.take_succ_cons, List.cons_append] at H))
    | ((with_reducible refine gBx ?_); refine bxA H rfl rfl rfl ?_; clear H; intro b1 w1 H)
    | ((with_reducible refine gBs ?_); (first | (refine bs1 H rfl (by first | exact S22 | exact S54 | exact S61) rfl (Nat.le_of_ble_eq_true rfl) (Nat.le_of_ble_eq_true rfl) rfl ?_) | (refine wl_buildSlice0 rfl (by first | exact S22 | exact S54 | exact S61) H ?_)); clear H; intro b1 w1 H)
    | ((with_reducible refine gEq ?_); (first | (refine wl_cmp rfl rfl rfl rfl ?_) | (refine wl_scmp rfl rfl rfl rfl ?_)); intro rb hrb; cases rb <;> (first | (exfalso; simp at hrb; done) | ((try simp only [decide_eq_true_eq, decide_eq_false_iff_not, beq_iff_eq, beq_eq_false_iff_ne, ne_eq, bne_iff_ne, bne_eq_false_iff_eq, Bool.not_eq_true', Bool.not_eq_false', gt_iff_lt, ge_iff_le, Int.not_lt, Int.not_le, Decidable.not_not] at hrb); (try subst hrb); (try (exfalso; omega)))))
    | ((with_reducible refine gRg ?_); refine wp_region_text rfl (by decide +kernel) ?_; replace H := H.drew)
    | ((with_reducible refine EndQ.intro ?_ ?_); (· kernel_rfl)))
      go_ret3
      exact ⟨rs, af, cf, rfl, H1'.out, H⟩
end Go.Proofs.Ytajaloaknfbobaa
