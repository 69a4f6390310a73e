/- What functions of layer 4 compute. -/
import Derived.Test.YtgnmjeajmnmobaaW51
import Derived.Test.YtgnmjeajmnmobaaW17
import Derived.Test.YtgnmjeajmnmobaaGxMk
import Derived.Test.YtgnmjeajmnmobaaGxOpr
import Derived.Test.YtgnmjeajmnmobaaGxRegionT
import Derived.WalkKit
import Derived.Lib.Hide
import Derived.Deep.LoopGhost
import Derived.WalkSpells
set_option linter.unusedVariables false
set_option linter.unusedSimpArgs false
namespace Go.Proofs.Ytgnmjeajmnmobaa
open Go.RowKit Go.Gx Go.Gx.Kp
set_option maxRecDepth 100000
open KeyOrd
/-- two rising lists of the same members are one -/
theorem srt_ext {α : Type} {R : α → α → Prop} (irr : ∀ a, ¬ R a a) (asy : ∀ a b, R a b → ¬ R b a) : ∀ {l m : List α}, l.Pairwise R → m.Pairwise R → (∀ x, x ∈ l ↔ x ∈ m) → l = m
  | [], [], _, _, _ => rfl
  | [], y :: m, _, _, h => by have := (h y).2 (by simp); simp at this
  | x :: l, [], _, _, h => by have := (h x).1 (by simp); simp at this
  | x :: l, y :: m, hl, hm, h => by
    rw [List.pairwise_cons] at hl hm
    have e : x = y := by
      refine Classical.byContradiction fun hne => ?_
      have h1 : x ∈ m := by have := (h x).1 (by simp); simpa [hne] using this
      have h2 : y ∈ l := by have := (h y).2 (by simp); simpa [Ne.symm hne] using this
      exact asy _ _ (hl.1 y h2) (hm.1 x h1)
    subst e
    rw [srt_ext irr asy hl.2 hm.2 fun z => ?_]
    constructor
    · intro hz
      have : z ∈ x :: m := (h z).1 (by simp [hz])
      rcases List.mem_cons.1 this with rfl | h2
      · exact absurd (hl.1 z hz) (irr z)
      · exact h2
    · intro hz
      have : z ∈ x :: l := (h z).2 (by simp [hz])
      rcases List.mem_cons.1 this with rfl | h2
      · exact absurd (hm.1 z hz) (irr z)
      · exact h2
/-- what both have, by the second's keys and by the first's -/
def both1 (lx ly : Ents) : List (ByteArray × Int × Int) := ly.filterMap fun y => (lget lx y.1).map fun u => (y.1, u, y.2)
def both2 (lx ly : Ents) : List (ByteArray × Int × Int) := lx.filterMap fun x => (lget ly x.1).map fun q => (x.1, x.2, q)
theorem both_eq {lx ly : Ents} (hx : Srt lx) (hy : Srt ly) : both1 lx ly = both2 lx ly := by
  refine srt_ext (R := fun a b : ByteArray × Int × Int => lt a.1 b.1 = true) (fun a h => by rw [irr] at h; cases h) (fun a b h k => by rw [lt_asymm h] at k; cases k) ?_ ?_ ?_
  · refine List.Pairwise.filterMap _ (fun a a' h b hb b' hb' => ?_) hy
    simp only [Option.map_eq_some_iff] at hb hb'
    obtain ⟨u, _, rfl⟩ := hb
    obtain ⟨u', _, rfl⟩ := hb'
    exact h
  · refine List.Pairwise.filterMap _ (fun a a' h b hb b' hb' => ?_) hx
    simp only [Option.map_eq_some_iff] at hb hb'
    obtain ⟨u, _, rfl⟩ := hb
    obtain ⟨u', _, rfl⟩ := hb'
    exact h
  · rintro ⟨k, u, q⟩
    unfold both1 both2
    simp only [List.mem_filterMap, Option.map_eq_some_iff, Prod.mk.injEq]
    constructor
    · rintro ⟨y, hym, u', hu, rfl, rfl, rfl⟩
      exact ⟨(y.1, u'), (lget_mem hx).1 hu, y.2, (lget_mem hy).2 hym, rfl, rfl, rfl⟩
    · rintro ⟨x, hxm, q', hq, rfl, rfl, rfl⟩
      exact ⟨(x.1, q'), (lget_mem hy).1 hq, x.2, (lget_mem hx).2 hxm, rfl, rfl, rfl⟩
theorem ask_both {tx : T ByteArray Int} {ly : Ents} (hx : Srt tx.list) : askX tx ly = (both1 tx.list ly).map (·.2.1) ∧ askY tx ly = (both1 tx.list ly).map (·.2.2) := by
  unfold askX askY both1
  rw [List.map_filterMap, List.map_filterMap]
  constructor <;>
  · congr 1
    funext y
    rw [tget_eq _ _ hx]
    cases lget tx.list y.1 <;> rfl
theorem both2_snoc (lx ly : Ents) (x : ByteArray × Int) : both2 (lx ++ [x]) ly = both2 lx ly ++ (match lget ly x.1 with | some q => [(x.1, x.2, q)] | none => []) := by
  unfold both2
  rw [List.filterMap_append]
  cases h : lget ly x.1 <;> simp [h]
theorem both2_pre (lx ly : Ents) (i : Nat) : ∃ r, both2 lx ly = both2 (lx.take i) ly ++ r := by
  refine ⟨both2 (lx.drop i) ly, ?_⟩
  unfold both2
  rw [← List.filterMap_append, List.take_append_drop]
/-- the document's Merge -/
def mvalL (la : Ents) (y : ByteArray × Int) : Int := match lget la y.1 with | some u => mix u y.2 | none => y.2
def mergeL (la lb : Ents) : Ents := lb.foldl (fun out y => putL false out y.1 (mvalL la y)) la
theorem mergeL_snoc (la lb : Ents) (y : ByteArray × Int) : mergeL la (lb ++ [y]) = putL false (mergeL la lb) y.1 (mvalL la y) := by simp [mergeL]
theorem mergeL_aux (tx : T ByteArray Int) (hx : Srt tx.list) : ∀ (l : Ents) (t : T ByteArray Int), Srt t.list → l.foldl (fun out y => putL false out y.1 (mvalL tx.list y)) t.list = (l.foldl (fun t x => put t x.1 (mval tx x)) t).list
  | [], t, h => rfl
  | y :: l, t, h => by
    have hs : Srt (put t y.1 (mval tx y)).list := by rw [put_list _ _ _ h]; exact ins_srt h
    have e : mvalL tx.list y = mval tx y := by unfold mvalL mval; rw [tget_eq _ _ hx]; cases lget tx.list y.1 <;> rfl
    simp only [List.foldl_cons]
    rw [putL_ins h, e, ← put_list _ _ _ h]
    exact mergeL_aux tx hx l _ hs
theorem mergeL_list {tx : T ByteArray Int} (hx : Srt tx.list) (l : Ents) : mergeL tx.list l = (mergeT tx l).list := mergeL_aux tx hx l tx hx
theorem putL_len (k : ByteArray) (v : Int) : ∀ (d : Bool) (l : Ents), (putL d l k v).length ≤ 2 * l.length + 1
  | d, [] => by unfold putL; split <;> simp
  | d, x :: l => by
    have ih := putL_len k v (d || !lt x.1 k) l
    unfold putL
    simp only [List.length_append, List.length_cons]
    split <;> split <;> simp <;> omega
theorem putL_len1 {l : Ents} (k : ByteArray) (v : Int) (h : Srt l) : (putL false l k v).length ≤ l.length + 1 ∧ Srt (putL false l k v) := by
  rw [putL_ins h]
  refine ⟨?_, ins_srt h⟩
  clear h
  induction l with
  | nil => simp [ins]
  | cons x l ih =>
    unfold ins
    split
    · simp
    · split <;> simp <;> omega
theorem mergeL_len (la : Ents) (h : Srt la) : ∀ l : Ents, (mergeL la l).length ≤ la.length + l.length ∧ Srt (mergeL la l) := fun l => by
  induction hl : l.length generalizing l with
  | zero => rw [List.length_eq_zero_iff.1 hl]; exact ⟨Nat.le_refl _, h⟩
  | succ n ih =>
    rcases List.eq_nil_or_concat l with rfl | ⟨m, x, rfl⟩
    · simp at hl
    · rw [List.concat_eq_append] at *
      have h1 := ih m (by simpa using hl)
      rw [mergeL_snoc]
      have h2 := putL_len1 x.1 (mvalL la x) h1.2
      exact ⟨by have := h1.1; have := h2.1; omega, h2.2⟩
theorem take_sn2 {α : Type} {l : List α} {k : Nat} {x : α} (h : l[k]? = some x) : l.take (k + 1) = l.take k ++ [x] := by
  rw [List.take_add_one, h]; rfl
theorem rd_c2 {w0 : World} {D : Nat → Prop} {R : List Ent} {e : Ent} {x : Option Addr} {xs : List Value} (h : Rd w0 D R x xs) : Rd w0 D (e :: R) x xs := h.push [e]
theorem bs0E {P : Program} {w0 w : World} {D : Nat → Prop} {L : List Ent} {ops : Array Oper} {Q : Exit → Act → World → Prop} {a : Act} {rest : List Oper} {e : TypeId} {z : Value} {n m : Nat} {dst : Option Tmp} {t ty : TypeId} {pos : String} {af : Array Edge} {g : Option (Nat × Bool)}
    (hw : Region.wanted ⟨dst, .buildSlice t 0 #[], ty, pos, af, g⟩ (yielded ops a.tmps) = true) (ht : sI P t = some (e, z, n, m)) (H : Hp w0 D L w)
    (k : ∀ b w', Hp w0 D (⟨some b, [], e, 0⟩ :: L) w' → wpList P ops Q rest (a.put dst (.slice (some ⟨b, 0, none⟩) 0 0)) w') : wpList P ops Q (⟨dst, .buildSlice t 0 #[], ty, pos, af, g⟩ :: rest) a w := wl_buildSlice0 hw ht H k
section
variable {P : Program} {w : World} {a : Act}
theorem run_ldRA {b o o' k n : Nat} {vs : List Value} {v : Value} {agg : Bool} {dst : Option Tmp} {t ty : TypeId} {ad : Operand} {pos : String} {af : Array Edge} {g : Option (Nat × Bool)}
    (hO : ∀ (j : Nat) (u : Value), vs[j]? = some u → w.cell? ⟨b, o + j, none⟩ = some u) (hx : a.eval ad = .pointer (some ⟨b, o', none⟩)) (he : o' = o + k) (ht : tI P t = some (agg, n)) (hv : pick agg n vs k = some v) :
    (execOp a.eval ⟨dst, .load t ad, ty, pos, af, g⟩).run P w = .ok (.value v) w := by
  subst he
  simp only [execOp, hx, Instr.loadAt, Instr.sureAddr, Sem.run_bind, Sem.run_pure, Result.andThen_ok, cells_load hO ht hv]
end
theorem HEX1 {w0 w : World} {D : Nat → Prop} {R : List Ent} {e : Ent} (H : Hp w0 D (e :: R) w) : ∃ Lx, Hp w0 D (Lx ++ R) w := ⟨[e], H⟩
theorem HEX2 {w0 w : World} {D : Nat → Prop} {R : List Ent} {e f : Ent} (H : Hp w0 D (e :: f :: R) w) : ∃ Lx, Hp w0 D (Lx ++ R) w := ⟨[e, f], H⟩
set_option maxHeartbeats 4000000 in
theorem rMerge_spec {w0 w : World} {D : Nat → Prop} {R : List Ent} {x y : Option Addr} {c d na nb : Nat} {la lb r : Ents} (H : Hp w0 D (R) w) (hx : Rd w0 D R x (cellsE la)) (hn : la.length = na) (hy : Rd w0 D R y (cellsE lb)) (hm : lb.length = nb) (hsr : Srt la) (hb : na ≤ 1000) (hb2 : nb ≤ 1000) (hr : mergeL la lb = r) :
    Calls Try.prog 38 #[.slice x na c, .slice y nb d] w fun e w' => RPost w0 D R r e w' := by
  have HN := Lib.hid hn
  have HX := Lib.hid hx
  clear hn hx
  have HM := Lib.hid hm
  have HY := Lib.hid hy
  have HRR := Lib.hid hr
  have HSL := Lib.hid hsr
  clear hm hy hr hsr
  go_enter Try.func38, Try.ntmps38
  go_wp2_with (first
    | ((with_reducible refine gBs ?_); refine bs0E rfl S22 H ?_; clear H; intro b0 w1 H)
    | ((with_reducible refine gAp ?_); refine wl_appendR 0 (m := na) (news := cellsE la) rfl H rfl rfl rfl rfl S22 (by decide) rfl rfl rfl HX.out.nil (by rw [cellsE_len, HN.out]) (cellsE_one _) (HX.out.news [_] H) (by unfold maxLen; omega) (by omega) ?_; clear H; intro a8 c8 w1 H; simp only [List.set_cons_zero, List.nil_append, Nat.zero_add] at H; simp only [Nat.zero_add])
    | ((with_reducible refine gLd ?_); refine eLd H rfl rfl ?_; first | (refine kLd 0 rfl rfl (by first | exact T3 | exact T9 | exact T22 | exact T27 | exact T34 | exact T47 | exact T67) rfl ?_) | (refine kLdA 0 rfl rfl (by first | exact T3 | exact T9 | exact T22 | exact T27 | exact T34 | exact T47 | exact T67) (Nat.le_of_ble_eq_true rfl) (by simp only [List.drop_succ_cons, List.drop_zero, List.take_succ_cons, List.take_zero, List.set_cons_zero, List.set_cons_succ]; rfl) ?_))
    | ((with_reducible refine gSt ?_); (first | (refine eSt H rfl rfl ⟨.int _ _, rfl, ?_⟩) | (refine eSt H rfl rfl ⟨.bool _, rfl, ?_⟩) | (refine eSt H rfl rfl ⟨.slice _ _ _, rfl, ?_⟩) | (refine eSt H rfl rfl ⟨.pointer _, rfl, ?_⟩) | (refine eSt H rfl rfl ⟨.string _, rfl, ?_⟩) | (refine eSt H rfl rfl ⟨.agg (List.toArray _), rfl, ?_⟩)); (first | (refine kSt 0 rfl rfl (by first | exact T3 | exact T9 | exact T22 | exact T27 | exact T34 | exact T47 | exact T67) rfl (Nat.le_of_ble_eq_true rfl) ?_) | (refine kStA 0 rfl rfl (by first | exact T3 | exact T9 | exact T22 | exact T27 | exact T34 | exact T47 | exact T67) rfl rfl (Nat.le_of_ble_eq_true rfl) ?_)); clear H; intro w1 H; simp only [List.set_cons_zero, List.set_cons_succ] at H; (try simp only [lay, List.take_zero, List.nil_append, List.length_cons, List.length_nil, Nat.zero_add, Nat.reduceAdd, List.drop_succ_cons, List.drop_zero, List.drop_nil, List.append_nil, List.take_succ_cons, List.cons_append] at H))
    | ((with_reducible refine gBx ?_); refine bxA H rfl rfl rfl ?_; clear H; intro b1 w1 H)
    | ((with_reducible refine gBs ?_); (first | (refine bs1 H rfl (by first | exact S47 | exact S22) rfl (Nat.le_of_ble_eq_true rfl) (Nat.le_of_ble_eq_true rfl) rfl ?_) | (refine wl_buildSlice0 rfl (by first | exact S47 | exact S22) H ?_)); clear H; intro b1 w1 H)
    | ((with_reducible refine gEq ?_); (first | (refine wl_cmp rfl rfl rfl rfl ?_) | (refine wl_scmp rfl rfl rfl rfl ?_)); intro rb hrb; cases rb <;> (first | (exfalso; simp at hrb; done) | ((try simp only [decide_eq_true_eq, decide_eq_false_iff_not, beq_iff_eq, beq_eq_false_iff_ne, ne_eq, bne_iff_ne, bne_eq_false_iff_eq, Bool.not_eq_true', Bool.not_eq_false', gt_iff_lt, ge_iff_le, Int.not_lt, Int.not_le, Decidable.not_not] at hrb); (try subst hrb); (try (exfalso; omega)))))
    | ((with_reducible refine gRg ?_); refine wp_region_text rfl (by decide +kernel) ?_; replace H := H.drew)
    | ((with_reducible refine EndQ.intro ?_ ?_); (· kernel_rfl)))
  go_loopg [5, 6] nb (fun g v5 v6 wr => ∃ (j ol : Nat) (a : Option Nat) (c' : Nat) (out : Ents), v5 = .slice (adr a 0) ol c' ∧ v6 = .int .i64 (j : Int) ∧ j + g = nb ∧ Hid (out.length = ol) ∧ ol ≤ na + j ∧ Hid (mergeL la (lb.take j) = out) ∧ Hp w0 D (eE a c' out :: R) wr)
  case atStart => exact ⟨0, na, some a8, c8, la, rfl, rfl, by omega, HN, by omega, Lib.hid rfl, H⟩
  case round =>
    clear H
    obtain ⟨j, ol, a, c', out, rfl, rfl, hjg, HOL, hol, HI, H⟩ := hrel
    by_cases hj : j < nb
    · obtain ⟨⟨yk, yv⟩, hy⟩ : ∃ y, lb[j]? = some y := ⟨_, List.getElem?_eq_getElem (by rw [HM.out]; exact hj)⟩
      obtain ⟨bx, ox, rfl, hY⟩ := HY.out.some_of (by rw [cellsE_len, HM.out]; omega)
      have HK := Lib.hid (cellsE_get hy).1
      have HV := Lib.hid (cellsE_get hy).2.1
      dsimp only at HK HV
      have hst : mergeL la (lb.take (j + 1)) = putL false out yk (mvalL la (yk, yv)) := by rw [take_sn2 hy, mergeL_snoc, HI.out]
      obtain ⟨r1, hr1⟩ : ∃ z, putL false out yk (mvalL la (yk, yv)) = z := ⟨_, rfl⟩
      have hol1 : r1.length ≤ ol + 1 := by
        have h0 := (mergeL_len la HSL.out (lb.take j)).2
        rw [HI.out] at h0
        rw [← hr1, ← HOL.out]
        exact (putL_len1 yk _ h0).1
      have HI2 := Lib.hid (hst.trans hr1)
      obtain ⟨ov, hov⟩ : ∃ z, lget la yk = z := ⟨_, rfl⟩
      have HG := Lib.hid hov
      have hgp : 0 < gk := by omega
      have HJG := Lib.hid hjg
      have hol2 : ol ≤ 2000 := by omega
      have HOB := Lib.hid hol
      have HOB1 := Lib.hid hol1
      have GETW := 0
      clear hy hst hjg hol hol1
      cases ov with
      | some u0 =>
        obtain ⟨uu, hu⟩ : ∃ u, IntKind.i64.wrap (3 * u0) = u := ⟨_, rfl⟩
        obtain ⟨rr, hz⟩ : ∃ u, IntKind.i64.wrap (uu + yv) = u := ⟨_, rfl⟩
        have HU := Lib.hid hu
        have HZ := Lib.hid hz
        have HR := Lib.hid (show putL false out yk rr = r1 by rw [← hr1]; unfold mvalL; rw [hov]; show _ = putL false out yk (mix u0 yv); unfold mix; rw [hu, hz])
        clear hr1 hov hu hz
        go_wp2_with (first
    | ((with_reducible refine gLd ?_); refine wl_loadR (k := j * 2) (hY [_] _ H) rfl rfl (by first | rfl | omega) T9 HK.out ?_)
    | (go_at_call 35; ((with_reducible refine (rGet_spec H (rd_c2 HX.out) HN.out (by omega) HG.out).mono ?_); rintro e w1 ⟨rfl, H1⟩; clear H; have H := H1; clear H1))
    | ((with_reducible refine gRg ?_); refine wp_region_B (fun u => ∃ Lx, Hp w0 D (Lx ++ R) u) rfl ?_; replace H := H.drew; (refine bTakeL 0 rfl (by decide +kernel) (by first | exact HEX1 H | exact HEX2 H) rfl (by intro u hu; go_simp; rfl) ?_; (try simp only [Act.put, List.setIfInBounds_toArray, List.set_cons_succ, List.set_cons_zero])); (refine bTakeL 1 rfl (by decide +kernel) (by first | exact HEX1 H | exact HEX2 H) rfl (by intro u hu; go_simp; rfl) ?_; (try simp only [Act.put, List.setIfInBounds_toArray, List.set_cons_succ, List.set_cons_zero])); (refine bTakeL 2 rfl (by decide +kernel) (by first | exact HEX1 H | exact HEX2 H) rfl (by intro u hu; go_simp; rfl) ?_; (try simp only [Act.put, List.setIfInBounds_toArray, List.set_cons_succ, List.set_cons_zero])); (refine bTakeL 6 rfl (by decide +kernel) (by first | exact HEX1 H | exact HEX2 H) rfl (by intro u hu; go_simp; rfl) ?_; (try simp only [Act.put, List.setIfInBounds_toArray, List.set_cons_succ, List.set_cons_zero])); (refine bTakeL 8 rfl (by decide +kernel) (by first | exact HEX1 H | exact HEX2 H) rfl (by intro u hu; go_simp; rfl) ?_; (try simp only [Act.put, List.setIfInBounds_toArray, List.set_cons_succ, List.set_cons_zero])); (refine bTakeL 9 rfl (by decide +kernel) (by first | exact HEX1 H | exact HEX2 H) rfl (by intro u hu; go_simp; rfl) ?_; (try simp only [Act.put, List.setIfInBounds_toArray, List.set_cons_succ, List.set_cons_zero])); (refine bTakeL 3 rfl (by decide +kernel) (by first | exact HEX1 H | exact HEX2 H) rfl (by intro u hu; go_simp; first | rfl | (rw [if_pos (by omega)]; done) | (rw [if_pos (by omega)]; rfl)) ?_; (try simp only [Act.put, List.setIfInBounds_toArray, List.set_cons_succ, List.set_cons_zero])); (refine bTakeL 7 rfl (by decide +kernel) (by first | exact HEX1 H | exact HEX2 H) rfl (fun u _ => run_mulX (m := 3) (n := u0) (r := uu) rfl rfl HU.out) ?_; (try simp only [Act.put, List.setIfInBounds_toArray, List.set_cons_succ, List.set_cons_zero])); (refine bTakeL 10 rfl (by decide +kernel) (by first | exact HEX1 H | exact HEX2 H) rfl (by intro u hu; go_simp; first | rfl | (rw [if_pos (by omega)]; done) | (rw [if_pos (by omega)]; rfl)) ?_; (try simp only [Act.put, List.setIfInBounds_toArray, List.set_cons_succ, List.set_cons_zero])); (refine bTakeL 4 rfl (by decide +kernel) (by first | exact HEX1 H | exact HEX2 H) rfl (by intro u hu; go_simp; rfl) ?_; (try simp only [Act.put, List.setIfInBounds_toArray, List.set_cons_succ, List.set_cons_zero])); (refine bTakeL 11 rfl (by decide +kernel) (by first | exact HEX1 H | exact HEX2 H) rfl (by intro u hu; go_simp; rfl) ?_; (try simp only [Act.put, List.setIfInBounds_toArray, List.set_cons_succ, List.set_cons_zero])); (refine bTakeL 5 rfl (by decide +kernel) (by first | exact HEX1 H | exact HEX2 H) rfl (fun u hu => (by obtain ⟨Lx, hu⟩ := hu; exact run_ldRA (k := j * 2) (hY Lx _ hu) rfl (by first | rfl | omega) T9 HK.out)) ?_; (try simp only [Act.put, List.setIfInBounds_toArray, List.set_cons_succ, List.set_cons_zero])); (refine bTakeL 12 rfl (by decide +kernel) (by first | exact HEX1 H | exact HEX2 H) rfl (fun u hu => (by obtain ⟨Lx, hu⟩ := hu; exact run_ldRA (k := j * 2 + 1) (hY Lx _ hu) rfl (by first | rfl | omega) T3 HV.out)) ?_; (try simp only [Act.put, List.setIfInBounds_toArray, List.set_cons_succ, List.set_cons_zero])); (refine bTakeL 13 rfl (by decide +kernel) (by first | exact HEX1 H | exact HEX2 H) rfl (fun u _ => run_addX (m := uu) (n := yv) (r := rr) rfl rfl HZ.out) ?_; (try simp only [Act.put, List.setIfInBounds_toArray, List.set_cons_succ, List.set_cons_zero])); (refine bOneL 14 (by decide +kernel) rfl rfl ?_); (intro K hK; go_simp; go_at_call 47; have HY9 := Rd.ent H (i := 0) rfl; (with_reducible refine (rPut_spec H HY9 HOL.out (by omega) HR.out).mono ?_); rintro e w1 ⟨a2, c2, rfl, H1⟩; clear H HY9; have H := H1; clear H1; (try simp only []); refine hK _ _ (by first | exact HEX1 H | exact HEX2 H) ?_; clear hK K; (try simp only [Act.put, List.setIfInBounds_toArray, List.set_cons_succ, List.set_cons_zero]); (refine bTakeL 15 rfl (by decide +kernel) (by first | exact HEX1 H | exact HEX2 H) rfl (by intro u hu; go_simp; rfl) ?_; (try simp only [Act.put, List.setIfInBounds_toArray, List.set_cons_succ, List.set_cons_zero])); (refine bDone (by decide +kernel) ?_); (replace H := H.dropAt 1; simp only [List.eraseIdx_cons_succ, List.eraseIdx_cons_zero, List.eraseIdx] at H)))
    | ((with_reducible refine gLd ?_); refine eLd H rfl rfl ?_; first | (refine kLd 0 rfl rfl (by first | exact T3 | exact T9 | exact T22 | exact T27 | exact T34 | exact T47 | exact T67) rfl ?_) | (refine kLdA 0 rfl rfl (by first | exact T3 | exact T9 | exact T22 | exact T27 | exact T34 | exact T47 | exact T67) (Nat.le_of_ble_eq_true rfl) (by simp only [List.drop_succ_cons, List.drop_zero, List.take_succ_cons, List.take_zero, List.set_cons_zero, List.set_cons_succ]; rfl) ?_))
    | ((with_reducible refine gSt ?_); (first | (refine eSt H rfl rfl ⟨.int _ _, rfl, ?_⟩) | (refine eSt H rfl rfl ⟨.bool _, rfl, ?_⟩) | (refine eSt H rfl rfl ⟨.slice _ _ _, rfl, ?_⟩) | (refine eSt H rfl rfl ⟨.pointer _, rfl, ?_⟩) | (refine eSt H rfl rfl ⟨.string _, rfl, ?_⟩) | (refine eSt H rfl rfl ⟨.agg (List.toArray _), rfl, ?_⟩)); (first | (refine kSt 0 rfl rfl (by first | exact T3 | exact T9 | exact T22 | exact T27 | exact T34 | exact T47 | exact T67) rfl (Nat.le_of_ble_eq_true rfl) ?_) | (refine kStA 0 rfl rfl (by first | exact T3 | exact T9 | exact T22 | exact T27 | exact T34 | exact T47 | exact T67) rfl rfl (Nat.le_of_ble_eq_true rfl) ?_)); clear H; intro w1 H; simp only [List.set_cons_zero, List.set_cons_succ] at H; (try simp only [lay, List.take_zero, List.nil_append, List.length_cons, List.length_nil, Nat.zero_add, Nat.reduceAdd, List.drop_succ_cons, List.drop_zero, List.drop_nil, List.append_nil, List.take_succ_cons, List.cons_append] at H))
    | ((with_reducible refine gBx ?_); refine bxA H rfl rfl rfl ?_; clear H; intro b1 w1 H)
    | ((with_reducible refine gBs ?_); (first | (refine bs1 H rfl (by first | exact S47 | exact S22) rfl (Nat.le_of_ble_eq_true rfl) (Nat.le_of_ble_eq_true rfl) rfl ?_) | (refine wl_buildSlice0 rfl (by first | exact S47 | exact S22) H ?_)); clear H; intro b1 w1 H)
    | ((with_reducible refine gEq ?_); (first | (refine wl_cmp rfl rfl rfl rfl ?_) | (refine wl_scmp rfl rfl rfl rfl ?_)); intro rb hrb; cases rb <;> (first | (exfalso; simp at hrb; done) | ((try simp only [decide_eq_true_eq, decide_eq_false_iff_not, beq_iff_eq, beq_eq_false_iff_ne, ne_eq, bne_iff_ne, bne_eq_false_iff_eq, Bool.not_eq_true', Bool.not_eq_false', gt_iff_lt, ge_iff_le, Int.not_lt, Int.not_le, Decidable.not_not] at hrb); (try subst hrb); (try (exfalso; omega)))))
    | ((with_reducible refine gRg ?_); refine wp_region_text rfl (by decide +kernel) ?_; replace H := H.drew)
    | ((with_reducible refine EndQ.intro ?_ ?_); (· kernel_rfl)))
        all_goals
          go_roundg (gk - 1)
          case measure => omega
          case rel => exact ⟨j + 1, r1.length, a2, c2, r1, rfl, by go_num, by have := HJG.out; omega, Lib.hid rfl, by have := HOB.out; have := HOB1.out; omega, HI2, H⟩
      | none =>
        have HR := Lib.hid (show putL false out yk yv = r1 by rw [← hr1]; unfold mvalL; rw [hov])
        clear hr1 hov
        go_wp2_with (first
    | ((with_reducible refine gLd ?_); refine wl_loadR (k := j * 2) (hY [_] _ H) rfl rfl (by first | rfl | omega) T9 HK.out ?_)
    | (go_at_call 35; ((with_reducible refine (rGet_spec H (rd_c2 HX.out) HN.out (by omega) HG.out).mono ?_); rintro e w1 ⟨rfl, H1⟩; clear H; have H := H1; clear H1))
    | ((with_reducible refine gRg ?_); refine wp_region_B (fun u => ∃ Lx, Hp w0 D (Lx ++ R) u) rfl ?_; replace H := H.drew; (refine bTakeL 0 rfl (by decide +kernel) (by first | exact HEX1 H | exact HEX2 H) rfl (by intro u hu; go_simp; rfl) ?_; (try simp only [Act.put, List.setIfInBounds_toArray, List.set_cons_succ, List.set_cons_zero])); (refine bTakeL 1 rfl (by decide +kernel) (by first | exact HEX1 H | exact HEX2 H) rfl (by intro u hu; go_simp; rfl) ?_; (try simp only [Act.put, List.setIfInBounds_toArray, List.set_cons_succ, List.set_cons_zero])); (refine bTakeL 2 rfl (by decide +kernel) (by first | exact HEX1 H | exact HEX2 H) rfl (by intro u hu; go_simp; rfl) ?_; (try simp only [Act.put, List.setIfInBounds_toArray, List.set_cons_succ, List.set_cons_zero])); (refine bTakeL 6 rfl (by decide +kernel) (by first | exact HEX1 H | exact HEX2 H) rfl (by intro u hu; go_simp; rfl) ?_; (try simp only [Act.put, List.setIfInBounds_toArray, List.set_cons_succ, List.set_cons_zero])); (refine bTakeL 7 rfl (by decide +kernel) (by first | exact HEX1 H | exact HEX2 H) rfl (by intro u hu; go_simp; rfl) ?_; (try simp only [Act.put, List.setIfInBounds_toArray, List.set_cons_succ, List.set_cons_zero])); (refine bTakeL 3 rfl (by decide +kernel) (by first | exact HEX1 H | exact HEX2 H) rfl (by intro u hu; go_simp; first | rfl | (rw [if_pos (by omega)]; done) | (rw [if_pos (by omega)]; rfl)) ?_; (try simp only [Act.put, List.setIfInBounds_toArray, List.set_cons_succ, List.set_cons_zero])); (refine bTakeL 8 rfl (by decide +kernel) (by first | exact HEX1 H | exact HEX2 H) rfl (by intro u hu; go_simp; first | rfl | (rw [if_pos (by omega)]; done) | (rw [if_pos (by omega)]; rfl)) ?_; (try simp only [Act.put, List.setIfInBounds_toArray, List.set_cons_succ, List.set_cons_zero])); (refine bTakeL 4 rfl (by decide +kernel) (by first | exact HEX1 H | exact HEX2 H) rfl (by intro u hu; go_simp; rfl) ?_; (try simp only [Act.put, List.setIfInBounds_toArray, List.set_cons_succ, List.set_cons_zero])); (refine bTakeL 9 rfl (by decide +kernel) (by first | exact HEX1 H | exact HEX2 H) rfl (by intro u hu; go_simp; rfl) ?_; (try simp only [Act.put, List.setIfInBounds_toArray, List.set_cons_succ, List.set_cons_zero])); (refine bTakeL 5 rfl (by decide +kernel) (by first | exact HEX1 H | exact HEX2 H) rfl (fun u hu => (by obtain ⟨Lx, hu⟩ := hu; exact run_ldRA (k := j * 2) (hY Lx _ hu) rfl (by first | rfl | omega) T9 HK.out)) ?_; (try simp only [Act.put, List.setIfInBounds_toArray, List.set_cons_succ, List.set_cons_zero])); (refine bTakeL 10 rfl (by decide +kernel) (by first | exact HEX1 H | exact HEX2 H) rfl (fun u hu => (by obtain ⟨Lx, hu⟩ := hu; exact run_ldRA (k := j * 2 + 1) (hY Lx _ hu) rfl (by first | rfl | omega) T3 HV.out)) ?_; (try simp only [Act.put, List.setIfInBounds_toArray, List.set_cons_succ, List.set_cons_zero])); (refine bOneL 11 (by decide +kernel) rfl rfl ?_); (intro K hK; go_simp; go_at_call 47; have HY9 := Rd.ent H (i := 0) rfl; (with_reducible refine (rPut_spec H HY9 HOL.out (by omega) HR.out).mono ?_); rintro e w1 ⟨a2, c2, rfl, H1⟩; clear H HY9; have H := H1; clear H1; (try simp only []); refine hK _ _ (by first | exact HEX1 H | exact HEX2 H) ?_; clear hK K; (try simp only [Act.put, List.setIfInBounds_toArray, List.set_cons_succ, List.set_cons_zero]); (refine bTakeL 12 rfl (by decide +kernel) (by first | exact HEX1 H | exact HEX2 H) rfl (by intro u hu; go_simp; rfl) ?_; (try simp only [Act.put, List.setIfInBounds_toArray, List.set_cons_succ, List.set_cons_zero])); (refine bDone (by decide +kernel) ?_); (replace H := H.dropAt 1; simp only [List.eraseIdx_cons_succ, List.eraseIdx_cons_zero, List.eraseIdx] at H)))
    | ((with_reducible refine gLd ?_); refine eLd H rfl rfl ?_; first | (refine kLd 0 rfl rfl (by first | exact T3 | exact T9 | exact T22 | exact T27 | exact T34 | exact T47 | exact T67) rfl ?_) | (refine kLdA 0 rfl rfl (by first | exact T3 | exact T9 | exact T22 | exact T27 | exact T34 | exact T47 | exact T67) (Nat.le_of_ble_eq_true rfl) (by simp only [List.drop_succ_cons, List.drop_zero, List.take_succ_cons, List.take_zero, List.set_cons_zero, List.set_cons_succ]; rfl) ?_))
    | ((with_reducible refine gSt ?_); (first | (refine eSt H rfl rfl ⟨.int _ _, rfl, ?_⟩) | (refine eSt H rfl rfl ⟨.bool _, rfl, ?_⟩) | (refine eSt H rfl rfl ⟨.slice _ _ _, rfl, ?_⟩) | (refine eSt H rfl rfl ⟨.pointer _, rfl, ?_⟩) | (refine eSt H rfl rfl ⟨.string _, rfl, ?_⟩) | (refine eSt H rfl rfl ⟨.agg (List.toArray _), rfl, ?_⟩)); (first | (refine kSt 0 rfl rfl (by first | exact T3 | exact T9 | exact T22 | exact T27 | exact T34 | exact T47 | exact T67) rfl (Nat.le_of_ble_eq_true rfl) ?_) | (refine kStA 0 rfl rfl (by first | exact T3 | exact T9 | exact T22 | exact T27 | exact T34 | exact T47 | exact T67) rfl rfl (Nat.le_of_ble_eq_true rfl) ?_)); clear H; intro w1 H; simp only [List.set_cons_zero, List.set_cons_succ] at H; (try simp only [lay, List.take_zero, List.nil_append, List.length_cons, List.length_nil, Nat.zero_add, Nat.reduceAdd, List.drop_succ_cons, List.drop_zero, List.drop_nil, List.append_nil, List.take_succ_cons, List.cons_append] at H))
    | ((with_reducible refine gBx ?_); refine bxA H rfl rfl rfl ?_; clear H; intro b1 w1 H)
    | ((with_reducible refine gBs ?_); (first | (refine bs1 H rfl (by first | exact S47 | exact S22) rfl (Nat.le_of_ble_eq_true rfl) (Nat.le_of_ble_eq_true rfl) rfl ?_) | (refine wl_buildSlice0 rfl (by first | exact S47 | exact S22) H ?_)); clear H; intro b1 w1 H)
    | ((with_reducible refine gEq ?_); (first | (refine wl_cmp rfl rfl rfl rfl ?_) | (refine wl_scmp rfl rfl rfl rfl ?_)); intro rb hrb; cases rb <;> (first | (exfalso; simp at hrb; done) | ((try simp only [decide_eq_true_eq, decide_eq_false_iff_not, beq_iff_eq, beq_eq_false_iff_ne, ne_eq, bne_iff_ne, bne_eq_false_iff_eq, Bool.not_eq_true', Bool.not_eq_false', gt_iff_lt, ge_iff_le, Int.not_lt, Int.not_le, Decidable.not_not] at hrb); (try subst hrb); (try (exfalso; omega)))))
    | ((with_reducible refine gRg ?_); refine wp_region_text rfl (by decide +kernel) ?_; replace H := H.drew)
    | ((with_reducible refine EndQ.intro ?_ ?_); (· kernel_rfl)))
        all_goals
          go_roundg (gk - 1)
          case measure => omega
          case rel => exact ⟨j + 1, r1.length, a2, c2, r1, rfl, by go_num, by have := HJG.out; omega, Lib.hid rfl, by have := HOB.out; have := HOB1.out; omega, HI2, H⟩
    · have e : out = r := by rw [← HI.out, List.take_of_length_le (by rw [HM.out]; omega), HRR.out]
      subst e
      have e2 := HOL.out
      subst e2
      clear hjg
      go_wp2_with (first
    | ((with_reducible refine gLd ?_); refine eLd H rfl rfl ?_; first | (refine kLd 0 rfl rfl (by first | exact T3 | exact T9 | exact T22 | exact T27 | exact T34 | exact T47 | exact T67) rfl ?_) | (refine kLdA 0 rfl rfl (by first | exact T3 | exact T9 | exact T22 | exact T27 | exact T34 | exact T47 | exact T67) (Nat.le_of_ble_eq_true rfl) (by simp only [List.drop_succ_cons, List.drop_zero, List.take_succ_cons, List.take_zero, List.set_cons_zero, List.set_cons_succ]; rfl) ?_))
    | ((with_reducible refine gSt ?_); (first | (refine eSt H rfl rfl ⟨.int _ _, rfl, ?_⟩) | (refine eSt H rfl rfl ⟨.bool _, rfl, ?_⟩) | (refine eSt H rfl rfl ⟨.slice _ _ _, rfl, ?_⟩) | (refine eSt H rfl rfl ⟨.pointer _, rfl, ?_⟩) | (refine eSt H rfl rfl ⟨.string _, rfl, ?_⟩) | (refine eSt H rfl rfl ⟨.agg (List.toArray _), rfl, ?_⟩)); (first | (refine kSt 0 rfl rfl (by first | exact T3 | exact T9 | exact T22 | exact T27 | exact T34 | exact T47 | exact T67) rfl (Nat.le_of_ble_eq_true rfl) ?_) | (refine kStA 0 rfl rfl (by first | exact T3 | exact T9 | exact T22 | exact T27 | exact T34 | exact T47 | exact T67) rfl rfl (Nat.le_of_ble_eq_true rfl) ?_)); clear H; intro w1 H; simp only [List.set_cons_zero, List.set_cons_succ] at H; (try simp only [lay, List.take_zero, List.nil_append, List.length_cons, List.length_nil, Nat.zero_add, Nat.reduceAdd, List.drop_succ_cons, List.drop_zero, List.drop_nil, List.append_nil, List.take_succ_cons, List.cons_append] at H))
    | ((with_reducible refine gBx ?_); refine bxA H rfl rfl rfl ?_; clear H; intro b1 w1 H)
    | ((with_reducible refine gBs ?_); (first | (refine bs1 H rfl (by first | exact S47 | exact S22) rfl (Nat.le_of_ble_eq_true rfl) (Nat.le_of_ble_eq_true rfl) rfl ?_) | (refine wl_buildSlice0 rfl (by first | exact S47 | exact S22) H ?_)); clear H; intro b1 w1 H)
    | ((with_reducible refine gEq ?_); (first | (refine wl_cmp rfl rfl rfl rfl ?_) | (refine wl_scmp rfl rfl rfl rfl ?_)); intro rb hrb; cases rb <;> (first | (exfalso; simp at hrb; done) | ((try simp only [decide_eq_true_eq, decide_eq_false_iff_not, beq_iff_eq, beq_eq_false_iff_ne, ne_eq, bne_iff_ne, bne_eq_false_iff_eq, Bool.not_eq_true', Bool.not_eq_false', gt_iff_lt, ge_iff_le, Int.not_lt, Int.not_le, Decidable.not_not] at hrb); (try subst hrb); (try (exfalso; omega)))))
    | ((with_reducible refine gRg ?_); refine wp_region_text rfl (by decide +kernel) ?_; replace H := H.drew)
    | ((with_reducible refine EndQ.intro ?_ ?_); (· kernel_rfl)))
      all_goals (go_ret; exact ⟨a, c', rfl, H⟩)
end Go.Proofs.Ytgnmjeajmnmobaa
