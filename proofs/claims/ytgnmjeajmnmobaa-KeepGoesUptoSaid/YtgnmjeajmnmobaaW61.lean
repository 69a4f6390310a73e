/- KeepGoes: the law. -/
import Derived.Test.YtgnmjeajmnmobaaW17
import Derived.Test.YtgnmjeajmnmobaaW14
import Derived.Test.YtgnmjeajmnmobaaW16
import Derived.Test.YtgnmjeajmnmobaaW7
import Derived.Test.YtgnmjeajmnmobaaGxRf2
import Derived.Test.YtgnmjeajmnmobaaGxRfN
import Derived.Sort.LoopGhostIn
import Derived.Deep.Cut
import Derived.TacticsInMore
import Derived.Shelf.Abstract
import Derived.WalkKit
import Derived.Lib.Hide
import Derived.Deep.LoopGhost
import Derived.WalkSpells
set_option linter.unusedVariables false
set_option linter.unusedSimpArgs false
namespace Go.Proofs.Ytgnmjeajmnmobaa
open Go.RowKit Go.Gx Go.Gx.Kp
set_option maxRecDepth 100000
open KeyOrd
attribute [local go_sem] Oper.semAt_some
theorem rounds_k {P : Program} {c : Code} {Q : Exit → Act → World → Prop} {n : Nat} {a : Act} {w : World} (h : ∀ K : Act → World → Prop, (∀ a w, Code.rounds P c Q n a w → K a w) → c.wp P (Exit.then K Q) a w) : Code.rounds P c Q (n + 1) a w := h _ (fun _ _ h => h)
theorem wl_sneS {P : Program} {w : World} {a : Act} {ops : Array Oper} {Q : Exit → Act → World → Prop} {rest : List Oper} {s : ByteArray} {u ty : TypeId} {dst : Option Tmp} {x y : Operand} {pos : String} {af : Array Edge} {g : Option (Nat × Bool)}
    (hw : Region.wanted ⟨dst, .binOp .neq 9 x y u, ty, pos, af, g⟩ (yielded ops a.tmps) = true) (hx : a.eval x = .string s) (hy : a.eval y = .string s)
    (k : wpList P ops Q rest (a.put dst (.bool false)) w) : wpList P ops Q (⟨dst, .binOp .neq 9 x y u, ty, pos, af, g⟩ :: rest) a w :=
  wl_run hw (run_scmp hx hy (by simp [scmpB])) k
theorem T27x : tI Try.prog 27 = some (true, 1) := by kernel_rfl
theorem Z3x : zI Try.prog 3 = some (.int .i64 0) := by kernel_rfl
theorem Z4x : zI Try.prog 4 = some (.bool false) := by kernel_rfl
theorem Z22x : zI Try.prog 22 = some (.slice none 0 0) := by kernel_rfl
theorem Z31x : zI Try.prog 31 = some .nilFunc := by kernel_rfl
theorem Rd_cells {w0 : World} {D : Nat → Prop} {R : List Ent} {q : Nat} {xs : List Value} (h : Rd w0 D R (some ⟨q, 0, none⟩) xs) : ∀ (L' : List Ent) (w' : World), Hp w0 D (L' ++ R) w' → ∀ (j : Nat) (v : Value), xs[j]? = some v → w'.cell? ⟨q, 0 + j, none⟩ = some v := Rd.cells h
theorem nilpush {w0 : World} {D : Nat → Prop} {A : List Ent} {x : Option Addr} {xs : List Value} (h : Rd w0 D [] x xs) : Rd w0 D A x xs := by have := h.push A; rwa [List.append_nil] at this
theorem built_c {w0 w : World} {D : Nat → Prop} {M Z : List Ent} {x : Option Addr} {c n : Nat} {l : Ents} {t : T ByteArray Int} (H : Hp w0 D (M ++ Z) w) (hx : Rd w0 D (M ++ Z) x (cellsE l)) (hn : l.length = n) (hb : n ≤ 1000) (ht : builtT l = t) : Calls Try.prog 14 #[.slice x n c] w fun e w' => BPost w0 D M Z t e w' := by
  subst ht; exact built_spec H hx hn hb
theorem eqf31 {fn : Fn} {cs bs : Array Value} (w : World) : (Op.equalIn 10000 31 (.func fn cs bs) .nilFunc).run Try.prog w = .ok false w := by
  rw [show (10000 : Nat) = 9999 + 1 from rfl]
  unfold Op.equalIn
  simp only [Sem.run_bind, run_underlying Try.underlying31, Result.andThen_ok]
  rfl
theorem run_nilF {w : World} {a : Act} {fn : Fn} {cs bs : Array Value} {u ty : TypeId} {dst : Option Tmp} {x y : Operand} {pos : String} {af : Array Edge} {g : Option (Nat × Bool)} (hx : a.eval x = .func fn cs bs) (hy : a.eval y = .nilFunc) :
    (execOp a.eval ⟨dst, .binOp .eql 31 x y u, ty, pos, af, g⟩).run Try.prog w = .ok (.value (.bool false)) w := by
  simp [execOp, hx, hy, eqGuard, binOp, Op.equal, Op.maxDepth, eqf31]
theorem wl_nilF {w : World} {a : Act} {ops : Array Oper} {Q : Exit → Act → World → Prop} {rest : List Oper} {fn : Fn} {cs bs : Array Value} {u ty : TypeId} {dst : Option Tmp} {x y : Operand} {pos : String} {af : Array Edge} {g : Option (Nat × Bool)}
    (hw : Region.wanted ⟨dst, .binOp .eql 31 x y u, ty, pos, af, g⟩ (yielded ops a.tmps) = true) (hx : a.eval x = .func fn cs bs) (hy : a.eval y = .nilFunc)
    (k : wpList Try.prog ops Q rest (a.put dst (.bool false)) w) : wpList Try.prog ops Q (⟨dst, .binOp .eql 31 x y u, ty, pos, af, g⟩ :: rest) a w := wl_run hw (run_nilF hx hy) k
theorem leave0c {P : Program} {fn : Func} {R : Ending → World → Prop} {a : Act} {w w0 : World} {D : Nat → Prop} {L : List Ent} {p b n : Nat} {agg : Bool} {t : TypeId} {x : Ent} {v : Value} (i : Nat) (H : Hp w0 D L w) (hd : a.defers = []) (hres : fn.results = #[.cell p t])
    (hp : a.tmps.getD p undef = .pointer (some ⟨b, 0, none⟩)) (hi : L[i]? = some x) (hb : x.a = some b) (ht : tI P t = some (agg, n)) (hv : pick agg n x.xs 0 = some v) (h : R (.returned v) w) : bodyPostM Fence.wide 0 P fn R .ret a w := by
  show LeavesInM _ _ _ _ _ _ _ _ _
  rw [hd]
  have := H.load hi hb ht hv
  have hp' : a.tmps[p]?.getD undef = .pointer (some ⟨b, 0, none⟩) := by simpa using hp
  exact ⟨v, by simp [results, hres, hp', asAddr, this], h⟩
theorem ret_c1 {P : Program} {w0 w : World} {D : Nat → Prop} {L : List Ent} {a : Act} {fn : Func} {R : Ending → World → Prop} {p : Tmp} {ty : TypeId} {b o n : Nat} {x : Ent} {v : Value} (i : Nat) (H : Hp w0 D L w) (hres : fn.results = #[.cell p ty]) (hd : a.defers = [])
    (hp : a.tmps.getD p undef = .pointer (some ⟨b, o, none⟩)) (hi : L[i]? = some x) (hb : x.a = some b) (ht : tI P ty = some (false, n)) (hv : x.xs[o]? = some v) (hR : R (.returned v) w) : bodyPost P fn R .ret a w := by
  refine ⟨hd, v, ?_, hR⟩
  have := H.load (o := o) (v := v) hi hb ht (by simpa [pick] using hv)
  have hp' : a.tmps[p]?.getD undef = .pointer (some ⟨b, o, none⟩) := by simpa using hp
  simp [results, hres, hp', asAddr, this]

set_option maxHeartbeats 4000000 in
theorem Goes_big {w0 w : World} {D : Nat → Prop} {x : Option Addr} {cx na : Nat} {la : Ents} (H : Hp w0 D ([]) w) (sp : Int) (hx1 : Rd w0 D [] x (cellsE la)) (hn1 : la.length = na) (hb1 : na ≤ 1048576) (hn : 80 < na) :
    Calls Try.prog 3 #[.slice x na cx, .int .i64 sp] w fun e w' => e = .returned (.bool true) ∧ ∃ L, Hp w0 D L w' := by
  have HN1 := Lib.hid hn1
  have HX1 := Lib.hid hx1
  clear hn1 hx1
  go_enter Try.func3, Try.ntmps3
  go_wp2_with (first
    | ((with_reducible refine gBx ?_); refine wl_box (v := .int .i64 sp) (n := 1) rfl rfl rfl H ?_; clear H; intro b3 w1 H; replace H : Hp w0 D (⟨some b3, [.int .i64 sp], 3, 1⟩ :: _) w1 := H)
    | ((with_reducible refine gAl ?_); refine wl_alloc rfl Z4x H ?_; clear H; intro b4 w1 H; replace H : Hp w0 D (⟨some b4, [.bool false], 4, 1⟩ :: _) w1 := H)
    | (go_at_call 12; ((with_reducible refine (wide_spec H (nilpush HX1.out) HN1.out hb1).mono ?_); rintro e w1 ⟨r, rfl, hr80, H1⟩; clear H; have H := H1; clear H1; have HR := Lib.hid hr80; clear hr80; cases r))
    | (go_at_call 13; ((with_reducible refine (live_spec H).mono ?_); rintro e w1 ⟨rfl, H1⟩; clear H; have H := H1; clear H1))
    | ((with_reducible refine gLd ?_); refine eLd H rfl rfl ?_; first | (refine kLd 0 rfl rfl (by first | exact T3 | exact T4 | exact T9 | exact T22 | exact T27x | exact T31) rfl ?_) | (refine kLd 1 rfl rfl (by first | exact T3 | exact T4 | exact T9 | exact T22 | exact T27x | exact T31) rfl ?_) | (refine kLd 2 rfl rfl (by first | exact T3 | exact T4 | exact T9 | exact T22 | exact T27x | exact T31) rfl ?_) | (refine kLdA 0 rfl rfl (by first | exact T3 | exact T4 | exact T9 | exact T22 | exact T27x | exact T31) (Nat.le_of_ble_eq_true rfl) (by simp only [List.drop_succ_cons, List.drop_zero, List.take_succ_cons, List.take_zero, List.set_cons_zero, List.set_cons_succ]; rfl) ?_) | (refine kLdA 1 rfl rfl (by first | exact T3 | exact T4 | exact T9 | exact T22 | exact T27x | exact T31) (Nat.le_of_ble_eq_true rfl) (by simp only [List.drop_succ_cons, List.drop_zero, List.take_succ_cons, List.take_zero, List.set_cons_zero, List.set_cons_succ]; rfl) ?_) | (refine kLdA 2 rfl rfl (by first | exact T3 | exact T4 | exact T9 | exact T22 | exact T27x | exact T31) (Nat.le_of_ble_eq_true rfl) (by simp only [List.drop_succ_cons, List.drop_zero, List.take_succ_cons, List.take_zero, List.set_cons_zero, List.set_cons_succ]; rfl) ?_))
    | ((with_reducible refine gSt ?_); (first | (refine eSt H rfl rfl ⟨.int _ _, rfl, ?_⟩) | (refine eSt H rfl rfl ⟨.bool _, rfl, ?_⟩) | (refine eSt H rfl rfl ⟨.slice _ _ _, rfl, ?_⟩) | (refine eSt H rfl rfl ⟨.pointer _, rfl, ?_⟩) | (refine eSt H rfl rfl ⟨.string _, rfl, ?_⟩) | (refine eSt H rfl rfl ⟨.agg (List.toArray _), rfl, ?_⟩)); (first | (refine kSt 0 rfl rfl (by first | exact T3 | exact T4 | exact T9 | exact T22 | exact T27x | exact T31) rfl (Nat.le_of_ble_eq_true rfl) ?_) | (refine kSt 1 rfl rfl (by first | exact T3 | exact T4 | exact T9 | exact T22 | exact T27x | exact T31) rfl (Nat.le_of_ble_eq_true rfl) ?_) | (refine kSt 2 rfl rfl (by first | exact T3 | exact T4 | exact T9 | exact T22 | exact T27x | exact T31) rfl (Nat.le_of_ble_eq_true rfl) ?_) | (refine kStA 0 rfl rfl (by first | exact T3 | exact T4 | exact T9 | exact T22 | exact T27x | exact T31) rfl rfl (Nat.le_of_ble_eq_true rfl) ?_) | (refine kStA 1 rfl rfl (by first | exact T3 | exact T4 | exact T9 | exact T22 | exact T27x | exact T31) rfl rfl (Nat.le_of_ble_eq_true rfl) ?_) | (refine kStA 2 rfl rfl (by first | exact T3 | exact T4 | exact T9 | exact T22 | exact T27x | exact T31) rfl rfl (Nat.le_of_ble_eq_true rfl) ?_)); clear H; intro w1 H; simp only [List.set_cons_zero, List.set_cons_succ] at H; (try simp only [lay, List.take_zero, List.nil_append, List.length_cons, List.length_nil, Nat.zero_add, Nat.reduceAdd, List.drop_succ_cons, List.drop_zero, List.drop_nil, List.append_nil, List.take_succ_cons, List.cons_append] at H))
    | ((with_reducible refine gBx ?_); refine bxA H rfl rfl rfl ?_; clear H; intro b1 w1 H)
    | ((with_reducible refine gBs ?_); (first | (refine bs1 H rfl (by first | exact S0) rfl (Nat.le_of_ble_eq_true rfl) (Nat.le_of_ble_eq_true rfl) rfl ?_) | (refine wl_buildSlice0 rfl (by first | exact S0) H ?_)); clear H; intro b1 w1 H)
    | ((with_reducible refine EndQ.intro ?_ ?_); (· kernel_rfl))
    | ((with_reducible refine gEq ?_); refine wl_sneS rfl rfl rfl ?_))
  all_goals first | (refine ret_c1 (v := .bool true) 0 H rfl rfl rfl rfl rfl T4 rfl ⟨rfl, _, H⟩) | (exfalso; have := HR.out (by first | rfl | trivial); omega)
set_option maxHeartbeats 16000000 in
theorem Goes_small {w0 w : World} {D : Nat → Prop} {x : Option Addr} {cx na : Nat} {la : Ents} (H : Hp w0 D ([]) w) (sp : Int) (hx1 : Rd w0 D [] x (cellsE la)) (hn1 : la.length = na) (hn : na ≤ 80) :
    Calls Try.prog 3 #[.slice x na cx, .int .i64 sp] w fun e w' => e = .returned (.bool true) ∧ ∃ L, Hp w0 D L w' := by
  have hb1 : na ≤ 1048576 := by omega
  have HN1 := Lib.hid hn1
  have HX1 := Lib.hid hx1
  obtain ⟨tx, htx⟩ : ∃ t, builtT la = t := ⟨_, rfl⟩
  have hs1 : tx.size ≤ 1000 := by have := builtT_size la; rw [htx, hn1] at this; omega
  have HTB := Lib.hid htx
  clear hn1 hx1 htx
  have hn1 : na ≤ 1000 := by omega
  refine (callsIn_wide (n := 0)).1 (callsIn_of_wp_marks Try.func3 rfl trivial (wpIn_wide.2 ?_) rfl)
  simp only [Try.ntmps3, List.size_toArray, List.length_cons, List.length_nil, Nat.reduceAdd, Nat.reduceSub, Array.replicate_succ, Array.replicate_zero, List.push_toArray, List.append_toArray, List.nil_append, List.cons_append]
  go_wp2_with (first
    | ((with_reducible refine gBx ?_); refine wl_box (v := .int .i64 sp) (n := 1) rfl rfl rfl H ?_; clear H; intro b3 w1 H; replace H : Hp w0 D (⟨some b3, [.int .i64 sp], 3, 1⟩ :: _) w1 := H)
    | ((with_reducible refine gAl ?_); refine wl_alloc rfl Z4x H ?_; clear H; intro b4 w1 H; replace H : Hp w0 D (⟨some b4, [.bool false], 4, 1⟩ :: _) w1 := H)
    | (go_at_call 12; ((with_reducible refine (wide_spec H (nilpush HX1.out) HN1.out hb1).mono ?_); rintro e w1 ⟨r, rfl, hr80, H1⟩; clear H; have H := H1; clear H1; have HR := Lib.hid hr80; clear hr80; cases r))
    | (go_at_call 13; ((with_reducible refine (live_spec H).mono ?_); rintro e w1 ⟨rfl, H1⟩; clear H; have H := H1; clear H1))
    | (go_at_call 14; have H2 : Hp w0 D ((_ :: _ :: []) ++ []) _ := H; ((with_reducible refine (built_c H2 (nilpush HX1.out) HN1.out hn1 HTB.out).mono ?_); rintro e w1 ⟨pa, av, cv, Z1, rfl, hxz1, hta, hrv, H1⟩; have HTA0 := Lib.hid hta; have HRV0 := Lib.hid hrv; clear hta hrv; clear H H2; have H := H1; clear H1; simp only [List.cons_append, List.nil_append] at H))
    | ((with_reducible refine gAl ?_); refine wl_alloc rfl Z27 H ?_; clear H; intro b5 w1 H; replace H : Hp w0 D (⟨some b5, [.pointer none], 27, 1⟩ :: _) w1 := H)
    | ((with_reducible refine gAl ?_); refine wl_alloc rfl Z22x H ?_; clear H; intro b6 w1 H; replace H : Hp w0 D (⟨some b6, [.slice none 0 0], 22, 1⟩ :: _) w1 := H)
    | ((with_reducible refine gAl ?_); refine wl_alloc rfl Z31x H ?_; clear H; intro b7 w1 H; replace H : Hp w0 D (⟨some b7, [.nilFunc], 31, 1⟩ :: _) w1 := H)
    | (go_at_call 15; have H2 : Hp w0 D ((_ :: _ :: _ :: _ :: []) ++ Z1) _ := H; ((with_reducible refine (AllS_spec (p := pa) H2).mono ?_); rintro e w1 ⟨bx, Z2, rfl, hxz2, hbx, H1⟩; clear H H2; have H := H1; clear H1; simp only [List.cons_append, List.nil_append] at H))
    | ((with_reducible refine gEq ?_); refine wl_nilF rfl rfl rfl ?_)
    | ((with_reducible refine gSt ?_); refine eSt H rfl rfl ⟨.func (.func 63) #[] _, rfl, ?_⟩; refine kSt 0 rfl rfl T31 rfl (Nat.le_of_ble_eq_true rfl) ?_; clear H; intro w1 H; simp only [List.set_cons_zero, List.set_cons_succ] at H)
    | ((with_reducible refine gAl ?_); first | (have hq := br; clear hq; refine wl_alloc rfl Z3x H ?_; clear H; intro bn w1 H; replace H : Hp _ _ (⟨some bn, [.int .i64 0], 3, 1⟩ :: _) w1 := H) | (have hq := b7; clear hq; replace H := H.swap (A := [_, _, _]) (B := [_]); simp only [List.cons_append, List.nil_append] at H; refine wl_alloc rfl Z3x H ?_; clear H; intro br w1 H; replace H : Hp _ _ (⟨some br, [.int .i64 0], 3, 1⟩ :: _) w1 := H))
    | ((with_reducible refine gLd ?_); refine eLd H rfl rfl ?_; first | (refine kLd 0 rfl rfl (by first | exact T3 | exact T4 | exact T9 | exact T22 | exact T27x | exact T31) rfl ?_) | (refine kLd 1 rfl rfl (by first | exact T3 | exact T4 | exact T9 | exact T22 | exact T27x | exact T31) rfl ?_) | (refine kLd 2 rfl rfl (by first | exact T3 | exact T4 | exact T9 | exact T22 | exact T27x | exact T31) rfl ?_) | (refine kLdA 0 rfl rfl (by first | exact T3 | exact T4 | exact T9 | exact T22 | exact T27x | exact T31) (Nat.le_of_ble_eq_true rfl) (by simp only [List.drop_succ_cons, List.drop_zero, List.take_succ_cons, List.take_zero, List.set_cons_zero, List.set_cons_succ]; rfl) ?_) | (refine kLdA 1 rfl rfl (by first | exact T3 | exact T4 | exact T9 | exact T22 | exact T27x | exact T31) (Nat.le_of_ble_eq_true rfl) (by simp only [List.drop_succ_cons, List.drop_zero, List.take_succ_cons, List.take_zero, List.set_cons_zero, List.set_cons_succ]; rfl) ?_) | (refine kLdA 2 rfl rfl (by first | exact T3 | exact T4 | exact T9 | exact T22 | exact T27x | exact T31) (Nat.le_of_ble_eq_true rfl) (by simp only [List.drop_succ_cons, List.drop_zero, List.take_succ_cons, List.take_zero, List.set_cons_zero, List.set_cons_succ]; rfl) ?_))
    | ((with_reducible refine gSt ?_); (first | (refine eSt H rfl rfl ⟨.int _ _, rfl, ?_⟩) | (refine eSt H rfl rfl ⟨.bool _, rfl, ?_⟩) | (refine eSt H rfl rfl ⟨.slice _ _ _, rfl, ?_⟩) | (refine eSt H rfl rfl ⟨.pointer _, rfl, ?_⟩) | (refine eSt H rfl rfl ⟨.string _, rfl, ?_⟩) | (refine eSt H rfl rfl ⟨.agg (List.toArray _), rfl, ?_⟩)); (first | (refine kSt 0 rfl rfl (by first | exact T3 | exact T4 | exact T9 | exact T22 | exact T27x | exact T31) rfl (Nat.le_of_ble_eq_true rfl) ?_) | (refine kSt 1 rfl rfl (by first | exact T3 | exact T4 | exact T9 | exact T22 | exact T27x | exact T31) rfl (Nat.le_of_ble_eq_true rfl) ?_) | (refine kSt 2 rfl rfl (by first | exact T3 | exact T4 | exact T9 | exact T22 | exact T27x | exact T31) rfl (Nat.le_of_ble_eq_true rfl) ?_) | (refine kStA 0 rfl rfl (by first | exact T3 | exact T4 | exact T9 | exact T22 | exact T27x | exact T31) rfl rfl (Nat.le_of_ble_eq_true rfl) ?_) | (refine kStA 1 rfl rfl (by first | exact T3 | exact T4 | exact T9 | exact T22 | exact T27x | exact T31) rfl rfl (Nat.le_of_ble_eq_true rfl) ?_) | (refine kStA 2 rfl rfl (by first | exact T3 | exact T4 | exact T9 | exact T22 | exact T27x | exact T31) rfl rfl (Nat.le_of_ble_eq_true rfl) ?_)); clear H; intro w1 H; simp only [List.set_cons_zero, List.set_cons_succ] at H; (try simp only [lay, List.take_zero, List.nil_append, List.length_cons, List.length_nil, Nat.zero_add, Nat.reduceAdd, List.drop_succ_cons, List.drop_zero, List.drop_nil, List.append_nil, List.take_succ_cons, List.cons_append] at H))
    | ((with_reducible refine gBx ?_); refine bxA H rfl rfl rfl ?_; clear H; intro b1 w1 H)
    | ((with_reducible refine gBs ?_); (first | (refine bs1 H rfl (by first | exact S0) rfl (Nat.le_of_ble_eq_true rfl) (Nat.le_of_ble_eq_true rfl) rfl ?_) | (refine wl_buildSlice0 rfl (by first | exact S0) H ?_)); clear H; intro b1 w1 H)
    | ((with_reducible refine EndQ.intro ?_ ?_); (· kernel_rfl))
    | ((with_reducible refine gEq ?_); refine wl_sneS rfl rfl rfl ?_))
  all_goals first | exact leave0c (v := .bool true) 0 H rfl rfl rfl rfl rfl T4 rfl ⟨rfl, _, H⟩ | skip
  refine wp_loop_rounds 3 ?_
  refine rounds_k (fun Kr hKr => ?_)
  go_wp2_with (first
    | ((with_reducible refine gAl ?_); first | (have hq := br; clear hq; refine wl_alloc rfl Z3x H ?_; clear H; intro bn w1 H; replace H : Hp _ _ (⟨some bn, [.int .i64 0], 3, 1⟩ :: _) w1 := H) | (have hq := b7; clear hq; replace H := H.swap (A := [_, _, _]) (B := [_]); simp only [List.cons_append, List.nil_append] at H; refine wl_alloc rfl Z3x H ?_; clear H; intro br w1 H; replace H : Hp _ _ (⟨some br, [.int .i64 0], 3, 1⟩ :: _) w1 := H))
    | ((with_reducible refine gLd ?_); refine eLd H rfl rfl ?_; first | (refine kLd 0 rfl rfl (by first | exact T3 | exact T4 | exact T9 | exact T22 | exact T27x | exact T31) rfl ?_) | (refine kLd 1 rfl rfl (by first | exact T3 | exact T4 | exact T9 | exact T22 | exact T27x | exact T31) rfl ?_) | (refine kLd 2 rfl rfl (by first | exact T3 | exact T4 | exact T9 | exact T22 | exact T27x | exact T31) rfl ?_) | (refine kLd 3 rfl rfl (by first | exact T3 | exact T4 | exact T9 | exact T22 | exact T27x | exact T31) rfl ?_) | (refine kLdA 0 rfl rfl (by first | exact T3 | exact T4 | exact T9 | exact T22 | exact T27x | exact T31) (Nat.le_of_ble_eq_true rfl) (by simp only [List.drop_succ_cons, List.drop_zero, List.take_succ_cons, List.take_zero, List.set_cons_zero, List.set_cons_succ]; rfl) ?_) | (refine kLdA 1 rfl rfl (by first | exact T3 | exact T4 | exact T9 | exact T22 | exact T27x | exact T31) (Nat.le_of_ble_eq_true rfl) (by simp only [List.drop_succ_cons, List.drop_zero, List.take_succ_cons, List.take_zero, List.set_cons_zero, List.set_cons_succ]; rfl) ?_) | (refine kLdA 2 rfl rfl (by first | exact T3 | exact T4 | exact T9 | exact T22 | exact T27x | exact T31) (Nat.le_of_ble_eq_true rfl) (by simp only [List.drop_succ_cons, List.drop_zero, List.take_succ_cons, List.take_zero, List.set_cons_zero, List.set_cons_succ]; rfl) ?_) | (refine kLdA 3 rfl rfl (by first | exact T3 | exact T4 | exact T9 | exact T22 | exact T27x | exact T31) (Nat.le_of_ble_eq_true rfl) (by simp only [List.drop_succ_cons, List.drop_zero, List.take_succ_cons, List.take_zero, List.set_cons_zero, List.set_cons_succ]; rfl) ?_))
    | ((with_reducible refine gSt ?_); (first | (refine eSt H rfl rfl ⟨.int _ _, rfl, ?_⟩) | (refine eSt H rfl rfl ⟨.bool _, rfl, ?_⟩) | (refine eSt H rfl rfl ⟨.slice _ _ _, rfl, ?_⟩) | (refine eSt H rfl rfl ⟨.pointer _, rfl, ?_⟩) | (refine eSt H rfl rfl ⟨.string _, rfl, ?_⟩) | (refine eSt H rfl rfl ⟨.agg (List.toArray _), rfl, ?_⟩)); (first | (refine kSt 0 rfl rfl (by first | exact T3 | exact T4 | exact T9 | exact T22 | exact T27x | exact T31) rfl (Nat.le_of_ble_eq_true rfl) ?_) | (refine kSt 1 rfl rfl (by first | exact T3 | exact T4 | exact T9 | exact T22 | exact T27x | exact T31) rfl (Nat.le_of_ble_eq_true rfl) ?_) | (refine kSt 2 rfl rfl (by first | exact T3 | exact T4 | exact T9 | exact T22 | exact T27x | exact T31) rfl (Nat.le_of_ble_eq_true rfl) ?_) | (refine kSt 3 rfl rfl (by first | exact T3 | exact T4 | exact T9 | exact T22 | exact T27x | exact T31) rfl (Nat.le_of_ble_eq_true rfl) ?_) | (refine kStA 0 rfl rfl (by first | exact T3 | exact T4 | exact T9 | exact T22 | exact T27x | exact T31) rfl rfl (Nat.le_of_ble_eq_true rfl) ?_) | (refine kStA 1 rfl rfl (by first | exact T3 | exact T4 | exact T9 | exact T22 | exact T27x | exact T31) rfl rfl (Nat.le_of_ble_eq_true rfl) ?_) | (refine kStA 2 rfl rfl (by first | exact T3 | exact T4 | exact T9 | exact T22 | exact T27x | exact T31) rfl rfl (Nat.le_of_ble_eq_true rfl) ?_) | (refine kStA 3 rfl rfl (by first | exact T3 | exact T4 | exact T9 | exact T22 | exact T27x | exact T31) rfl rfl (Nat.le_of_ble_eq_true rfl) ?_)); clear H; intro w1 H; simp only [List.set_cons_zero, List.set_cons_succ] at H; (try simp only [lay, List.take_zero, List.nil_append, List.length_cons, List.length_nil, Nat.zero_add, Nat.reduceAdd, List.drop_succ_cons, List.drop_zero, List.drop_nil, List.append_nil, List.take_succ_cons, List.cons_append] at H))
    | ((with_reducible refine gBx ?_); refine bxA H rfl rfl rfl ?_; clear H; intro b1 w1 H)
    | ((with_reducible refine gBs ?_); (first | (refine bs1 H rfl (by first | exact S0) rfl (Nat.le_of_ble_eq_true rfl) (Nat.le_of_ble_eq_true rfl) rfl ?_) | (refine wl_buildSlice0 rfl (by first | exact S0) H ?_)); clear H; intro b1 w1 H)
    | ((with_reducible refine EndQ.intro ?_ ?_); (· kernel_rfl))
    | ((with_reducible refine gEq ?_); refine wl_sneS rfl rfl rfl ?_))
  have HZ := H.drop.drop.drop
  have HA := H
  clear H
  obtain ⟨Z, H, hbxZ, htdZ, h7Z, h6Z, h3Z, hwZ⟩ : ∃ Z, Hp w0 D (⟨some bn, [.int .i64 0], 3, 1⟩ :: ⟨some br, [.int .i64 0], 3, 1⟩ :: ⟨some b4, [.bool false], 4, 1⟩ :: Z) _ ∧ Rd w0 D Z (some ⟨bx, 0, none⟩) [ptr pa] ∧ Td hS w0 D Z tx pa ∧ Rd w0 D Z (some ⟨b7, 0, none⟩) [(.func (.func 63) #[] #[.pointer (some ⟨bx, 0, none⟩)])] ∧ Rd w0 D Z (some ⟨b6, 0, none⟩) [.slice (adr av 0) tx.size cv] ∧ Rd w0 D Z (some ⟨b3, 0, none⟩) [.int .i64 sp] ∧ Rd w0 D Z (adr av 0) (cellsE tx.list) :=
    ⟨_, HA, hbx.push [_, _, _, _], ((HTA0.out).ext hxz2).push [_, _, _, _], Rd.ent HZ (i := 0) rfl, Rd.ent HZ (i := 1) rfl, Rd.ent HZ (i := 3) rfl, (HRV0.out.ext hxz2).push [_, _, _, _]⟩
  clear HZ HA
  refine (wpIn_wide (n := 0)).1 ?_
  apply wp_rfE 2 (M := [_, _, _]) (Z := Z) H rfl (enters_of Try.func63 (by kernel_rfl) rfl) (AllS_seq hbxZ htdZ) (fun _ => rfl) (fun pre L => L = [⟨some bn, [.int .i64 ((pre.length : Nat) : Int)], 3, 1⟩, ⟨some br, [.int .i64 0], 3, 1⟩, ⟨some b4, [.bool false], 4, 1⟩]) (fun _ L => ∃ m : Nat, L = [⟨some bn, [.int .i64 ((m : Nat) : Int)], 3, 1⟩, ⟨some br, [.int .i64 0], 3, 1⟩, ⟨some b4, [.bool false], 4, 1⟩]) rfl (fun a w h => by simpa [Exit.inBlock] using h)
  case hassign =>
    intro l x w1' K hK
    refine wpIn_seq (wpIn_reg (by decide) ?_)
    go_wp2
    refine nq_intro ?_
    refine wpIn_reg (by decide) ?_
    go_wp2
    refine nq_intro ?_
    exact hK
  case hbody =>
    rintro l pre ⟨xk, xv⟩ post L wv Dv hfull rfl X H1 hr hnd hle
    clear H
    have H := H1
    clear H1
    simp only [List.cons_append, List.nil_append] at H
    have hxk : tx.list[pre.length]? = some (xk, xv) := by rw [hfull]; simp
    have hpl : pre.length < tx.size := by have h := (List.getElem?_eq_some_iff.1 hxk).1; rw [T.list_length] at h; exact h
    have HK9 := Lib.hid (cellsE_get hxk).1
    have HV9 := Lib.hid (cellsE_get hxk).2.1
    dsimp only at HK9 HV9
    have HE1 : Hid ((((pre ++ [(xk, xv)]).length : Nat) : Int) = (pre.length : Int) + 1) := Lib.hid (by simp)
    obtain ⟨bv, rfl⟩ : ∃ bv, av = some bv := by
      cases av with
      | none =>
        exfalso
        rcases hwZ with h | ⟨b, o, h, _⟩
        · have := congrArg List.length h; rw [cellsE_len, T.list_length] at this; simp at this; omega
        · cases h
      | some bv => exact ⟨bv, rfl⟩
    have H69 := Rd_cells (X.rd h6Z)
    have H39 := Rd_cells (X.rd h3Z)
    have H79 := Rd_cells (X.rd h7Z)
    have HW9 := Rd_cells (X.rd hwZ)
    clear hfull hxk
    refine wpIn_block ?_
    refine wpIn_seq (wpIn_seq (wpIn_reg (by decide) ?_))
    go_wp2_with (first
    | ((with_reducible refine gLd ?_); first | (refine wl_loadR (k := 0) (H69 [_, _, _] _ H) rfl rfl rfl T22 rfl ?_) | (refine wl_loadR (k := 0) (H39 [_, _, _] _ H) rfl rfl rfl T3 rfl ?_) | (refine wl_loadR (k := 0) (H79 [_, _, _] _ H) rfl rfl rfl T31 rfl ?_) | (refine wl_loadR (k := pre.length * 2) (HW9 [_, _, _] _ H) rfl rfl (by first | rfl | omega) T9 HK9.out ?_) | (refine wl_loadR (k := pre.length * 2 + 1) (HW9 [_, _, _] _ H) rfl rfl (by first | rfl | omega) T3 HV9.out ?_))
    | ((with_reducible refine gLd ?_); refine eLd H rfl rfl ?_; first | (refine kLd 0 rfl rfl (by first | exact T3 | exact T4 | exact T9 | exact T22 | exact T27x | exact T31) rfl ?_) | (refine kLd 1 rfl rfl (by first | exact T3 | exact T4 | exact T9 | exact T22 | exact T27x | exact T31) rfl ?_) | (refine kLd 2 rfl rfl (by first | exact T3 | exact T4 | exact T9 | exact T22 | exact T27x | exact T31) rfl ?_) | (refine kLdA 0 rfl rfl (by first | exact T3 | exact T4 | exact T9 | exact T22 | exact T27x | exact T31) (Nat.le_of_ble_eq_true rfl) (by simp only [List.drop_succ_cons, List.drop_zero, List.take_succ_cons, List.take_zero, List.set_cons_zero, List.set_cons_succ]; rfl) ?_) | (refine kLdA 1 rfl rfl (by first | exact T3 | exact T4 | exact T9 | exact T22 | exact T27x | exact T31) (Nat.le_of_ble_eq_true rfl) (by simp only [List.drop_succ_cons, List.drop_zero, List.take_succ_cons, List.take_zero, List.set_cons_zero, List.set_cons_succ]; rfl) ?_) | (refine kLdA 2 rfl rfl (by first | exact T3 | exact T4 | exact T9 | exact T22 | exact T27x | exact T31) (Nat.le_of_ble_eq_true rfl) (by simp only [List.drop_succ_cons, List.drop_zero, List.take_succ_cons, List.take_zero, List.set_cons_zero, List.set_cons_succ]; rfl) ?_))
    | ((with_reducible refine gSt ?_); (first | (refine eSt H rfl rfl ⟨.int _ _, rfl, ?_⟩) | (refine eSt H rfl rfl ⟨.bool _, rfl, ?_⟩) | (refine eSt H rfl rfl ⟨.slice _ _ _, rfl, ?_⟩) | (refine eSt H rfl rfl ⟨.pointer _, rfl, ?_⟩) | (refine eSt H rfl rfl ⟨.string _, rfl, ?_⟩) | (refine eSt H rfl rfl ⟨.agg (List.toArray _), rfl, ?_⟩)); (first | (refine kSt 0 rfl rfl (by first | exact T3 | exact T4 | exact T9 | exact T22 | exact T27x | exact T31) rfl (Nat.le_of_ble_eq_true rfl) ?_) | (refine kSt 1 rfl rfl (by first | exact T3 | exact T4 | exact T9 | exact T22 | exact T27x | exact T31) rfl (Nat.le_of_ble_eq_true rfl) ?_) | (refine kSt 2 rfl rfl (by first | exact T3 | exact T4 | exact T9 | exact T22 | exact T27x | exact T31) rfl (Nat.le_of_ble_eq_true rfl) ?_) | (refine kStA 0 rfl rfl (by first | exact T3 | exact T4 | exact T9 | exact T22 | exact T27x | exact T31) rfl rfl (Nat.le_of_ble_eq_true rfl) ?_) | (refine kStA 1 rfl rfl (by first | exact T3 | exact T4 | exact T9 | exact T22 | exact T27x | exact T31) rfl rfl (Nat.le_of_ble_eq_true rfl) ?_) | (refine kStA 2 rfl rfl (by first | exact T3 | exact T4 | exact T9 | exact T22 | exact T27x | exact T31) rfl rfl (Nat.le_of_ble_eq_true rfl) ?_)); clear H; intro w1 H; simp only [List.set_cons_zero, List.set_cons_succ] at H; (try simp only [lay, List.take_zero, List.nil_append, List.length_cons, List.length_nil, Nat.zero_add, Nat.reduceAdd, List.drop_succ_cons, List.drop_zero, List.drop_nil, List.append_nil, List.take_succ_cons, List.cons_append] at H))
    | ((with_reducible refine gBx ?_); refine bxA H rfl rfl rfl ?_; clear H; intro b1 w1 H)
    | ((with_reducible refine gBs ?_); (first | (refine bs1 H rfl (by first | exact S0) rfl (Nat.le_of_ble_eq_true rfl) (Nat.le_of_ble_eq_true rfl) rfl ?_) | (refine wl_buildSlice0 rfl (by first | exact S0) H ?_)); clear H; intro b1 w1 H)
    | ((with_reducible refine EndQ.intro ?_ ?_); (· kernel_rfl))
    | ((with_reducible refine gEq ?_); refine wl_sneS rfl rfl rfl ?_)
    | ((with_reducible refine gEq ?_); refine wl_cmp rfl rfl rfl rfl ?_; intro rb hrb; (first | (have hq9 : rb = false := by (rw [← hrb]; first | (simp; done) | (simp; omega))) | (have hq9 : rb = true := by (rw [← hrb]; first | (simp; done) | (simp; omega)))); subst hq9; clear hrb))
    refine nq_intro ?_
    refine wpIn_cond_false rfl (wpIn_skip ?_)
    refine wpIn_seq ?_
    by_cases hst : (pre.length : Int) = sp
    case neg =>
      refine wpIn_seq (wpIn_reg (by decide) ?_)
      go_wp2_with (first
    | ((with_reducible refine gLd ?_); first | (refine wl_loadR (k := 0) (H69 [_, _, _] _ H) rfl rfl rfl T22 rfl ?_) | (refine wl_loadR (k := 0) (H39 [_, _, _] _ H) rfl rfl rfl T3 rfl ?_) | (refine wl_loadR (k := 0) (H79 [_, _, _] _ H) rfl rfl rfl T31 rfl ?_) | (refine wl_loadR (k := pre.length * 2) (HW9 [_, _, _] _ H) rfl rfl (by first | rfl | omega) T9 HK9.out ?_) | (refine wl_loadR (k := pre.length * 2 + 1) (HW9 [_, _, _] _ H) rfl rfl (by first | rfl | omega) T3 HV9.out ?_))
    | ((with_reducible refine gLd ?_); refine eLd H rfl rfl ?_; first | (refine kLd 0 rfl rfl (by first | exact T3 | exact T4 | exact T9 | exact T22 | exact T27x | exact T31) rfl ?_) | (refine kLd 1 rfl rfl (by first | exact T3 | exact T4 | exact T9 | exact T22 | exact T27x | exact T31) rfl ?_) | (refine kLd 2 rfl rfl (by first | exact T3 | exact T4 | exact T9 | exact T22 | exact T27x | exact T31) rfl ?_) | (refine kLdA 0 rfl rfl (by first | exact T3 | exact T4 | exact T9 | exact T22 | exact T27x | exact T31) (Nat.le_of_ble_eq_true rfl) (by simp only [List.drop_succ_cons, List.drop_zero, List.take_succ_cons, List.take_zero, List.set_cons_zero, List.set_cons_succ]; rfl) ?_) | (refine kLdA 1 rfl rfl (by first | exact T3 | exact T4 | exact T9 | exact T22 | exact T27x | exact T31) (Nat.le_of_ble_eq_true rfl) (by simp only [List.drop_succ_cons, List.drop_zero, List.take_succ_cons, List.take_zero, List.set_cons_zero, List.set_cons_succ]; rfl) ?_) | (refine kLdA 2 rfl rfl (by first | exact T3 | exact T4 | exact T9 | exact T22 | exact T27x | exact T31) (Nat.le_of_ble_eq_true rfl) (by simp only [List.drop_succ_cons, List.drop_zero, List.take_succ_cons, List.take_zero, List.set_cons_zero, List.set_cons_succ]; rfl) ?_))
    | ((with_reducible refine gSt ?_); (first | (refine eSt H rfl rfl ⟨.int _ _, rfl, ?_⟩) | (refine eSt H rfl rfl ⟨.bool _, rfl, ?_⟩) | (refine eSt H rfl rfl ⟨.slice _ _ _, rfl, ?_⟩) | (refine eSt H rfl rfl ⟨.pointer _, rfl, ?_⟩) | (refine eSt H rfl rfl ⟨.string _, rfl, ?_⟩) | (refine eSt H rfl rfl ⟨.agg (List.toArray _), rfl, ?_⟩)); (first | (refine kSt 0 rfl rfl (by first | exact T3 | exact T4 | exact T9 | exact T22 | exact T27x | exact T31) rfl (Nat.le_of_ble_eq_true rfl) ?_) | (refine kSt 1 rfl rfl (by first | exact T3 | exact T4 | exact T9 | exact T22 | exact T27x | exact T31) rfl (Nat.le_of_ble_eq_true rfl) ?_) | (refine kSt 2 rfl rfl (by first | exact T3 | exact T4 | exact T9 | exact T22 | exact T27x | exact T31) rfl (Nat.le_of_ble_eq_true rfl) ?_) | (refine kStA 0 rfl rfl (by first | exact T3 | exact T4 | exact T9 | exact T22 | exact T27x | exact T31) rfl rfl (Nat.le_of_ble_eq_true rfl) ?_) | (refine kStA 1 rfl rfl (by first | exact T3 | exact T4 | exact T9 | exact T22 | exact T27x | exact T31) rfl rfl (Nat.le_of_ble_eq_true rfl) ?_) | (refine kStA 2 rfl rfl (by first | exact T3 | exact T4 | exact T9 | exact T22 | exact T27x | exact T31) rfl rfl (Nat.le_of_ble_eq_true rfl) ?_)); clear H; intro w1 H; simp only [List.set_cons_zero, List.set_cons_succ] at H; (try simp only [lay, List.take_zero, List.nil_append, List.length_cons, List.length_nil, Nat.zero_add, Nat.reduceAdd, List.drop_succ_cons, List.drop_zero, List.drop_nil, List.append_nil, List.take_succ_cons, List.cons_append] at H))
    | ((with_reducible refine gBx ?_); refine bxA H rfl rfl rfl ?_; clear H; intro b1 w1 H)
    | ((with_reducible refine gBs ?_); (first | (refine bs1 H rfl (by first | exact S0) rfl (Nat.le_of_ble_eq_true rfl) (Nat.le_of_ble_eq_true rfl) rfl ?_) | (refine wl_buildSlice0 rfl (by first | exact S0) H ?_)); clear H; intro b1 w1 H)
    | ((with_reducible refine EndQ.intro ?_ ?_); (· kernel_rfl))
    | ((with_reducible refine gEq ?_); refine wl_sneS rfl rfl rfl ?_)
    | ((with_reducible refine gEq ?_); refine wl_cmp rfl rfl rfl rfl ?_; intro rb hrb; (first | (have hq9 : rb = false := by (rw [← hrb]; first | (simp; done) | (simp; omega))) | (have hq9 : rb = true := by (rw [← hrb]; first | (simp; done) | (simp; omega)))); subst hq9; clear hrb))
      refine nq_intro ?_
      refine wpIn_cond_false rfl (wpIn_skip ?_)
      refine wpIn_reg (by decide) ?_
      go_wp2_with (first
      | ((with_reducible refine gLd ?_); refine eLd H rfl rfl ?_; first | (refine kLd 0 rfl rfl (by first | exact T3 | exact T4 | exact T9 | exact T22 | exact T27x | exact T31) rfl ?_) | (refine kLd 1 rfl rfl (by first | exact T3 | exact T4 | exact T9 | exact T22 | exact T27x | exact T31) rfl ?_) | (refine kLd 2 rfl rfl (by first | exact T3 | exact T4 | exact T9 | exact T22 | exact T27x | exact T31) rfl ?_) | (refine kLdA 0 rfl rfl (by first | exact T3 | exact T4 | exact T9 | exact T22 | exact T27x | exact T31) (Nat.le_of_ble_eq_true rfl) (by simp only [List.drop_succ_cons, List.drop_zero, List.take_succ_cons, List.take_zero, List.set_cons_zero, List.set_cons_succ]; rfl) ?_) | (refine kLdA 1 rfl rfl (by first | exact T3 | exact T4 | exact T9 | exact T22 | exact T27x | exact T31) (Nat.le_of_ble_eq_true rfl) (by simp only [List.drop_succ_cons, List.drop_zero, List.take_succ_cons, List.take_zero, List.set_cons_zero, List.set_cons_succ]; rfl) ?_) | (refine kLdA 2 rfl rfl (by first | exact T3 | exact T4 | exact T9 | exact T22 | exact T27x | exact T31) (Nat.le_of_ble_eq_true rfl) (by simp only [List.drop_succ_cons, List.drop_zero, List.take_succ_cons, List.take_zero, List.set_cons_zero, List.set_cons_succ]; rfl) ?_))
      | ((with_reducible refine gSt ?_); (first | (refine eSt H rfl rfl ⟨.int _ _, rfl, ?_⟩) | (refine eSt H rfl rfl ⟨.bool _, rfl, ?_⟩) | (refine eSt H rfl rfl ⟨.slice _ _ _, rfl, ?_⟩) | (refine eSt H rfl rfl ⟨.pointer _, rfl, ?_⟩) | (refine eSt H rfl rfl ⟨.string _, rfl, ?_⟩) | (refine eSt H rfl rfl ⟨.agg (List.toArray _), rfl, ?_⟩)); (first | (refine kSt 0 rfl rfl (by first | exact T3 | exact T4 | exact T9 | exact T22 | exact T27x | exact T31) rfl (Nat.le_of_ble_eq_true rfl) ?_) | (refine kSt 1 rfl rfl (by first | exact T3 | exact T4 | exact T9 | exact T22 | exact T27x | exact T31) rfl (Nat.le_of_ble_eq_true rfl) ?_) | (refine kSt 2 rfl rfl (by first | exact T3 | exact T4 | exact T9 | exact T22 | exact T27x | exact T31) rfl (Nat.le_of_ble_eq_true rfl) ?_) | (refine kStA 0 rfl rfl (by first | exact T3 | exact T4 | exact T9 | exact T22 | exact T27x | exact T31) rfl rfl (Nat.le_of_ble_eq_true rfl) ?_) | (refine kStA 1 rfl rfl (by first | exact T3 | exact T4 | exact T9 | exact T22 | exact T27x | exact T31) rfl rfl (Nat.le_of_ble_eq_true rfl) ?_) | (refine kStA 2 rfl rfl (by first | exact T3 | exact T4 | exact T9 | exact T22 | exact T27x | exact T31) rfl rfl (Nat.le_of_ble_eq_true rfl) ?_)); clear H; intro w1 H; simp only [List.set_cons_zero, List.set_cons_succ] at H; (try simp only [lay, List.take_zero, List.nil_append, List.length_cons, List.length_nil, Nat.zero_add, Nat.reduceAdd, List.drop_succ_cons, List.drop_zero, List.drop_nil, List.append_nil, List.take_succ_cons, List.cons_append] at H))
      | ((with_reducible refine gBx ?_); refine bxA H rfl rfl rfl ?_; clear H; intro b1 w1 H)
      | ((with_reducible refine gBs ?_); (first | (refine bs1 H rfl (by first | exact S0) rfl (Nat.le_of_ble_eq_true rfl) (Nat.le_of_ble_eq_true rfl) rfl ?_) | (refine wl_buildSlice0 rfl (by first | exact S0) H ?_)); clear H; intro b1 w1 H)
      | ((with_reducible refine EndQ.intro ?_ ?_); (· kernel_rfl))
      | ((with_reducible refine gEq ?_); refine wl_sneS rfl rfl rfl ?_))
      refine nq_intro ?_
      refine ⟨_, rfl, ?_⟩
      rw [HE1.out]
      exact H
  
    have hs1 : sp ≤ (pre.length : Int) := by omega
    have hs2 : (pre.length : Int) ≤ sp := by omega
    clear hst
    refine wpIn_seq (wpIn_reg (by decide) ?_)
    go_wp2_with (first
    | ((with_reducible refine gLd ?_); first | (refine wl_loadR (k := 0) (H69 [_, _, _] _ H) rfl rfl rfl T22 rfl ?_) | (refine wl_loadR (k := 0) (H39 [_, _, _] _ H) rfl rfl rfl T3 rfl ?_) | (refine wl_loadR (k := 0) (H79 [_, _, _] _ H) rfl rfl rfl T31 rfl ?_) | (refine wl_loadR (k := pre.length * 2) (HW9 [_, _, _] _ H) rfl rfl (by first | rfl | omega) T9 HK9.out ?_) | (refine wl_loadR (k := pre.length * 2 + 1) (HW9 [_, _, _] _ H) rfl rfl (by first | rfl | omega) T3 HV9.out ?_))
    | ((with_reducible refine gLd ?_); refine eLd H rfl rfl ?_; first | (refine kLd 0 rfl rfl (by first | exact T3 | exact T4 | exact T9 | exact T22 | exact T27x | exact T31) rfl ?_) | (refine kLd 1 rfl rfl (by first | exact T3 | exact T4 | exact T9 | exact T22 | exact T27x | exact T31) rfl ?_) | (refine kLd 2 rfl rfl (by first | exact T3 | exact T4 | exact T9 | exact T22 | exact T27x | exact T31) rfl ?_) | (refine kLdA 0 rfl rfl (by first | exact T3 | exact T4 | exact T9 | exact T22 | exact T27x | exact T31) (Nat.le_of_ble_eq_true rfl) (by simp only [List.drop_succ_cons, List.drop_zero, List.take_succ_cons, List.take_zero, List.set_cons_zero, List.set_cons_succ]; rfl) ?_) | (refine kLdA 1 rfl rfl (by first | exact T3 | exact T4 | exact T9 | exact T22 | exact T27x | exact T31) (Nat.le_of_ble_eq_true rfl) (by simp only [List.drop_succ_cons, List.drop_zero, List.take_succ_cons, List.take_zero, List.set_cons_zero, List.set_cons_succ]; rfl) ?_) | (refine kLdA 2 rfl rfl (by first | exact T3 | exact T4 | exact T9 | exact T22 | exact T27x | exact T31) (Nat.le_of_ble_eq_true rfl) (by simp only [List.drop_succ_cons, List.drop_zero, List.take_succ_cons, List.take_zero, List.set_cons_zero, List.set_cons_succ]; rfl) ?_))
    | ((with_reducible refine gSt ?_); (first | (refine eSt H rfl rfl ⟨.int _ _, rfl, ?_⟩) | (refine eSt H rfl rfl ⟨.bool _, rfl, ?_⟩) | (refine eSt H rfl rfl ⟨.slice _ _ _, rfl, ?_⟩) | (refine eSt H rfl rfl ⟨.pointer _, rfl, ?_⟩) | (refine eSt H rfl rfl ⟨.string _, rfl, ?_⟩) | (refine eSt H rfl rfl ⟨.agg (List.toArray _), rfl, ?_⟩)); (first | (refine kSt 0 rfl rfl (by first | exact T3 | exact T4 | exact T9 | exact T22 | exact T27x | exact T31) rfl (Nat.le_of_ble_eq_true rfl) ?_) | (refine kSt 1 rfl rfl (by first | exact T3 | exact T4 | exact T9 | exact T22 | exact T27x | exact T31) rfl (Nat.le_of_ble_eq_true rfl) ?_) | (refine kSt 2 rfl rfl (by first | exact T3 | exact T4 | exact T9 | exact T22 | exact T27x | exact T31) rfl (Nat.le_of_ble_eq_true rfl) ?_) | (refine kStA 0 rfl rfl (by first | exact T3 | exact T4 | exact T9 | exact T22 | exact T27x | exact T31) rfl rfl (Nat.le_of_ble_eq_true rfl) ?_) | (refine kStA 1 rfl rfl (by first | exact T3 | exact T4 | exact T9 | exact T22 | exact T27x | exact T31) rfl rfl (Nat.le_of_ble_eq_true rfl) ?_) | (refine kStA 2 rfl rfl (by first | exact T3 | exact T4 | exact T9 | exact T22 | exact T27x | exact T31) rfl rfl (Nat.le_of_ble_eq_true rfl) ?_)); clear H; intro w1 H; simp only [List.set_cons_zero, List.set_cons_succ] at H; (try simp only [lay, List.take_zero, List.nil_append, List.length_cons, List.length_nil, Nat.zero_add, Nat.reduceAdd, List.drop_succ_cons, List.drop_zero, List.drop_nil, List.append_nil, List.take_succ_cons, List.cons_append] at H))
    | ((with_reducible refine gBx ?_); refine bxA H rfl rfl rfl ?_; clear H; intro b1 w1 H)
    | ((with_reducible refine gBs ?_); (first | (refine bs1 H rfl (by first | exact S0) rfl (Nat.le_of_ble_eq_true rfl) (Nat.le_of_ble_eq_true rfl) rfl ?_) | (refine wl_buildSlice0 rfl (by first | exact S0) H ?_)); clear H; intro b1 w1 H)
    | ((with_reducible refine EndQ.intro ?_ ?_); (· kernel_rfl))
    | ((with_reducible refine gEq ?_); refine wl_sneS rfl rfl rfl ?_)
    | ((with_reducible refine gEq ?_); refine wl_cmp rfl rfl rfl rfl ?_; intro rb hrb; (first | (have hq9 : rb = false := by (rw [← hrb]; first | (simp; done) | (simp; omega))) | (have hq9 : rb = true := by (rw [← hrb]; first | (simp; done) | (simp; omega)))); subst hq9; clear hrb))
    refine nq_intro ?_
    refine wpIn_cond_true rfl ?_
    refine wpIn_seq (wpIn_seq (wpIn_reg (by decide) ?_))
    go_wp2_with (first
    | ((with_reducible refine gLd ?_); first | (refine wl_loadR (k := 0) (H69 [_, _, _] _ H) rfl rfl rfl T22 rfl ?_) | (refine wl_loadR (k := 0) (H39 [_, _, _] _ H) rfl rfl rfl T3 rfl ?_) | (refine wl_loadR (k := 0) (H79 [_, _, _] _ H) rfl rfl rfl T31 rfl ?_) | (refine wl_loadR (k := pre.length * 2) (HW9 [_, _, _] _ H) rfl rfl (by first | rfl | omega) T9 HK9.out ?_) | (refine wl_loadR (k := pre.length * 2 + 1) (HW9 [_, _, _] _ H) rfl rfl (by first | rfl | omega) T3 HV9.out ?_))
    | ((with_reducible refine gLd ?_); refine eLd H rfl rfl ?_; first | (refine kLd 0 rfl rfl (by first | exact T3 | exact T4 | exact T9 | exact T22 | exact T27x | exact T31) rfl ?_) | (refine kLd 1 rfl rfl (by first | exact T3 | exact T4 | exact T9 | exact T22 | exact T27x | exact T31) rfl ?_) | (refine kLd 2 rfl rfl (by first | exact T3 | exact T4 | exact T9 | exact T22 | exact T27x | exact T31) rfl ?_) | (refine kLdA 0 rfl rfl (by first | exact T3 | exact T4 | exact T9 | exact T22 | exact T27x | exact T31) (Nat.le_of_ble_eq_true rfl) (by simp only [List.drop_succ_cons, List.drop_zero, List.take_succ_cons, List.take_zero, List.set_cons_zero, List.set_cons_succ]; rfl) ?_) | (refine kLdA 1 rfl rfl (by first | exact T3 | exact T4 | exact T9 | exact T22 | exact T27x | exact T31) (Nat.le_of_ble_eq_true rfl) (by simp only [List.drop_succ_cons, List.drop_zero, List.take_succ_cons, List.take_zero, List.set_cons_zero, List.set_cons_succ]; rfl) ?_) | (refine kLdA 2 rfl rfl (by first | exact T3 | exact T4 | exact T9 | exact T22 | exact T27x | exact T31) (Nat.le_of_ble_eq_true rfl) (by simp only [List.drop_succ_cons, List.drop_zero, List.take_succ_cons, List.take_zero, List.set_cons_zero, List.set_cons_succ]; rfl) ?_))
    | ((with_reducible refine gSt ?_); (first | (refine eSt H rfl rfl ⟨.int _ _, rfl, ?_⟩) | (refine eSt H rfl rfl ⟨.bool _, rfl, ?_⟩) | (refine eSt H rfl rfl ⟨.slice _ _ _, rfl, ?_⟩) | (refine eSt H rfl rfl ⟨.pointer _, rfl, ?_⟩) | (refine eSt H rfl rfl ⟨.string _, rfl, ?_⟩) | (refine eSt H rfl rfl ⟨.agg (List.toArray _), rfl, ?_⟩)); (first | (refine kSt 0 rfl rfl (by first | exact T3 | exact T4 | exact T9 | exact T22 | exact T27x | exact T31) rfl (Nat.le_of_ble_eq_true rfl) ?_) | (refine kSt 1 rfl rfl (by first | exact T3 | exact T4 | exact T9 | exact T22 | exact T27x | exact T31) rfl (Nat.le_of_ble_eq_true rfl) ?_) | (refine kSt 2 rfl rfl (by first | exact T3 | exact T4 | exact T9 | exact T22 | exact T27x | exact T31) rfl (Nat.le_of_ble_eq_true rfl) ?_) | (refine kStA 0 rfl rfl (by first | exact T3 | exact T4 | exact T9 | exact T22 | exact T27x | exact T31) rfl rfl (Nat.le_of_ble_eq_true rfl) ?_) | (refine kStA 1 rfl rfl (by first | exact T3 | exact T4 | exact T9 | exact T22 | exact T27x | exact T31) rfl rfl (Nat.le_of_ble_eq_true rfl) ?_) | (refine kStA 2 rfl rfl (by first | exact T3 | exact T4 | exact T9 | exact T22 | exact T27x | exact T31) rfl rfl (Nat.le_of_ble_eq_true rfl) ?_)); clear H; intro w1 H; simp only [List.set_cons_zero, List.set_cons_succ] at H; (try simp only [lay, List.take_zero, List.nil_append, List.length_cons, List.length_nil, Nat.zero_add, Nat.reduceAdd, List.drop_succ_cons, List.drop_zero, List.drop_nil, List.append_nil, List.take_succ_cons, List.cons_append] at H))
    | ((with_reducible refine gBx ?_); refine bxA H rfl rfl rfl ?_; clear H; intro b1 w1 H)
    | ((with_reducible refine gBs ?_); (first | (refine bs1 H rfl (by first | exact S0) rfl (Nat.le_of_ble_eq_true rfl) (Nat.le_of_ble_eq_true rfl) rfl ?_) | (refine wl_buildSlice0 rfl (by first | exact S0) H ?_)); clear H; intro b1 w1 H)
    | ((with_reducible refine EndQ.intro ?_ ?_); (· kernel_rfl))
    | ((with_reducible refine gEq ?_); refine wl_sneS rfl rfl rfl ?_)
    | ((with_reducible refine gEq ?_); refine wl_cmp rfl rfl rfl rfl ?_; intro rb hrb; (first | (have hq9 : rb = false := by (rw [← hrb]; first | (simp; done) | (simp; omega))) | (have hq9 : rb = true := by (rw [← hrb]; first | (simp; done) | (simp; omega)))); subst hq9; clear hrb))
    refine nq_intro ?_
    refine wpIn_block ?_
    obtain ⟨r0, hr0⟩ := hr
    have hl9 := (H.frame l (Array.getElem?_eq_some_iff.1 hr0).1 hnd).trans hr0
    apply wp_rfN1 (M := [_, _, _]) (Z := Z) hl9 H rfl (enters_of Try.func63 (by kernel_rfl) rfl) (AllS_seq (X.rd hbxZ) htdZ.base) (fun _ => rfl) (fun pre2 L => pre2 = [] ∧ L = [⟨some bn, [.int .i64 ((pre.length : Nat) : Int)], 3, 1⟩, ⟨some br, [.int .i64 0], 3, 1⟩, ⟨some b4, [.bool false], 4, 1⟩]) (fun c _ L => c = .exit 4 ∧ L = [⟨some bn, [.int .i64 ((pre.length : Nat) : Int)], 3, 1⟩, ⟨some br, [.int .i64 0], 3, 1⟩, ⟨some b4, [.bool false], 4, 1⟩]) ⟨rfl, rfl⟩
    case hassign =>
      intro l x w1' K hK
      refine wpIn_seq (wpIn_reg (by decide) ?_)
      go_wp2
      refine nq_intro ?_
      refine wpIn_reg (by decide) ?_
      go_wp2
      refine nq_intro ?_
      exact hK
    case hdone =>
      rintro L w2 D2 ⟨hfe, rfl⟩ X2 H1
      exfalso
      have h9 := congrArg List.length hfe
      rw [T.list_length] at h9
      simp at h9
      omega
    case hstop =>
      rintro c9 pre2 post2 L2 w2 D2 hf ⟨rfl, rfl⟩ X2 H1
      refine wpIn_exit ?_
      refine wpIn_exit ?_
      exact ⟨_, ⟨rfl, _, rfl⟩, X2.hp H1⟩
    case hbody =>
      rintro l2 pre2 ⟨ka, va⟩ post2 L2 w2 D2 hfull2 ⟨rfl, rfl⟩ X2 H1
      clear H
      have H := H1
      clear H1 H69 H39 H79 HW9 HK9 HV9
      simp only [List.cons_append, List.nil_append] at H
      have hx0 : tx.list[0]? = some (ka, va) := by rw [hfull2]; simp
      have HK9 := Lib.hid (cellsE_get hx0).1
      have HV9 := Lib.hid (cellsE_get hx0).2.1
      dsimp only at HK9 HV9
      have H69 := Rd_cells ((X.comp X2).rd h6Z)
      have H39 := Rd_cells ((X.comp X2).rd h3Z)
      have H79 := Rd_cells ((X.comp X2).rd h7Z)
      have HW9 := Rd_cells ((X.comp X2).rd hwZ)
      clear hfull2 hx0
      have hsz : 0 < tx.size := by omega
      refine wpIn_block ?_
      refine wpIn_seq (wpIn_seq (wpIn_reg (by decide) ?_))
      go_wp2_with (first
    | ((with_reducible refine gLd ?_); first | (refine wl_loadR (k := 0) (H69 [_, _, _] _ H) rfl rfl rfl T22 rfl ?_) | (refine wl_loadR (k := 0) (H39 [_, _, _] _ H) rfl rfl rfl T3 rfl ?_) | (refine wl_loadR (k := 0) (H79 [_, _, _] _ H) rfl rfl rfl T31 rfl ?_) | (refine wl_loadR (k := 0 * 2) (HW9 [_, _, _] _ H) rfl rfl (by first | rfl | omega) T9 HK9.out ?_) | (refine wl_loadR (k := 0 * 2 + 1) (HW9 [_, _, _] _ H) rfl rfl (by first | rfl | omega) T3 HV9.out ?_))
    | ((with_reducible refine gLd ?_); refine eLd H rfl rfl ?_; first | (refine kLd 0 rfl rfl (by first | exact T3 | exact T4 | exact T9 | exact T22 | exact T27x | exact T31) rfl ?_) | (refine kLd 1 rfl rfl (by first | exact T3 | exact T4 | exact T9 | exact T22 | exact T27x | exact T31) rfl ?_) | (refine kLd 2 rfl rfl (by first | exact T3 | exact T4 | exact T9 | exact T22 | exact T27x | exact T31) rfl ?_) | (refine kLdA 0 rfl rfl (by first | exact T3 | exact T4 | exact T9 | exact T22 | exact T27x | exact T31) (Nat.le_of_ble_eq_true rfl) (by simp only [List.drop_succ_cons, List.drop_zero, List.take_succ_cons, List.take_zero, List.set_cons_zero, List.set_cons_succ]; rfl) ?_) | (refine kLdA 1 rfl rfl (by first | exact T3 | exact T4 | exact T9 | exact T22 | exact T27x | exact T31) (Nat.le_of_ble_eq_true rfl) (by simp only [List.drop_succ_cons, List.drop_zero, List.take_succ_cons, List.take_zero, List.set_cons_zero, List.set_cons_succ]; rfl) ?_) | (refine kLdA 2 rfl rfl (by first | exact T3 | exact T4 | exact T9 | exact T22 | exact T27x | exact T31) (Nat.le_of_ble_eq_true rfl) (by simp only [List.drop_succ_cons, List.drop_zero, List.take_succ_cons, List.take_zero, List.set_cons_zero, List.set_cons_succ]; rfl) ?_))
    | ((with_reducible refine gSt ?_); (first | (refine eSt H rfl rfl ⟨.int _ _, rfl, ?_⟩) | (refine eSt H rfl rfl ⟨.bool _, rfl, ?_⟩) | (refine eSt H rfl rfl ⟨.slice _ _ _, rfl, ?_⟩) | (refine eSt H rfl rfl ⟨.pointer _, rfl, ?_⟩) | (refine eSt H rfl rfl ⟨.string _, rfl, ?_⟩) | (refine eSt H rfl rfl ⟨.agg (List.toArray _), rfl, ?_⟩)); (first | (refine kSt 0 rfl rfl (by first | exact T3 | exact T4 | exact T9 | exact T22 | exact T27x | exact T31) rfl (Nat.le_of_ble_eq_true rfl) ?_) | (refine kSt 1 rfl rfl (by first | exact T3 | exact T4 | exact T9 | exact T22 | exact T27x | exact T31) rfl (Nat.le_of_ble_eq_true rfl) ?_) | (refine kSt 2 rfl rfl (by first | exact T3 | exact T4 | exact T9 | exact T22 | exact T27x | exact T31) rfl (Nat.le_of_ble_eq_true rfl) ?_) | (refine kStA 0 rfl rfl (by first | exact T3 | exact T4 | exact T9 | exact T22 | exact T27x | exact T31) rfl rfl (Nat.le_of_ble_eq_true rfl) ?_) | (refine kStA 1 rfl rfl (by first | exact T3 | exact T4 | exact T9 | exact T22 | exact T27x | exact T31) rfl rfl (Nat.le_of_ble_eq_true rfl) ?_) | (refine kStA 2 rfl rfl (by first | exact T3 | exact T4 | exact T9 | exact T22 | exact T27x | exact T31) rfl rfl (Nat.le_of_ble_eq_true rfl) ?_)); clear H; intro w1 H; simp only [List.set_cons_zero, List.set_cons_succ] at H; (try simp only [lay, List.take_zero, List.nil_append, List.length_cons, List.length_nil, Nat.zero_add, Nat.reduceAdd, List.drop_succ_cons, List.drop_zero, List.drop_nil, List.append_nil, List.take_succ_cons, List.cons_append] at H))
    | ((with_reducible refine gBx ?_); refine bxA H rfl rfl rfl ?_; clear H; intro b1 w1 H)
    | ((with_reducible refine gBs ?_); (first | (refine bs1 H rfl (by first | exact S0) rfl (Nat.le_of_ble_eq_true rfl) (Nat.le_of_ble_eq_true rfl) rfl ?_) | (refine wl_buildSlice0 rfl (by first | exact S0) H ?_)); clear H; intro b1 w1 H)
    | ((with_reducible refine EndQ.intro ?_ ?_); (· kernel_rfl))
    | ((with_reducible refine gEq ?_); refine wl_sneS rfl rfl rfl ?_)
    | ((with_reducible refine gEq ?_); refine wl_cmp rfl rfl rfl rfl ?_; intro rb hrb; (first | (have hq9 : rb = false := by (rw [← hrb]; first | (simp; done) | (simp; omega))) | (have hq9 : rb = true := by (rw [← hrb]; first | (simp; done) | (simp; omega)))); subst hq9; clear hrb))
      refine nq_intro ?_
      refine wpIn_cond_false rfl (wpIn_skip ?_)
      refine wpIn_exit ?_
      exact ⟨_, ⟨rfl, rfl⟩, H⟩
  case hend =>
    rintro k1 pre L w1a Da hpl X1 H1 hm1
    obtain ⟨m, rfl⟩ : ∃ m : Nat, L = [⟨some bn, [.int .i64 ((m : Nat) : Int)], 3, 1⟩, ⟨some br, [.int .i64 0], 3, 1⟩, ⟨some b4, [.bool false], 4, 1⟩] := by
      rcases hpl with ⟨_, h⟩ | h
      · exact ⟨_, h⟩
      · exact h
    clear hpl H
    have H := H1
    clear H1
    simp only [List.cons_append, List.nil_append] at H
    have H7a := Rd_cells (X1.rd h7Z)
    go_wp2_with (first
    | ((with_reducible refine gAl ?_); first | (have hq := br2; clear hq; refine wl_alloc rfl Z3x H ?_; clear H; intro bn2 w1 H; replace H : Hp _ _ (⟨some bn2, [.int .i64 0], 3, 1⟩ :: _) w1 := H) | (have hq := k1; clear hq; refine wl_alloc rfl Z3x H ?_; clear H; intro br2 w1 H; replace H : Hp _ _ (⟨some br2, [.int .i64 0], 3, 1⟩ :: _) w1 := H))
    | ((with_reducible refine gLd ?_); refine eLd H rfl rfl ?_; first | (refine kLd 0 rfl rfl (by first | exact T3 | exact T4 | exact T9 | exact T22 | exact T27x | exact T31) rfl ?_) | (refine kLd 1 rfl rfl (by first | exact T3 | exact T4 | exact T9 | exact T22 | exact T27x | exact T31) rfl ?_) | (refine kLd 2 rfl rfl (by first | exact T3 | exact T4 | exact T9 | exact T22 | exact T27x | exact T31) rfl ?_) | (refine kLdA 0 rfl rfl (by first | exact T3 | exact T4 | exact T9 | exact T22 | exact T27x | exact T31) (Nat.le_of_ble_eq_true rfl) (by simp only [List.drop_succ_cons, List.drop_zero, List.take_succ_cons, List.take_zero, List.set_cons_zero, List.set_cons_succ]; rfl) ?_) | (refine kLdA 1 rfl rfl (by first | exact T3 | exact T4 | exact T9 | exact T22 | exact T27x | exact T31) (Nat.le_of_ble_eq_true rfl) (by simp only [List.drop_succ_cons, List.drop_zero, List.take_succ_cons, List.take_zero, List.set_cons_zero, List.set_cons_succ]; rfl) ?_) | (refine kLdA 2 rfl rfl (by first | exact T3 | exact T4 | exact T9 | exact T22 | exact T27x | exact T31) (Nat.le_of_ble_eq_true rfl) (by simp only [List.drop_succ_cons, List.drop_zero, List.take_succ_cons, List.take_zero, List.set_cons_zero, List.set_cons_succ]; rfl) ?_))
    | ((with_reducible refine gSt ?_); (first | (refine eSt H rfl rfl ⟨.int _ _, rfl, ?_⟩) | (refine eSt H rfl rfl ⟨.bool _, rfl, ?_⟩) | (refine eSt H rfl rfl ⟨.slice _ _ _, rfl, ?_⟩) | (refine eSt H rfl rfl ⟨.pointer _, rfl, ?_⟩) | (refine eSt H rfl rfl ⟨.string _, rfl, ?_⟩) | (refine eSt H rfl rfl ⟨.agg (List.toArray _), rfl, ?_⟩)); (first | (refine kSt 0 rfl rfl (by first | exact T3 | exact T4 | exact T9 | exact T22 | exact T27x | exact T31) rfl (Nat.le_of_ble_eq_true rfl) ?_) | (refine kSt 1 rfl rfl (by first | exact T3 | exact T4 | exact T9 | exact T22 | exact T27x | exact T31) rfl (Nat.le_of_ble_eq_true rfl) ?_) | (refine kSt 2 rfl rfl (by first | exact T3 | exact T4 | exact T9 | exact T22 | exact T27x | exact T31) rfl (Nat.le_of_ble_eq_true rfl) ?_) | (refine kStA 0 rfl rfl (by first | exact T3 | exact T4 | exact T9 | exact T22 | exact T27x | exact T31) rfl rfl (Nat.le_of_ble_eq_true rfl) ?_) | (refine kStA 1 rfl rfl (by first | exact T3 | exact T4 | exact T9 | exact T22 | exact T27x | exact T31) rfl rfl (Nat.le_of_ble_eq_true rfl) ?_) | (refine kStA 2 rfl rfl (by first | exact T3 | exact T4 | exact T9 | exact T22 | exact T27x | exact T31) rfl rfl (Nat.le_of_ble_eq_true rfl) ?_)); clear H; intro w1 H; simp only [List.set_cons_zero, List.set_cons_succ] at H; (try simp only [lay, List.take_zero, List.nil_append, List.length_cons, List.length_nil, Nat.zero_add, Nat.reduceAdd, List.drop_succ_cons, List.drop_zero, List.drop_nil, List.append_nil, List.take_succ_cons, List.cons_append] at H))
    | ((with_reducible refine gBx ?_); refine bxA H rfl rfl rfl ?_; clear H; intro b1 w1 H)
    | ((with_reducible refine gBs ?_); (first | (refine bs1 H rfl (by first | exact S0) rfl (Nat.le_of_ble_eq_true rfl) (Nat.le_of_ble_eq_true rfl) rfl ?_) | (refine wl_buildSlice0 rfl (by first | exact S0) H ?_)); clear H; intro b1 w1 H)
    | ((with_reducible refine EndQ.intro ?_ ?_); (· kernel_rfl))
    | ((with_reducible refine gEq ?_); refine wl_sneS rfl rfl rfl ?_))
    refine rounds_k (fun Kr hKr => ?_)
    go_wp2_with (first
    | ((with_reducible refine gLd ?_); refine wl_loadR (k := 0) (H7a [_, _, _, _, _] _ H) rfl rfl rfl T31 rfl ?_)
    | ((with_reducible refine gAl ?_); first | (have hq := br2; clear hq; refine wl_alloc rfl Z3x H ?_; clear H; intro bn2 w1 H; replace H : Hp _ _ (⟨some bn2, [.int .i64 0], 3, 1⟩ :: _) w1 := H) | (have hq := k1; clear hq; refine wl_alloc rfl Z3x H ?_; clear H; intro br2 w1 H; replace H : Hp _ _ (⟨some br2, [.int .i64 0], 3, 1⟩ :: _) w1 := H))
    | ((with_reducible refine gLd ?_); refine eLd H rfl rfl ?_; first | (refine kLd 0 rfl rfl (by first | exact T3 | exact T4 | exact T9 | exact T22 | exact T27x | exact T31) rfl ?_) | (refine kLd 1 rfl rfl (by first | exact T3 | exact T4 | exact T9 | exact T22 | exact T27x | exact T31) rfl ?_) | (refine kLd 2 rfl rfl (by first | exact T3 | exact T4 | exact T9 | exact T22 | exact T27x | exact T31) rfl ?_) | (refine kLdA 0 rfl rfl (by first | exact T3 | exact T4 | exact T9 | exact T22 | exact T27x | exact T31) (Nat.le_of_ble_eq_true rfl) (by simp only [List.drop_succ_cons, List.drop_zero, List.take_succ_cons, List.take_zero, List.set_cons_zero, List.set_cons_succ]; rfl) ?_) | (refine kLdA 1 rfl rfl (by first | exact T3 | exact T4 | exact T9 | exact T22 | exact T27x | exact T31) (Nat.le_of_ble_eq_true rfl) (by simp only [List.drop_succ_cons, List.drop_zero, List.take_succ_cons, List.take_zero, List.set_cons_zero, List.set_cons_succ]; rfl) ?_) | (refine kLdA 2 rfl rfl (by first | exact T3 | exact T4 | exact T9 | exact T22 | exact T27x | exact T31) (Nat.le_of_ble_eq_true rfl) (by simp only [List.drop_succ_cons, List.drop_zero, List.take_succ_cons, List.take_zero, List.set_cons_zero, List.set_cons_succ]; rfl) ?_))
    | ((with_reducible refine gSt ?_); (first | (refine eSt H rfl rfl ⟨.int _ _, rfl, ?_⟩) | (refine eSt H rfl rfl ⟨.bool _, rfl, ?_⟩) | (refine eSt H rfl rfl ⟨.slice _ _ _, rfl, ?_⟩) | (refine eSt H rfl rfl ⟨.pointer _, rfl, ?_⟩) | (refine eSt H rfl rfl ⟨.string _, rfl, ?_⟩) | (refine eSt H rfl rfl ⟨.agg (List.toArray _), rfl, ?_⟩)); (first | (refine kSt 0 rfl rfl (by first | exact T3 | exact T4 | exact T9 | exact T22 | exact T27x | exact T31) rfl (Nat.le_of_ble_eq_true rfl) ?_) | (refine kSt 1 rfl rfl (by first | exact T3 | exact T4 | exact T9 | exact T22 | exact T27x | exact T31) rfl (Nat.le_of_ble_eq_true rfl) ?_) | (refine kSt 2 rfl rfl (by first | exact T3 | exact T4 | exact T9 | exact T22 | exact T27x | exact T31) rfl (Nat.le_of_ble_eq_true rfl) ?_) | (refine kStA 0 rfl rfl (by first | exact T3 | exact T4 | exact T9 | exact T22 | exact T27x | exact T31) rfl rfl (Nat.le_of_ble_eq_true rfl) ?_) | (refine kStA 1 rfl rfl (by first | exact T3 | exact T4 | exact T9 | exact T22 | exact T27x | exact T31) rfl rfl (Nat.le_of_ble_eq_true rfl) ?_) | (refine kStA 2 rfl rfl (by first | exact T3 | exact T4 | exact T9 | exact T22 | exact T27x | exact T31) rfl rfl (Nat.le_of_ble_eq_true rfl) ?_)); clear H; intro w1 H; simp only [List.set_cons_zero, List.set_cons_succ] at H; (try simp only [lay, List.take_zero, List.nil_append, List.length_cons, List.length_nil, Nat.zero_add, Nat.reduceAdd, List.drop_succ_cons, List.drop_zero, List.drop_nil, List.append_nil, List.take_succ_cons, List.cons_append] at H))
    | ((with_reducible refine gBx ?_); refine bxA H rfl rfl rfl ?_; clear H; intro b1 w1 H)
    | ((with_reducible refine gBs ?_); (first | (refine bs1 H rfl (by first | exact S0) rfl (Nat.le_of_ble_eq_true rfl) (Nat.le_of_ble_eq_true rfl) rfl ?_) | (refine wl_buildSlice0 rfl (by first | exact S0) H ?_)); clear H; intro b1 w1 H)
    | ((with_reducible refine EndQ.intro ?_ ?_); (· kernel_rfl))
    | ((with_reducible refine gEq ?_); refine wl_sneS rfl rfl rfl ?_))
    have HA := (H.swap (A := [_, _, _, _]) (B := [_])).swap (A := [_]) (B := [_, _])
    simp only [List.cons_append, List.nil_append] at HA
    clear H
    obtain ⟨Z2, H, hbxZ2, htdZ2, h7Z2, h6Z2, h3Z2, hwZ2⟩ : ∃ Z2, Hp w1a Da (⟨some bn2, [.int .i64 0], 3, 1⟩ :: ⟨some br2, [.int .i64 1], 3, 1⟩ :: ⟨some b4, [.bool false], 4, 1⟩ :: Z2) _ ∧ Rd w1a Da Z2 (some ⟨bx, 0, none⟩) [ptr pa] ∧ Td hS w1a Da Z2 tx pa ∧ Rd w1a Da Z2 (some ⟨b7, 0, none⟩) [(.func (.func 63) #[] #[.pointer (some ⟨bx, 0, none⟩)])] ∧ Rd w1a Da Z2 (some ⟨b6, 0, none⟩) [.slice (adr av 0) tx.size cv] ∧ Rd w1a Da Z2 (some ⟨b3, 0, none⟩) [.int .i64 sp] ∧ Rd w1a Da Z2 (adr av 0) (cellsE tx.list) :=
      ⟨_, HA, (X1.rd hbxZ).push [_, _], (htdZ.base).push [_, _], (X1.rd h7Z).push [_, _], (X1.rd h6Z).push [_, _], (X1.rd h3Z).push [_, _], (X1.rd hwZ).push [_, _]⟩
    clear HA
    refine (wpIn_wide (n := 0)).1 ?_
    apply wp_rfE 2 (M := [_, _, _]) (Z := Z2) H rfl (enters_of Try.func63 (by kernel_rfl) rfl) (AllS_seq hbxZ2 htdZ2) (fun _ => rfl) (fun pre L => L = [⟨some bn2, [.int .i64 ((pre.length : Nat) : Int)], 3, 1⟩, ⟨some br2, [.int .i64 1], 3, 1⟩, ⟨some b4, [.bool false], 4, 1⟩]) (fun _ _ => False) rfl (fun a w h => by simpa [Exit.inBlock] using h)
    case hassign =>
      intro l x w1' K hK
      refine wpIn_seq (wpIn_reg (by decide) ?_)
      go_wp2
      refine nq_intro ?_
      refine wpIn_reg (by decide) ?_
      go_wp2
      refine nq_intro ?_
      exact hK
    case hbody =>
      rintro l pre ⟨xk, xv⟩ post L wv Dv hfull rfl X H1 hr hnd hle
      clear H
      have H := H1
      clear H1
      simp only [List.cons_append, List.nil_append] at H
      have hxk : tx.list[pre.length]? = some (xk, xv) := by rw [hfull]; simp
      have hpl : pre.length < tx.size := by have h := (List.getElem?_eq_some_iff.1 hxk).1; rw [T.list_length] at h; exact h
      have HK9 := Lib.hid (cellsE_get hxk).1
      have HV9 := Lib.hid (cellsE_get hxk).2.1
      dsimp only at HK9 HV9
      have HE1 : Hid ((((pre ++ [(xk, xv)]).length : Nat) : Int) = (pre.length : Int) + 1) := Lib.hid (by simp)
      obtain ⟨bv, rfl⟩ : ∃ bv, av = some bv := by
        cases av with
        | none =>
          exfalso
          rcases hwZ2 with h | ⟨b, o, h, _⟩
          · have := congrArg List.length h; rw [cellsE_len, T.list_length] at this; simp at this; omega
          · cases h
        | some bv => exact ⟨bv, rfl⟩
      have H69 := Rd_cells (X.rd h6Z2)
      have H39 := Rd_cells (X.rd h3Z2)
      have H79 := Rd_cells (X.rd h7Z2)
      have HW9 := Rd_cells (X.rd hwZ2)
      clear hfull hxk
      refine wpIn_block ?_
      refine wpIn_seq (wpIn_seq (wpIn_reg (by decide) ?_))
      go_wp2_with (first
      | ((with_reducible refine gLd ?_); first | (refine wl_loadR (k := 0) (H69 [_, _, _] _ H) rfl rfl rfl T22 rfl ?_) | (refine wl_loadR (k := 0) (H39 [_, _, _] _ H) rfl rfl rfl T3 rfl ?_) | (refine wl_loadR (k := 0) (H79 [_, _, _] _ H) rfl rfl rfl T31 rfl ?_) | (refine wl_loadR (k := pre.length * 2) (HW9 [_, _, _] _ H) rfl rfl (by first | rfl | omega) T9 HK9.out ?_) | (refine wl_loadR (k := pre.length * 2 + 1) (HW9 [_, _, _] _ H) rfl rfl (by first | rfl | omega) T3 HV9.out ?_))
      | ((with_reducible refine gLd ?_); refine eLd H rfl rfl ?_; first | (refine kLd 0 rfl rfl (by first | exact T3 | exact T4 | exact T9 | exact T22 | exact T27x | exact T31) rfl ?_) | (refine kLd 1 rfl rfl (by first | exact T3 | exact T4 | exact T9 | exact T22 | exact T27x | exact T31) rfl ?_) | (refine kLd 2 rfl rfl (by first | exact T3 | exact T4 | exact T9 | exact T22 | exact T27x | exact T31) rfl ?_) | (refine kLdA 0 rfl rfl (by first | exact T3 | exact T4 | exact T9 | exact T22 | exact T27x | exact T31) (Nat.le_of_ble_eq_true rfl) (by simp only [List.drop_succ_cons, List.drop_zero, List.take_succ_cons, List.take_zero, List.set_cons_zero, List.set_cons_succ]; rfl) ?_) | (refine kLdA 1 rfl rfl (by first | exact T3 | exact T4 | exact T9 | exact T22 | exact T27x | exact T31) (Nat.le_of_ble_eq_true rfl) (by simp only [List.drop_succ_cons, List.drop_zero, List.take_succ_cons, List.take_zero, List.set_cons_zero, List.set_cons_succ]; rfl) ?_) | (refine kLdA 2 rfl rfl (by first | exact T3 | exact T4 | exact T9 | exact T22 | exact T27x | exact T31) (Nat.le_of_ble_eq_true rfl) (by simp only [List.drop_succ_cons, List.drop_zero, List.take_succ_cons, List.take_zero, List.set_cons_zero, List.set_cons_succ]; rfl) ?_))
      | ((with_reducible refine gSt ?_); (first | (refine eSt H rfl rfl ⟨.int _ _, rfl, ?_⟩) | (refine eSt H rfl rfl ⟨.bool _, rfl, ?_⟩) | (refine eSt H rfl rfl ⟨.slice _ _ _, rfl, ?_⟩) | (refine eSt H rfl rfl ⟨.pointer _, rfl, ?_⟩) | (refine eSt H rfl rfl ⟨.string _, rfl, ?_⟩) | (refine eSt H rfl rfl ⟨.agg (List.toArray _), rfl, ?_⟩)); (first | (refine kSt 0 rfl rfl (by first | exact T3 | exact T4 | exact T9 | exact T22 | exact T27x | exact T31) rfl (Nat.le_of_ble_eq_true rfl) ?_) | (refine kSt 1 rfl rfl (by first | exact T3 | exact T4 | exact T9 | exact T22 | exact T27x | exact T31) rfl (Nat.le_of_ble_eq_true rfl) ?_) | (refine kSt 2 rfl rfl (by first | exact T3 | exact T4 | exact T9 | exact T22 | exact T27x | exact T31) rfl (Nat.le_of_ble_eq_true rfl) ?_) | (refine kStA 0 rfl rfl (by first | exact T3 | exact T4 | exact T9 | exact T22 | exact T27x | exact T31) rfl rfl (Nat.le_of_ble_eq_true rfl) ?_) | (refine kStA 1 rfl rfl (by first | exact T3 | exact T4 | exact T9 | exact T22 | exact T27x | exact T31) rfl rfl (Nat.le_of_ble_eq_true rfl) ?_) | (refine kStA 2 rfl rfl (by first | exact T3 | exact T4 | exact T9 | exact T22 | exact T27x | exact T31) rfl rfl (Nat.le_of_ble_eq_true rfl) ?_)); clear H; intro w1 H; simp only [List.set_cons_zero, List.set_cons_succ] at H; (try simp only [lay, List.take_zero, List.nil_append, List.length_cons, List.length_nil, Nat.zero_add, Nat.reduceAdd, List.drop_succ_cons, List.drop_zero, List.drop_nil, List.append_nil, List.take_succ_cons, List.cons_append] at H))
      | ((with_reducible refine gBx ?_); refine bxA H rfl rfl rfl ?_; clear H; intro b1 w1 H)
      | ((with_reducible refine gBs ?_); (first | (refine bs1 H rfl (by first | exact S0) rfl (Nat.le_of_ble_eq_true rfl) (Nat.le_of_ble_eq_true rfl) rfl ?_) | (refine wl_buildSlice0 rfl (by first | exact S0) H ?_)); clear H; intro b1 w1 H)
      | ((with_reducible refine EndQ.intro ?_ ?_); (· kernel_rfl))
      | ((with_reducible refine gEq ?_); refine wl_sneS rfl rfl rfl ?_)
      | ((with_reducible refine gEq ?_); refine wl_cmp rfl rfl rfl rfl ?_; intro rb hrb; (first | (have hq9 : rb = false := by (rw [← hrb]; first | (simp; done) | (simp; omega))) | (have hq9 : rb = true := by (rw [← hrb]; first | (simp; done) | (simp; omega)))); subst hq9; clear hrb))
      refine nq_intro ?_
      refine wpIn_cond_false rfl (wpIn_skip ?_)
      refine wpIn_seq ?_
      have hcs : (pre.length : Int) = sp ∨ ¬ (pre.length : Int) = sp := by omega
      rcases hcs with hst | hst
      · have hs1 : sp ≤ (pre.length : Int) := by omega
        have hs2 : (pre.length : Int) ≤ sp := by omega
        clear hst
        refine wpIn_seq (wpIn_reg (by decide) ?_)
        go_wp2_with (first
      | ((with_reducible refine gLd ?_); first | (refine wl_loadR (k := 0) (H69 [_, _, _] _ H) rfl rfl rfl T22 rfl ?_) | (refine wl_loadR (k := 0) (H39 [_, _, _] _ H) rfl rfl rfl T3 rfl ?_) | (refine wl_loadR (k := 0) (H79 [_, _, _] _ H) rfl rfl rfl T31 rfl ?_) | (refine wl_loadR (k := pre.length * 2) (HW9 [_, _, _] _ H) rfl rfl (by first | rfl | omega) T9 HK9.out ?_) | (refine wl_loadR (k := pre.length * 2 + 1) (HW9 [_, _, _] _ H) rfl rfl (by first | rfl | omega) T3 HV9.out ?_))
      | ((with_reducible refine gLd ?_); refine eLd H rfl rfl ?_; first | (refine kLd 0 rfl rfl (by first | exact T3 | exact T4 | exact T9 | exact T22 | exact T27x | exact T31) rfl ?_) | (refine kLd 1 rfl rfl (by first | exact T3 | exact T4 | exact T9 | exact T22 | exact T27x | exact T31) rfl ?_) | (refine kLd 2 rfl rfl (by first | exact T3 | exact T4 | exact T9 | exact T22 | exact T27x | exact T31) rfl ?_) | (refine kLdA 0 rfl rfl (by first | exact T3 | exact T4 | exact T9 | exact T22 | exact T27x | exact T31) (Nat.le_of_ble_eq_true rfl) (by simp only [List.drop_succ_cons, List.drop_zero, List.take_succ_cons, List.take_zero, List.set_cons_zero, List.set_cons_succ]; rfl) ?_) | (refine kLdA 1 rfl rfl (by first | exact T3 | exact T4 | exact T9 | exact T22 | exact T27x | exact T31) (Nat.le_of_ble_eq_true rfl) (by simp only [List.drop_succ_cons, List.drop_zero, List.take_succ_cons, List.take_zero, List.set_cons_zero, List.set_cons_succ]; rfl) ?_) | (refine kLdA 2 rfl rfl (by first | exact T3 | exact T4 | exact T9 | exact T22 | exact T27x | exact T31) (Nat.le_of_ble_eq_true rfl) (by simp only [List.drop_succ_cons, List.drop_zero, List.take_succ_cons, List.take_zero, List.set_cons_zero, List.set_cons_succ]; rfl) ?_))
      | ((with_reducible refine gSt ?_); (first | (refine eSt H rfl rfl ⟨.int _ _, rfl, ?_⟩) | (refine eSt H rfl rfl ⟨.bool _, rfl, ?_⟩) | (refine eSt H rfl rfl ⟨.slice _ _ _, rfl, ?_⟩) | (refine eSt H rfl rfl ⟨.pointer _, rfl, ?_⟩) | (refine eSt H rfl rfl ⟨.string _, rfl, ?_⟩) | (refine eSt H rfl rfl ⟨.agg (List.toArray _), rfl, ?_⟩)); (first | (refine kSt 0 rfl rfl (by first | exact T3 | exact T4 | exact T9 | exact T22 | exact T27x | exact T31) rfl (Nat.le_of_ble_eq_true rfl) ?_) | (refine kSt 1 rfl rfl (by first | exact T3 | exact T4 | exact T9 | exact T22 | exact T27x | exact T31) rfl (Nat.le_of_ble_eq_true rfl) ?_) | (refine kSt 2 rfl rfl (by first | exact T3 | exact T4 | exact T9 | exact T22 | exact T27x | exact T31) rfl (Nat.le_of_ble_eq_true rfl) ?_) | (refine kStA 0 rfl rfl (by first | exact T3 | exact T4 | exact T9 | exact T22 | exact T27x | exact T31) rfl rfl (Nat.le_of_ble_eq_true rfl) ?_) | (refine kStA 1 rfl rfl (by first | exact T3 | exact T4 | exact T9 | exact T22 | exact T27x | exact T31) rfl rfl (Nat.le_of_ble_eq_true rfl) ?_) | (refine kStA 2 rfl rfl (by first | exact T3 | exact T4 | exact T9 | exact T22 | exact T27x | exact T31) rfl rfl (Nat.le_of_ble_eq_true rfl) ?_)); clear H; intro w1 H; simp only [List.set_cons_zero, List.set_cons_succ] at H; (try simp only [lay, List.take_zero, List.nil_append, List.length_cons, List.length_nil, Nat.zero_add, Nat.reduceAdd, List.drop_succ_cons, List.drop_zero, List.drop_nil, List.append_nil, List.take_succ_cons, List.cons_append] at H))
      | ((with_reducible refine gBx ?_); refine bxA H rfl rfl rfl ?_; clear H; intro b1 w1 H)
      | ((with_reducible refine gBs ?_); (first | (refine bs1 H rfl (by first | exact S0) rfl (Nat.le_of_ble_eq_true rfl) (Nat.le_of_ble_eq_true rfl) rfl ?_) | (refine wl_buildSlice0 rfl (by first | exact S0) H ?_)); clear H; intro b1 w1 H)
      | ((with_reducible refine EndQ.intro ?_ ?_); (· kernel_rfl))
      | ((with_reducible refine gEq ?_); refine wl_sneS rfl rfl rfl ?_)
      | ((with_reducible refine gEq ?_); refine wl_cmp rfl rfl rfl rfl ?_; intro rb hrb; (first | (have hq9 : rb = false := by (rw [← hrb]; first | (simp; done) | (simp; omega))) | (have hq9 : rb = true := by (rw [← hrb]; first | (simp; done) | (simp; omega)))); subst hq9; clear hrb))
        refine nq_intro ?_
        refine wpIn_cond_false rfl (wpIn_skip ?_)
        refine wpIn_reg (by decide) ?_
        go_wp2_with (first
        | ((with_reducible refine gLd ?_); refine eLd H rfl rfl ?_; first | (refine kLd 0 rfl rfl (by first | exact T3 | exact T4 | exact T9 | exact T22 | exact T27x | exact T31) rfl ?_) | (refine kLd 1 rfl rfl (by first | exact T3 | exact T4 | exact T9 | exact T22 | exact T27x | exact T31) rfl ?_) | (refine kLd 2 rfl rfl (by first | exact T3 | exact T4 | exact T9 | exact T22 | exact T27x | exact T31) rfl ?_) | (refine kLdA 0 rfl rfl (by first | exact T3 | exact T4 | exact T9 | exact T22 | exact T27x | exact T31) (Nat.le_of_ble_eq_true rfl) (by simp only [List.drop_succ_cons, List.drop_zero, List.take_succ_cons, List.take_zero, List.set_cons_zero, List.set_cons_succ]; rfl) ?_) | (refine kLdA 1 rfl rfl (by first | exact T3 | exact T4 | exact T9 | exact T22 | exact T27x | exact T31) (Nat.le_of_ble_eq_true rfl) (by simp only [List.drop_succ_cons, List.drop_zero, List.take_succ_cons, List.take_zero, List.set_cons_zero, List.set_cons_succ]; rfl) ?_) | (refine kLdA 2 rfl rfl (by first | exact T3 | exact T4 | exact T9 | exact T22 | exact T27x | exact T31) (Nat.le_of_ble_eq_true rfl) (by simp only [List.drop_succ_cons, List.drop_zero, List.take_succ_cons, List.take_zero, List.set_cons_zero, List.set_cons_succ]; rfl) ?_))
        | ((with_reducible refine gSt ?_); (first | (refine eSt H rfl rfl ⟨.int _ _, rfl, ?_⟩) | (refine eSt H rfl rfl ⟨.bool _, rfl, ?_⟩) | (refine eSt H rfl rfl ⟨.slice _ _ _, rfl, ?_⟩) | (refine eSt H rfl rfl ⟨.pointer _, rfl, ?_⟩) | (refine eSt H rfl rfl ⟨.string _, rfl, ?_⟩) | (refine eSt H rfl rfl ⟨.agg (List.toArray _), rfl, ?_⟩)); (first | (refine kSt 0 rfl rfl (by first | exact T3 | exact T4 | exact T9 | exact T22 | exact T27x | exact T31) rfl (Nat.le_of_ble_eq_true rfl) ?_) | (refine kSt 1 rfl rfl (by first | exact T3 | exact T4 | exact T9 | exact T22 | exact T27x | exact T31) rfl (Nat.le_of_ble_eq_true rfl) ?_) | (refine kSt 2 rfl rfl (by first | exact T3 | exact T4 | exact T9 | exact T22 | exact T27x | exact T31) rfl (Nat.le_of_ble_eq_true rfl) ?_) | (refine kStA 0 rfl rfl (by first | exact T3 | exact T4 | exact T9 | exact T22 | exact T27x | exact T31) rfl rfl (Nat.le_of_ble_eq_true rfl) ?_) | (refine kStA 1 rfl rfl (by first | exact T3 | exact T4 | exact T9 | exact T22 | exact T27x | exact T31) rfl rfl (Nat.le_of_ble_eq_true rfl) ?_) | (refine kStA 2 rfl rfl (by first | exact T3 | exact T4 | exact T9 | exact T22 | exact T27x | exact T31) rfl rfl (Nat.le_of_ble_eq_true rfl) ?_)); clear H; intro w1 H; simp only [List.set_cons_zero, List.set_cons_succ] at H; (try simp only [lay, List.take_zero, List.nil_append, List.length_cons, List.length_nil, Nat.zero_add, Nat.reduceAdd, List.drop_succ_cons, List.drop_zero, List.drop_nil, List.append_nil, List.take_succ_cons, List.cons_append] at H))
        | ((with_reducible refine gBx ?_); refine bxA H rfl rfl rfl ?_; clear H; intro b1 w1 H)
        | ((with_reducible refine gBs ?_); (first | (refine bs1 H rfl (by first | exact S0) rfl (Nat.le_of_ble_eq_true rfl) (Nat.le_of_ble_eq_true rfl) rfl ?_) | (refine wl_buildSlice0 rfl (by first | exact S0) H ?_)); clear H; intro b1 w1 H)
        | ((with_reducible refine EndQ.intro ?_ ?_); (· kernel_rfl))
        | ((with_reducible refine gEq ?_); refine wl_sneS rfl rfl rfl ?_))
        refine nq_intro ?_
        refine ⟨_, rfl, ?_⟩
        rw [HE1.out]
        exact H
      · refine wpIn_seq (wpIn_reg (by decide) ?_)
        go_wp2_with (first
      | ((with_reducible refine gLd ?_); first | (refine wl_loadR (k := 0) (H69 [_, _, _] _ H) rfl rfl rfl T22 rfl ?_) | (refine wl_loadR (k := 0) (H39 [_, _, _] _ H) rfl rfl rfl T3 rfl ?_) | (refine wl_loadR (k := 0) (H79 [_, _, _] _ H) rfl rfl rfl T31 rfl ?_) | (refine wl_loadR (k := pre.length * 2) (HW9 [_, _, _] _ H) rfl rfl (by first | rfl | omega) T9 HK9.out ?_) | (refine wl_loadR (k := pre.length * 2 + 1) (HW9 [_, _, _] _ H) rfl rfl (by first | rfl | omega) T3 HV9.out ?_))
      | ((with_reducible refine gLd ?_); refine eLd H rfl rfl ?_; first | (refine kLd 0 rfl rfl (by first | exact T3 | exact T4 | exact T9 | exact T22 | exact T27x | exact T31) rfl ?_) | (refine kLd 1 rfl rfl (by first | exact T3 | exact T4 | exact T9 | exact T22 | exact T27x | exact T31) rfl ?_) | (refine kLd 2 rfl rfl (by first | exact T3 | exact T4 | exact T9 | exact T22 | exact T27x | exact T31) rfl ?_) | (refine kLdA 0 rfl rfl (by first | exact T3 | exact T4 | exact T9 | exact T22 | exact T27x | exact T31) (Nat.le_of_ble_eq_true rfl) (by simp only [List.drop_succ_cons, List.drop_zero, List.take_succ_cons, List.take_zero, List.set_cons_zero, List.set_cons_succ]; rfl) ?_) | (refine kLdA 1 rfl rfl (by first | exact T3 | exact T4 | exact T9 | exact T22 | exact T27x | exact T31) (Nat.le_of_ble_eq_true rfl) (by simp only [List.drop_succ_cons, List.drop_zero, List.take_succ_cons, List.take_zero, List.set_cons_zero, List.set_cons_succ]; rfl) ?_) | (refine kLdA 2 rfl rfl (by first | exact T3 | exact T4 | exact T9 | exact T22 | exact T27x | exact T31) (Nat.le_of_ble_eq_true rfl) (by simp only [List.drop_succ_cons, List.drop_zero, List.take_succ_cons, List.take_zero, List.set_cons_zero, List.set_cons_succ]; rfl) ?_))
      | ((with_reducible refine gSt ?_); (first | (refine eSt H rfl rfl ⟨.int _ _, rfl, ?_⟩) | (refine eSt H rfl rfl ⟨.bool _, rfl, ?_⟩) | (refine eSt H rfl rfl ⟨.slice _ _ _, rfl, ?_⟩) | (refine eSt H rfl rfl ⟨.pointer _, rfl, ?_⟩) | (refine eSt H rfl rfl ⟨.string _, rfl, ?_⟩) | (refine eSt H rfl rfl ⟨.agg (List.toArray _), rfl, ?_⟩)); (first | (refine kSt 0 rfl rfl (by first | exact T3 | exact T4 | exact T9 | exact T22 | exact T27x | exact T31) rfl (Nat.le_of_ble_eq_true rfl) ?_) | (refine kSt 1 rfl rfl (by first | exact T3 | exact T4 | exact T9 | exact T22 | exact T27x | exact T31) rfl (Nat.le_of_ble_eq_true rfl) ?_) | (refine kSt 2 rfl rfl (by first | exact T3 | exact T4 | exact T9 | exact T22 | exact T27x | exact T31) rfl (Nat.le_of_ble_eq_true rfl) ?_) | (refine kStA 0 rfl rfl (by first | exact T3 | exact T4 | exact T9 | exact T22 | exact T27x | exact T31) rfl rfl (Nat.le_of_ble_eq_true rfl) ?_) | (refine kStA 1 rfl rfl (by first | exact T3 | exact T4 | exact T9 | exact T22 | exact T27x | exact T31) rfl rfl (Nat.le_of_ble_eq_true rfl) ?_) | (refine kStA 2 rfl rfl (by first | exact T3 | exact T4 | exact T9 | exact T22 | exact T27x | exact T31) rfl rfl (Nat.le_of_ble_eq_true rfl) ?_)); clear H; intro w1 H; simp only [List.set_cons_zero, List.set_cons_succ] at H; (try simp only [lay, List.take_zero, List.nil_append, List.length_cons, List.length_nil, Nat.zero_add, Nat.reduceAdd, List.drop_succ_cons, List.drop_zero, List.drop_nil, List.append_nil, List.take_succ_cons, List.cons_append] at H))
      | ((with_reducible refine gBx ?_); refine bxA H rfl rfl rfl ?_; clear H; intro b1 w1 H)
      | ((with_reducible refine gBs ?_); (first | (refine bs1 H rfl (by first | exact S0) rfl (Nat.le_of_ble_eq_true rfl) (Nat.le_of_ble_eq_true rfl) rfl ?_) | (refine wl_buildSlice0 rfl (by first | exact S0) H ?_)); clear H; intro b1 w1 H)
      | ((with_reducible refine EndQ.intro ?_ ?_); (· kernel_rfl))
      | ((with_reducible refine gEq ?_); refine wl_sneS rfl rfl rfl ?_)
      | ((with_reducible refine gEq ?_); refine wl_cmp rfl rfl rfl rfl ?_; intro rb hrb; (first | (have hq9 : rb = false := by (rw [← hrb]; first | (simp; done) | (simp; omega))) | (have hq9 : rb = true := by (rw [← hrb]; first | (simp; done) | (simp; omega)))); subst hq9; clear hrb))
        refine nq_intro ?_
        refine wpIn_cond_false rfl (wpIn_skip ?_)
        refine wpIn_reg (by decide) ?_
        go_wp2_with (first
        | ((with_reducible refine gLd ?_); refine eLd H rfl rfl ?_; first | (refine kLd 0 rfl rfl (by first | exact T3 | exact T4 | exact T9 | exact T22 | exact T27x | exact T31) rfl ?_) | (refine kLd 1 rfl rfl (by first | exact T3 | exact T4 | exact T9 | exact T22 | exact T27x | exact T31) rfl ?_) | (refine kLd 2 rfl rfl (by first | exact T3 | exact T4 | exact T9 | exact T22 | exact T27x | exact T31) rfl ?_) | (refine kLdA 0 rfl rfl (by first | exact T3 | exact T4 | exact T9 | exact T22 | exact T27x | exact T31) (Nat.le_of_ble_eq_true rfl) (by simp only [List.drop_succ_cons, List.drop_zero, List.take_succ_cons, List.take_zero, List.set_cons_zero, List.set_cons_succ]; rfl) ?_) | (refine kLdA 1 rfl rfl (by first | exact T3 | exact T4 | exact T9 | exact T22 | exact T27x | exact T31) (Nat.le_of_ble_eq_true rfl) (by simp only [List.drop_succ_cons, List.drop_zero, List.take_succ_cons, List.take_zero, List.set_cons_zero, List.set_cons_succ]; rfl) ?_) | (refine kLdA 2 rfl rfl (by first | exact T3 | exact T4 | exact T9 | exact T22 | exact T27x | exact T31) (Nat.le_of_ble_eq_true rfl) (by simp only [List.drop_succ_cons, List.drop_zero, List.take_succ_cons, List.take_zero, List.set_cons_zero, List.set_cons_succ]; rfl) ?_))
        | ((with_reducible refine gSt ?_); (first | (refine eSt H rfl rfl ⟨.int _ _, rfl, ?_⟩) | (refine eSt H rfl rfl ⟨.bool _, rfl, ?_⟩) | (refine eSt H rfl rfl ⟨.slice _ _ _, rfl, ?_⟩) | (refine eSt H rfl rfl ⟨.pointer _, rfl, ?_⟩) | (refine eSt H rfl rfl ⟨.string _, rfl, ?_⟩) | (refine eSt H rfl rfl ⟨.agg (List.toArray _), rfl, ?_⟩)); (first | (refine kSt 0 rfl rfl (by first | exact T3 | exact T4 | exact T9 | exact T22 | exact T27x | exact T31) rfl (Nat.le_of_ble_eq_true rfl) ?_) | (refine kSt 1 rfl rfl (by first | exact T3 | exact T4 | exact T9 | exact T22 | exact T27x | exact T31) rfl (Nat.le_of_ble_eq_true rfl) ?_) | (refine kSt 2 rfl rfl (by first | exact T3 | exact T4 | exact T9 | exact T22 | exact T27x | exact T31) rfl (Nat.le_of_ble_eq_true rfl) ?_) | (refine kStA 0 rfl rfl (by first | exact T3 | exact T4 | exact T9 | exact T22 | exact T27x | exact T31) rfl rfl (Nat.le_of_ble_eq_true rfl) ?_) | (refine kStA 1 rfl rfl (by first | exact T3 | exact T4 | exact T9 | exact T22 | exact T27x | exact T31) rfl rfl (Nat.le_of_ble_eq_true rfl) ?_) | (refine kStA 2 rfl rfl (by first | exact T3 | exact T4 | exact T9 | exact T22 | exact T27x | exact T31) rfl rfl (Nat.le_of_ble_eq_true rfl) ?_)); clear H; intro w1 H; simp only [List.set_cons_zero, List.set_cons_succ] at H; (try simp only [lay, List.take_zero, List.nil_append, List.length_cons, List.length_nil, Nat.zero_add, Nat.reduceAdd, List.drop_succ_cons, List.drop_zero, List.drop_nil, List.append_nil, List.take_succ_cons, List.cons_append] at H))
        | ((with_reducible refine gBx ?_); refine bxA H rfl rfl rfl ?_; clear H; intro b1 w1 H)
        | ((with_reducible refine gBs ?_); (first | (refine bs1 H rfl (by first | exact S0) rfl (Nat.le_of_ble_eq_true rfl) (Nat.le_of_ble_eq_true rfl) rfl ?_) | (refine wl_buildSlice0 rfl (by first | exact S0) H ?_)); clear H; intro b1 w1 H)
        | ((with_reducible refine EndQ.intro ?_ ?_); (· kernel_rfl))
        | ((with_reducible refine gEq ?_); refine wl_sneS rfl rfl rfl ?_))
        refine nq_intro ?_
        refine ⟨_, rfl, ?_⟩
        rw [HE1.out]
        exact H
    case hend =>
      rintro k2 pre L w1b Db hpl X2 H1 hm2
      rcases hpl with ⟨rfl, rfl⟩ | hpl
      case inr => exact hpl.elim
      clear H
      have H := H1
      clear H1
      simp only [List.cons_append, List.nil_append] at H
      rw [T.list_length] at H
      have H69 := Rd_cells (X2.rd h6Z2)
      have hts : (tx.size : Int) ≤ 1000 := by omega
      go_wp2_with (first
      | ((with_reducible refine gLd ?_); refine wl_loadR (k := 0) (H69 [_, _, _] _ H) rfl rfl rfl T22 rfl ?_)
      | ((with_reducible refine gAl ?_); first | (have hq := br3; clear hq; refine wl_alloc rfl Z3x H ?_; clear H; intro bn3 w1 H; replace H : Hp _ _ (⟨some bn3, [.int .i64 0], 3, 1⟩ :: _) w1 := H) | (have hq := k2; clear hq; refine wl_alloc rfl Z3x H ?_; clear H; intro br3 w1 H; replace H : Hp _ _ (⟨some br3, [.int .i64 0], 3, 1⟩ :: _) w1 := H))
      | ((with_reducible refine gLd ?_); refine eLd H rfl rfl ?_; first | (refine kLd 0 rfl rfl (by first | exact T3 | exact T4 | exact T9 | exact T22 | exact T27x | exact T31) rfl ?_) | (refine kLd 1 rfl rfl (by first | exact T3 | exact T4 | exact T9 | exact T22 | exact T27x | exact T31) rfl ?_) | (refine kLd 2 rfl rfl (by first | exact T3 | exact T4 | exact T9 | exact T22 | exact T27x | exact T31) rfl ?_) | (refine kLd 3 rfl rfl (by first | exact T3 | exact T4 | exact T9 | exact T22 | exact T27x | exact T31) rfl ?_) | (refine kLdA 0 rfl rfl (by first | exact T3 | exact T4 | exact T9 | exact T22 | exact T27x | exact T31) (Nat.le_of_ble_eq_true rfl) (by simp only [List.drop_succ_cons, List.drop_zero, List.take_succ_cons, List.take_zero, List.set_cons_zero, List.set_cons_succ]; rfl) ?_) | (refine kLdA 1 rfl rfl (by first | exact T3 | exact T4 | exact T9 | exact T22 | exact T27x | exact T31) (Nat.le_of_ble_eq_true rfl) (by simp only [List.drop_succ_cons, List.drop_zero, List.take_succ_cons, List.take_zero, List.set_cons_zero, List.set_cons_succ]; rfl) ?_) | (refine kLdA 2 rfl rfl (by first | exact T3 | exact T4 | exact T9 | exact T22 | exact T27x | exact T31) (Nat.le_of_ble_eq_true rfl) (by simp only [List.drop_succ_cons, List.drop_zero, List.take_succ_cons, List.take_zero, List.set_cons_zero, List.set_cons_succ]; rfl) ?_) | (refine kLdA 3 rfl rfl (by first | exact T3 | exact T4 | exact T9 | exact T22 | exact T27x | exact T31) (Nat.le_of_ble_eq_true rfl) (by simp only [List.drop_succ_cons, List.drop_zero, List.take_succ_cons, List.take_zero, List.set_cons_zero, List.set_cons_succ]; rfl) ?_))
      | ((with_reducible refine gSt ?_); (first | (refine eSt H rfl rfl ⟨.int _ _, rfl, ?_⟩) | (refine eSt H rfl rfl ⟨.bool _, rfl, ?_⟩) | (refine eSt H rfl rfl ⟨.slice _ _ _, rfl, ?_⟩) | (refine eSt H rfl rfl ⟨.pointer _, rfl, ?_⟩) | (refine eSt H rfl rfl ⟨.string _, rfl, ?_⟩) | (refine eSt H rfl rfl ⟨.agg (List.toArray _), rfl, ?_⟩)); (first | (refine kSt 0 rfl rfl (by first | exact T3 | exact T4 | exact T9 | exact T22 | exact T27x | exact T31) rfl (Nat.le_of_ble_eq_true rfl) ?_) | (refine kSt 1 rfl rfl (by first | exact T3 | exact T4 | exact T9 | exact T22 | exact T27x | exact T31) rfl (Nat.le_of_ble_eq_true rfl) ?_) | (refine kSt 2 rfl rfl (by first | exact T3 | exact T4 | exact T9 | exact T22 | exact T27x | exact T31) rfl (Nat.le_of_ble_eq_true rfl) ?_) | (refine kSt 3 rfl rfl (by first | exact T3 | exact T4 | exact T9 | exact T22 | exact T27x | exact T31) rfl (Nat.le_of_ble_eq_true rfl) ?_) | (refine kStA 0 rfl rfl (by first | exact T3 | exact T4 | exact T9 | exact T22 | exact T27x | exact T31) rfl rfl (Nat.le_of_ble_eq_true rfl) ?_) | (refine kStA 1 rfl rfl (by first | exact T3 | exact T4 | exact T9 | exact T22 | exact T27x | exact T31) rfl rfl (Nat.le_of_ble_eq_true rfl) ?_) | (refine kStA 2 rfl rfl (by first | exact T3 | exact T4 | exact T9 | exact T22 | exact T27x | exact T31) rfl rfl (Nat.le_of_ble_eq_true rfl) ?_) | (refine kStA 3 rfl rfl (by first | exact T3 | exact T4 | exact T9 | exact T22 | exact T27x | exact T31) rfl rfl (Nat.le_of_ble_eq_true rfl) ?_)); clear H; intro w1 H; simp only [List.set_cons_zero, List.set_cons_succ] at H; (try simp only [lay, List.take_zero, List.nil_append, List.length_cons, List.length_nil, Nat.zero_add, Nat.reduceAdd, List.drop_succ_cons, List.drop_zero, List.drop_nil, List.append_nil, List.take_succ_cons, List.cons_append] at H))
      | ((with_reducible refine gBx ?_); refine bxA H rfl rfl rfl ?_; clear H; intro b1 w1 H)
      | ((with_reducible refine gBs ?_); (first | (refine bs1 H rfl (by first | exact S0) rfl (Nat.le_of_ble_eq_true rfl) (Nat.le_of_ble_eq_true rfl) rfl ?_) | (refine wl_buildSlice0 rfl (by first | exact S0) H ?_)); clear H; intro b1 w1 H)
      | ((with_reducible refine EndQ.intro ?_ ?_); (· kernel_rfl))
      | ((with_reducible refine gEq ?_); refine wl_sneS rfl rfl rfl ?_))
      refine rounds_k (fun Kr hKr => ?_)
      go_wp2_with (first
      | (go_at_call 13; ((with_reducible refine (live_spec H).mono ?_); rintro e w1 ⟨rfl, H1⟩; clear H; have H := H1; clear H1))
      | ((with_reducible refine gLd ?_); refine eLd H rfl rfl ?_; first | (refine kLd 0 rfl rfl (by first | exact T3 | exact T4 | exact T9 | exact T22 | exact T27x | exact T31) rfl ?_) | (refine kLd 1 rfl rfl (by first | exact T3 | exact T4 | exact T9 | exact T22 | exact T27x | exact T31) rfl ?_) | (refine kLd 2 rfl rfl (by first | exact T3 | exact T4 | exact T9 | exact T22 | exact T27x | exact T31) rfl ?_) | (refine kLd 3 rfl rfl (by first | exact T3 | exact T4 | exact T9 | exact T22 | exact T27x | exact T31) rfl ?_) | (refine kLdA 0 rfl rfl (by first | exact T3 | exact T4 | exact T9 | exact T22 | exact T27x | exact T31) (Nat.le_of_ble_eq_true rfl) (by simp only [List.drop_succ_cons, List.drop_zero, List.take_succ_cons, List.take_zero, List.set_cons_zero, List.set_cons_succ]; rfl) ?_) | (refine kLdA 1 rfl rfl (by first | exact T3 | exact T4 | exact T9 | exact T22 | exact T27x | exact T31) (Nat.le_of_ble_eq_true rfl) (by simp only [List.drop_succ_cons, List.drop_zero, List.take_succ_cons, List.take_zero, List.set_cons_zero, List.set_cons_succ]; rfl) ?_) | (refine kLdA 2 rfl rfl (by first | exact T3 | exact T4 | exact T9 | exact T22 | exact T27x | exact T31) (Nat.le_of_ble_eq_true rfl) (by simp only [List.drop_succ_cons, List.drop_zero, List.take_succ_cons, List.take_zero, List.set_cons_zero, List.set_cons_succ]; rfl) ?_) | (refine kLdA 3 rfl rfl (by first | exact T3 | exact T4 | exact T9 | exact T22 | exact T27x | exact T31) (Nat.le_of_ble_eq_true rfl) (by simp only [List.drop_succ_cons, List.drop_zero, List.take_succ_cons, List.take_zero, List.set_cons_zero, List.set_cons_succ]; rfl) ?_))
      | ((with_reducible refine gSt ?_); (first | (refine eSt H rfl rfl ⟨.int _ _, rfl, ?_⟩) | (refine eSt H rfl rfl ⟨.bool _, rfl, ?_⟩) | (refine eSt H rfl rfl ⟨.slice _ _ _, rfl, ?_⟩) | (refine eSt H rfl rfl ⟨.pointer _, rfl, ?_⟩) | (refine eSt H rfl rfl ⟨.string _, rfl, ?_⟩) | (refine eSt H rfl rfl ⟨.agg (List.toArray _), rfl, ?_⟩)); (first | (refine kSt 0 rfl rfl (by first | exact T3 | exact T4 | exact T9 | exact T22 | exact T27x | exact T31) rfl (Nat.le_of_ble_eq_true rfl) ?_) | (refine kSt 1 rfl rfl (by first | exact T3 | exact T4 | exact T9 | exact T22 | exact T27x | exact T31) rfl (Nat.le_of_ble_eq_true rfl) ?_) | (refine kSt 2 rfl rfl (by first | exact T3 | exact T4 | exact T9 | exact T22 | exact T27x | exact T31) rfl (Nat.le_of_ble_eq_true rfl) ?_) | (refine kSt 3 rfl rfl (by first | exact T3 | exact T4 | exact T9 | exact T22 | exact T27x | exact T31) rfl (Nat.le_of_ble_eq_true rfl) ?_) | (refine kStA 0 rfl rfl (by first | exact T3 | exact T4 | exact T9 | exact T22 | exact T27x | exact T31) rfl rfl (Nat.le_of_ble_eq_true rfl) ?_) | (refine kStA 1 rfl rfl (by first | exact T3 | exact T4 | exact T9 | exact T22 | exact T27x | exact T31) rfl rfl (Nat.le_of_ble_eq_true rfl) ?_) | (refine kStA 2 rfl rfl (by first | exact T3 | exact T4 | exact T9 | exact T22 | exact T27x | exact T31) rfl rfl (Nat.le_of_ble_eq_true rfl) ?_) | (refine kStA 3 rfl rfl (by first | exact T3 | exact T4 | exact T9 | exact T22 | exact T27x | exact T31) rfl rfl (Nat.le_of_ble_eq_true rfl) ?_)); clear H; intro w1 H; simp only [List.set_cons_zero, List.set_cons_succ] at H; (try simp only [lay, List.take_zero, List.nil_append, List.length_cons, List.length_nil, Nat.zero_add, Nat.reduceAdd, List.drop_succ_cons, List.drop_zero, List.drop_nil, List.append_nil, List.take_succ_cons, List.cons_append] at H))
      | ((with_reducible refine gBx ?_); refine bxA H rfl rfl rfl ?_; clear H; intro b1 w1 H)
      | ((with_reducible refine gBs ?_); (first | (refine bs1 H rfl (by first | exact S0) rfl (Nat.le_of_ble_eq_true rfl) (Nat.le_of_ble_eq_true rfl) rfl ?_) | (refine wl_buildSlice0 rfl (by first | exact S0) H ?_)); clear H; intro b1 w1 H)
      | ((with_reducible refine EndQ.intro ?_ ?_); (· kernel_rfl))
      | ((with_reducible refine gEq ?_); refine wl_sneS rfl rfl rfl ?_))
      refine leave2c hm1 X1 hm2 X2 H rfl rfl rfl (i := 3) rfl rfl T4 rfl fun u hu => ?_
      exact ⟨rfl, _, hu⟩

theorem Goes_spec {w0 w : World} {D : Nat → Prop} {x : Option Addr} {cx na : Nat} {la : Ents} (H : Hp w0 D [] w) (sp : Int) (hx1 : Rd w0 D [] x (cellsE la)) (hn1 : la.length = na) (hb1 : na ≤ 1048576) :
    Calls Try.prog 3 #[.slice x na cx, .int .i64 sp] w fun e w' => e = .returned (.bool true) ∧ ∃ L, Hp w0 D L w' := by
  by_cases hn : 80 < na
  · exact Goes_big H sp hx1 hn1 hb1 hn
  · exact Goes_small H sp hx1 hn1 (by omega)
end Go.Proofs.Ytgnmjeajmnmobaa
