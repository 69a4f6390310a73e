/- TermSubs: what the law computes. -/
import Derived.Test.YtebecelhcpljaaaW40
import Derived.Test.YtebecelhcpljaaaW25
import Derived.Sort.LoopGhostIn
import Derived.Deep.Cut
import Derived.TacticsInMore
import Derived.Shelf.Abstract
import Derived.WalkKit
import Derived.Lib.Hide
import Derived.Deep.LoopGhost
import Derived.WalkSpells
set_option linter.unusedVariables false
set_option linter.unusedSimpArgs false
namespace Go.Proofs.Ytebecelhcpljaaa
open Go.RowKit Go.Gx Go.Gx.Trm
set_option maxRecDepth 100000
attribute [local go_sem] Oper.semAt_some
theorem T64 : tI Try.prog 64 = some (false, 1) := by kernel_rfl
theorem Z4 : zI Try.prog 4 = some (.bool false) := by kernel_rfl
theorem Z64 : zI Try.prog 64 = some .nilFunc := by kernel_rfl
def tabV (t : TypeId) : Option (Bool × Nat) := (tabU t).orElse fun _ => if t = 64 then some (false, 1) else none
theorem TV (t : TypeId) {x : Bool × Nat} (h : tabV t = some x) : tI Try.prog t = some x := by
  unfold tabV at h
  cases h0 : tabU t with
  | some y => rw [h0] at h; exact TU t (h0.trans h)
  | none =>
    rw [h0] at h
    have h : (if t = 64 then some (false, 1) else none) = some x := h
    split at h
    · rename_i h1; subst h1; exact T64.trans h
    · cases h
theorem rounds_k {P : Program} {c : Code} {Q : Exit → Act → World → Prop} {n : Nat} {a : Act} {w : World} (h : ∀ K : Act → World → Prop, (∀ a w, Code.rounds P c Q n a w → K a w) → c.wp P (Exit.then K Q) a w) : Code.rounds P c Q (n + 1) a w := h _ (fun _ _ h => h)
theorem eqf64 {fn : Fn} {cs bs : Array Value} (w : World) : (Op.equalIn 10000 64 (.func fn cs bs) .nilFunc).run Try.prog w = .ok false w := by
  rw [show (10000 : Nat) = 9999 + 1 from rfl]
  unfold Op.equalIn
  simp only [Sem.run_bind, run_underlying Try.underlying64, Result.andThen_ok]
  rfl
theorem run_nilF {w : World} {a : Act} {fn : Fn} {cs bs : Array Value} {u ty : TypeId} {dst : Option Tmp} {x y : Operand} {pos : String} {af : Array Edge} {g : Option (Nat × Bool)} (hx : a.eval x = .func fn cs bs) (hy : a.eval y = .nilFunc) :
    (execOp a.eval ⟨dst, .binOp .eql 64 x y u, ty, pos, af, g⟩).run Try.prog w = .ok (.value (.bool false)) w := by
  simp [execOp, hx, hy, eqGuard, binOp, Op.equal, Op.maxDepth, eqf64]
theorem wl_nilF {w : World} {a : Act} {ops : Array Oper} {Q : Exit → Act → World → Prop} {rest : List Oper} {fn : Fn} {cs bs : Array Value} {u ty : TypeId} {dst : Option Tmp} {x y : Operand} {pos : String} {af : Array Edge} {g : Option (Nat × Bool)}
    (hw : Region.wanted ⟨dst, .binOp .eql 64 x y u, ty, pos, af, g⟩ (yielded ops a.tmps) = true) (hx : a.eval x = .func fn cs bs) (hy : a.eval y = .nilFunc)
    (k : wpList Try.prog ops Q rest (a.put dst (.bool false)) w) : wpList Try.prog ops Q (⟨dst, .binOp .eql 64 x y u, ty, pos, af, g⟩ :: rest) a w := wl_run hw (run_nilF hx hy) k
theorem leave0c {P : Program} {fn : Func} {R : Ending → World → Prop} {a : Act} {w w0 : World} {D : Nat → Prop} {L : List Ent} {p b n : Nat} {agg : Bool} {t : TypeId} {x : Ent} {v : Value} (i : Nat) (H : Hp w0 D L w) (hd : a.defers = []) (hres : fn.results = #[.cell p t])
    (hp : a.tmps.getD p undef = .pointer (some ⟨b, 0, none⟩)) (hi : L[i]? = some x) (hb : x.a = some b) (ht : tI P t = some (agg, n)) (hv : pick agg n x.xs 0 = some v) (h : R (.returned v) w) : bodyPostM Fence.wide 0 P fn R .ret a w := by
  show LeavesInM _ _ _ _ _ _ _ _ _
  rw [hd]
  have := H.load hi hb ht hv
  have hp' : a.tmps[p]?.getD undef = .pointer (some ⟨b, 0, none⟩) := by simpa using hp
  exact ⟨v, by simp [results, hres, hp', asAddr, this], h⟩
theorem large_x {w0 : World} {D : Nat → Prop} {R : List Ent} {w : World} {xk xf xd xn : Int} {xt : ByteArray} {xa : Option Addr} {xc N : Nat} {ks : List Tr} {q : Int} {r : Bool} (H : Hp w0 D R w) (ht : TrA w0 D (.mk xk xf xd xn xt xa xc ks)) (hq : partsT (Tr.pt (.mk xk xf xd xn xt xa xc ks)) 6000 = q) (hr : decide (6000 < q) = r) (hN : ks.length = N) :
    Calls Try.prog 23 #[.agg (List.toArray [.int .i64 xk, .int .i64 xf, .int .i64 xd, .int .u64 xn, .string xt, .slice xa N xc])] w fun e w' => e = .returned (.bool r) ∧ Hp w0 D R w' := by
  subst hN
  exact large_spec (t := (.mk xk xf xd xn xt xa xc ks)) H (ht.rd R) hq hr
theorem Lent_x {w0 : World} {D : Nat → Prop} {R : List Ent} {w : World} {xk xf xd xn : Int} {xt : ByteArray} {xa : Option Addr} {xc N : Nat} {ks : List Tr} (H : Hp w0 D R w) (ht : TrR w0 D R (.mk xk xf xd xn xt xa xc ks)) (hs : (Tr.pt (.mk xk xf xd xn xt xa xc ks)).size ≤ 6000) (hN : ks.length = N) :
    Calls Try.prog 24 #[.agg (List.toArray [.int .i64 xk, .int .i64 xf, .int .i64 xd, .int .u64 xn, .string xt, .slice xa N xc])] w fun e w' => LentP w0 D R (Tr.pt (.mk xk xf xd xn xt xa xc ks)) e w' := by
  subst hN
  exact Lent_spec (.mk xk xf xd xn xt xa xc ks) w H ht hs
theorem rOf_x {w0 : World} {D : Nat → Prop} {R : List Ent} {w : World} {q : Nat} {b s d : Option Nat} {cb cs cd : Nat} {l l2 : List En} {tm er : Int} {xk xf xd xn : Int} {xt : ByteArray} {xa : Option Addr} {xc N : Nat} {ks : List Tr} (H : Hp w0 D (eQ q b s d cb cs cd l :: eQn b cb l :: eQs s cs l :: eQd d cd l :: R) w) (ht : TrR w0 D R (.mk xk xf xd xn xt xa xc ks)) (hl : l.length ≤ 65536) (ho : okP l) (h1 : ofE l (Tr.pt (.mk xk xf xd xn xt xa xc ks)) = (l2, tm, er)) (hng : (looksT (Tr.pt (.mk xk xf xd xn xt xa xc ks)) 0 0).1 = 0 → (growT (Tr.pt (.mk xk xf xd xn xt xa xc ks)) l).2.2 = 0) (hN : ks.length = N) :
    Calls Try.prog 26 #[.pointer (some ⟨q, 0, none⟩), .agg (List.toArray [.int .i64 xk, .int .i64 xf, .int .i64 xd, .int .u64 xn, .string xt, .slice xa N xc])] w fun e w' => RMkP w0 D R q l2 tm er e w' := by
  subst hN
  exact rOf_spec (t := (.mk xk xf xd xn xt xa xc ks)) H ht hl ho h1 hng
structure LwZ (Z : List Ent) (b3 b11 b12 c2 c3 p : Nat) (aw : Option Nat) (cw : Nat) (sp : Int) (l : List En) (t : Int) (full : List Int) : Prop where
  it : ItZ Z c2 c3 p l t
  eq : subsP l t = full
  x12 : ∃ i : Nat, Z[i]? = some ⟨some b12, [(.func (.func 63) #[] #[.pointer (some ⟨c2, 0, none⟩), .pointer (some ⟨c3, 0, none⟩)])], 64, 1⟩
  x11 : ∃ i : Nat, Z[i]? = some ⟨some b11, [.slice (adr aw 0) full.length cw], 61, 1⟩
  ou : ∃ i : Nat, Z[i]? = some (eOu aw cw full)
  x3 : ∃ i : Nat, Z[i]? = some ⟨some b3, [.int .i64 sp], 3, 1⟩
theorem LwZ.push {Z : List Ent} {b3 b11 b12 c2 c3 p : Nat} {aw : Option Nat} {cw : Nat} {sp : Int} {l : List En} {t : Int} {full : List Int} (h : LwZ Z b3 b11 b12 c2 c3 p aw cw sp l t full) (A : List Ent) : LwZ (A ++ Z) b3 b11 b12 c2 c3 p aw cw sp l t full := by
  obtain ⟨h1, h2, ⟨i, hi⟩, ⟨j, hj⟩, ⟨k, hk⟩, ⟨m, hm⟩⟩ := h
  exact ⟨h1.push A, h2, ⟨_, get_push hi A⟩, ⟨_, get_push hj A⟩, ⟨_, get_push hk A⟩, ⟨_, get_push hm A⟩⟩
theorem LwZ.seq {Z : List Ent} {b3 b11 b12 c2 c3 p : Nat} {aw : Option Nat} {cw : Nat} {sp : Int} {l : List En} {t : Int} {full : List Int} (h : LwZ Z b3 b11 b12 c2 c3 p aw cw sp l t full) (hl : l.length ≤ 65536) (hw : wfP l) :
    SeqG Try.prog 63 #[.pointer (some ⟨c2, 0, none⟩), .pointer (some ⟨c3, 0, none⟩)] (fun x : Int => #[.int .i64 x]) full Z := by
  rw [← h.eq]; exact Subs_seq hl hw h.it
set_option maxHeartbeats 32000000 in
theorem TSubs_spec {w0 w : World} {D : Nat → Prop} {R : List Ent} (H : Hp w0 D R w) (t : Tr) (hT : TrA w0 D t) (sp : Int) :
    Calls Try.prog 7 #[.agg t.cells.toArray, .int .i64 sp] w fun e w' => e = .returned (.bool true) ∧ ∃ L, Hp w0 D L w' := by
  obtain ⟨xk, xf, xd, xn, xt, xa, xc, ks⟩ := t
  obtain ⟨qn, hqn⟩ : ∃ qn, partsT (Tr.pt (.mk xk xf xd xn xt xa xc ks)) 6000 = qn := ⟨_, rfl⟩
  obtain ⟨rb, hrb⟩ : ∃ rb, decide (6000 < qn) = rb := ⟨_, rfl⟩
  have HTR := Lib.hid hT
  have HLQ := Lib.hid hqn
  have HLR := Lib.hid hrb
  obtain ⟨N, hN⟩ : ∃ N, ks.length = N := ⟨_, rfl⟩
  have HN := Lib.hid hN
  have hsz : rb = false → (Tr.pt (.mk xk xf xd xn xt xa xc ks)).size ≤ 6000 := fun h => by
    have h1 : ¬ 6000 < qn := by rw [h] at hrb; simpa using hrb
    have h2 := partsT_eq (Tr.pt (.mk xk xf xd xn xt xa xc ks)) 6000 (by omega) (by rw [hqn]; omega)
    rw [hqn] at h2
    omega
  simp only [Tr.cells]
  rw [hN]
  clear hN hT hqn hrb
  have hmf : ∀ (fn : Fn) (first cap : Array Value) (w : World), (Instr.makeFunc fn first cap).run Try.prog w = .ok (.func fn first cap) w := fun _ _ _ _ => rfl
  cases rb with
  | true =>
    refine (callsIn_wide (n := 0)).1 (callsIn_of_wp_marks Try.func7 rfl trivial (wpIn_wide.2 ?_) rfl)
    simp only [Try.ntmps7, List.size_toArray, List.length_cons, List.length_nil, Nat.reduceAdd, Nat.reduceSub, Array.replicate_succ, Array.replicate_zero, List.push_toArray, List.append_toArray, List.nil_append, List.cons_append]
    go_wp2_with (first
    | ((with_reducible refine gBx ?_); first | (refine bxA (vs := [.int .i64 xk, .int .i64 xf, .int .i64 xd, .int .u64 xn, .string xt, .slice xa N xc]) H rfl rfl rfl ?_; clear H; intro b2 w1 H) | (refine wl_box (v := .int .i64 sp) (n := 1) rfl rfl rfl H ?_; clear H; intro b3 w1 H; replace H : Hp _ _ (⟨some b3, [.int .i64 sp], 3, 1⟩ :: _) w1 := H))
    | ((with_reducible refine gAl ?_); first | (refine wl_alloc rfl Z4 H ?_; clear H; intro b4 w1 H; replace H : Hp _ _ (⟨some b4, [.bool false], 4, 1⟩ :: _) w1 := H) | (refine wl_alloc rfl Z61 H ?_; clear H; intro b11 w1 H; replace H : Hp _ _ (⟨some b11, [.slice none 0 0], 61, 1⟩ :: _) w1 := H) | (refine wl_alloc rfl Z64 H ?_; clear H; intro b12 w1 H; replace H : Hp _ _ (⟨some b12, [.nilFunc], 64, 1⟩ :: _) w1 := H))
    | (go_at_call 23; (refine (large_x H HTR.out HLQ.out HLR.out HN.out).mono ?_; rintro e w1 ⟨rfl, H1⟩; clear H; have H := H1; clear H1))
    | (go_at_call 11; ((refine (live_hp H).mono ?_); rintro e w1 ⟨rfl, H1⟩; clear H; have H := H1; clear H1))
    | ((with_reducible refine gLd ?_); refine eLd H rfl rfl ?_; first | ((repeat ((with_reducible refine gEx ?_); first | (refine kLd 0 rfl rfl (by exact TV _ rfl) rfl ?_) | (refine kLdA 0 rfl rfl (by exact TV _ rfl) (Nat.le_of_ble_eq_true rfl) (by simp only [Nd.cells, Nd.zero, LS2]; rfl) ?_) | (refine nxL ?_))); fail_if_success (with_reducible refine gEx ?_)))
    | ((with_reducible refine gSt ?_); (first | (refine eSt H rfl rfl ⟨.int _ _, rfl, ?_⟩) | (refine eSt H rfl rfl ⟨.bool _, rfl, ?_⟩) | (refine eSt H rfl rfl ⟨.slice _ _ _, rfl, ?_⟩) | (refine eSt H rfl rfl ⟨.pointer _, rfl, ?_⟩) | (refine eSt H rfl rfl ⟨.string _, rfl, ?_⟩) | (refine eSt H rfl rfl ⟨.agg (List.toArray _), rfl, ?_⟩)); (first | ((repeat ((with_reducible refine gES ?_); first | (refine kSt 0 rfl rfl (by exact TV _ rfl) rfl (Nat.le_of_ble_eq_true rfl) ?_) | (refine kStA 0 rfl rfl (by exact TV _ rfl) rfl rfl (Nat.le_of_ble_eq_true rfl) ?_) | (refine nxS ?_))); fail_if_success (with_reducible refine gES ?_))); clear H; intro w1 H; simp only [List.set_cons_zero, List.set_cons_succ] at H; (try simp only [lay, LS1, Nat.reduceAdd] at H)))
    all_goals exact leave0c (v := .bool true) 0 H rfl rfl rfl rfl rfl T4 rfl ⟨rfl, _, H⟩
  | false =>
  have HSY := Lib.hid (hsz rfl)
  obtain ⟨l2, tm, er, hof⟩ : ∃ l2 tm er, ofE [] (Tr.pt (.mk xk xf xd xn xt xa xc ks)) = (l2, tm, er) := ⟨_, _, _, rfl⟩
  have hsy := HSY.out
  have HNG : Hid ((looksT (Tr.pt (.mk xk xf xd xn xt xa xc ks)) 0 0).1 = 0 → (growT (Tr.pt (.mk xk xf xd xn xt xa xc ks)) []).2.2 = 0) := Lib.hid (grow_ok' wfP_nil (by simp only [List.length_nil]; omega))
  have hwf2 := ofE_wf (t := Tr.pt (.mk xk xf xd xn xt xa xc ks)) wfP_nil
  obtain ⟨mm, e1, e2⟩ := ofE_len [] (Tr.pt (.mk xk xf xd xn xt xa xc ks))
  rw [hof] at e1 hwf2
  dsimp only at e1 hwf2
  rw [List.nil_append] at e1
  have HL2 : Hid (l2.length ≤ 65536) := Lib.hid (by rw [e1]; omega)
  have HWF2 := Lib.hid hwf2
  have HL0 : Hid (([] : List En).length ≤ 65536) := Lib.hid (by simp)
  have HOK := Lib.hid wfP_nil.ok
  have HOF := Lib.hid hof
  clear hsz hof hsy hwf2 e1 e2
  refine (callsIn_wide (n := 0)).1 (callsIn_of_wp_marks Try.func7 rfl trivial (wpIn_wide.2 ?_) rfl)
  simp only [Try.ntmps7, List.size_toArray, List.length_cons, List.length_nil, Nat.reduceAdd, Nat.reduceSub, Array.replicate_succ, Array.replicate_zero, List.push_toArray, List.append_toArray, List.nil_append, List.cons_append]
  go_wp2_with (first
    | ((with_reducible refine gBx ?_); first | (refine bxA (vs := [.int .i64 xk, .int .i64 xf, .int .i64 xd, .int .u64 xn, .string xt, .slice xa N xc]) H rfl rfl rfl ?_; clear H; intro b2 w1 H) | (refine wl_box (v := .int .i64 sp) (n := 1) rfl rfl rfl H ?_; clear H; intro b3 w1 H; replace H : Hp _ _ (⟨some b3, [.int .i64 sp], 3, 1⟩ :: _) w1 := H))
    | ((with_reducible refine gAl ?_); first | (refine wl_alloc rfl Z4 H ?_; clear H; intro b4 w1 H; replace H : Hp _ _ (⟨some b4, [.bool false], 4, 1⟩ :: _) w1 := H) | (refine wl_alloc rfl Z61 H ?_; clear H; intro b11 w1 H; replace H : Hp _ _ (⟨some b11, [.slice none 0 0], 61, 1⟩ :: _) w1 := H) | (refine wl_alloc rfl Z64 H ?_; clear H; intro b12 w1 H; replace H : Hp _ _ (⟨some b12, [.nilFunc], 64, 1⟩ :: _) w1 := H))
    | (go_at_call 23; (refine (large_x H HTR.out HLQ.out HLR.out HN.out).mono ?_; rintro e w1 ⟨rfl, H1⟩; clear H; have H := H1; clear H1))
    | (go_at_call 12; (refine (New_spec (Hg.of H)).mono ?_; rintro e w1 ⟨p, rfl, hP⟩))
    | (go_at_call 13; (refine (rNew_pl hP).mono ?_; rintro e w1 ⟨q, rfl, h1⟩; clear hP H; obtain ⟨mb, a, c, hg⟩ := h1; obtain ⟨wx, Dx, H, back, bk2⟩ := hg.openX; clear hg))
    | (go_at_call 24; (refine (Lent_x H (TrR.down bk2 (HTR.out.rd _)) HSY.out HN.out).mono ?_; rintro e w1 ⟨⟨zk, zf, zd, zn, zt, za, zc, zs⟩, N1, rfl, hpt, htw, H1⟩; have HPT := Lib.hid hpt; have HTW := Lib.hid htw; clear hpt htw H; have H := Hp.swap (A := N1) (B := [_, _, _, _, _, _, _, _, _]) H1; clear H1; simp only [List.cons_append, List.nil_append] at H; (try simp only [Tr.cells])))
    | (go_at_call 25; (refine (Of_spec (L := _) (t := (.mk zk zf zd zn zt za zc zs)) ⟨mb, a, c, back _ _ H⟩ (((HTW.out.right R).push [_, _, _, _, _, _, _]) w0 D) HL0.out HOK.out ((congrArg (ofE []) HPT.out).trans HOF.out) (by rw [HPT.out]; exact HNG.out)).mono ?_; rintro e w1 ⟨rfl, h1⟩; clear H back bk2; obtain ⟨mb, a, c, hg⟩ := h1; obtain ⟨wz, Dz, H, back, bk2⟩ := hg.openX; clear hg))
    | (go_at_call 26; (refine (rOf_x (Hp.swap (A := [_, _]) (B := [_, _, _, _]) H) (TrR.down bk2 (HTR.out.rd _)) HL0.out HOK.out HOF.out HNG.out HN.out).mono ?_; rintro e w1 ⟨b, s, d, cb, cs, cd, rfl, H1⟩; clear H; have H := Hp.swap (A := [_, _, _, _]) (B := [_, _]) H1; clear H1; simp only [List.cons_append, List.nil_append] at H))
    | (go_at_call 18; ((refine (num_spec H er).mono ?_); rintro e w1 ⟨rfl, H1⟩; clear H; have H := H1; clear H1))
    | (go_at_call 32; (refine (rSubs_spec HL2.out HWF2.out H ⟨b, s, d, cb, cs, cd, 2, 3, rfl, rfl⟩).mono ?_; rintro e w1 ⟨aw, cw, rfl, H1⟩; clear H; have H := H1; clear H1; (try simp only [])))
    | (go_at_call 33; (refine (SubsF_spec H).mono ?_; rintro e w1 ⟨c2, c3, rfl, H1⟩; clear H; have H := H1; clear H1))
    | ((with_reducible refine gEq ?_); refine wl_nilF rfl rfl rfl ?_)
    | ((with_reducible refine gSt ?_); first | (refine eSt H rfl rfl ⟨.func (.func 63) #[] _, rfl, ?_⟩; refine kSt 0 rfl rfl T64 rfl (Nat.le_of_ble_eq_true rfl) ?_; clear H; intro w1 H; simp only [List.set_cons_zero, List.set_cons_succ] at H) | (refine eSt H rfl rfl ⟨.slice _ _ _, rfl, ?_⟩; refine kSt 0 rfl rfl T61 rfl (Nat.le_of_ble_eq_true rfl) ?_; clear H; intro w1 H; simp only [List.set_cons_zero, List.set_cons_succ] at H))
    | ((with_reducible refine gAl ?_); first | (have hq := br; clear hq; refine wl_alloc rfl Z3 H ?_; clear H; intro bn w1 H; replace H : Hp _ _ (⟨some bn, [.int .i64 0], 3, 1⟩ :: _) w1 := H) | (have hq := b12; clear hq; refine wl_alloc rfl Z3 H ?_; clear H; intro br w1 H; replace H : Hp _ _ (⟨some br, [.int .i64 0], 3, 1⟩ :: _) w1 := H))
    | ((with_reducible refine gLd ?_); refine eLd H rfl rfl ?_; first | ((repeat ((with_reducible refine gEx ?_); first | (refine kLd 0 rfl rfl (by exact TV _ rfl) rfl ?_) | (refine kLdA 0 rfl rfl (by exact TV _ rfl) (Nat.le_of_ble_eq_true rfl) (by simp only [Nd.cells, Nd.zero, LS2]; rfl) ?_) | (refine nxL ?_))); fail_if_success (with_reducible refine gEx ?_)))
    | ((with_reducible refine gSt ?_); (first | (refine eSt H rfl rfl ⟨.int _ _, rfl, ?_⟩) | (refine eSt H rfl rfl ⟨.bool _, rfl, ?_⟩) | (refine eSt H rfl rfl ⟨.slice _ _ _, rfl, ?_⟩) | (refine eSt H rfl rfl ⟨.pointer _, rfl, ?_⟩) | (refine eSt H rfl rfl ⟨.string _, rfl, ?_⟩) | (refine eSt H rfl rfl ⟨.agg (List.toArray _), rfl, ?_⟩)); (first | ((repeat ((with_reducible refine gES ?_); first | (refine kSt 0 rfl rfl (by exact TV _ rfl) rfl (Nat.le_of_ble_eq_true rfl) ?_) | (refine kStA 0 rfl rfl (by exact TV _ rfl) rfl rfl (Nat.le_of_ble_eq_true rfl) ?_) | (refine nxS ?_))); fail_if_success (with_reducible refine gES ?_))); clear H; intro w1 H; simp only [List.set_cons_zero, List.set_cons_succ] at H; (try simp only [lay, LS1, Nat.reduceAdd] at H))
    | ((with_reducible refine gEq ?_); (first | (refine wl_cmp rfl rfl rfl rfl ?_) | (refine wl_scmp rfl rfl rfl rfl ?_)); intro rb hrb; cases rb <;> (first | (exfalso; simp at hrb; done) | ((try simp only [CS1, gt_iff_lt, ge_iff_le, ne_eq, Decidable.not_not] at hrb); (try subst hrb); (try (exfalso; omega))))))
  refine wp_loop_rounds 3 ?_
  
  refine rounds_k (fun Kr hKr => ?_)
  
  go_wp2_with (first
      | ((with_reducible refine gAl ?_); first | (have hq := br; clear hq; refine wl_alloc rfl Z3 H ?_; clear H; intro bn w1 H; replace H : Hp _ _ (⟨some bn, [.int .i64 0], 3, 1⟩ :: _) w1 := H) | (have hq := b12; clear hq; refine wl_alloc rfl Z3 H ?_; clear H; intro br w1 H; replace H : Hp _ _ (⟨some br, [.int .i64 0], 3, 1⟩ :: _) w1 := H))
      | ((with_reducible refine gLd ?_); refine eLd H rfl rfl ?_; first | ((repeat ((with_reducible refine gEx ?_); first | (refine kLd 0 rfl rfl (by exact TV _ rfl) rfl ?_) | (refine kLdA 0 rfl rfl (by exact TV _ rfl) (Nat.le_of_ble_eq_true rfl) (by simp only [Nd.cells, Nd.zero, LS2]; rfl) ?_) | (refine nxL ?_))); fail_if_success (with_reducible refine gEx ?_)))
      | ((with_reducible refine gSt ?_); (first | (refine eSt H rfl rfl ⟨.int _ _, rfl, ?_⟩) | (refine eSt H rfl rfl ⟨.bool _, rfl, ?_⟩) | (refine eSt H rfl rfl ⟨.slice _ _ _, rfl, ?_⟩) | (refine eSt H rfl rfl ⟨.pointer _, rfl, ?_⟩) | (refine eSt H rfl rfl ⟨.string _, rfl, ?_⟩) | (refine eSt H rfl rfl ⟨.agg (List.toArray _), rfl, ?_⟩)); (first | ((repeat ((with_reducible refine gES ?_); first | (refine kSt 0 rfl rfl (by exact TV _ rfl) rfl (Nat.le_of_ble_eq_true rfl) ?_) | (refine kStA 0 rfl rfl (by exact TV _ rfl) rfl rfl (Nat.le_of_ble_eq_true rfl) ?_) | (refine nxS ?_))); fail_if_success (with_reducible refine gES ?_))); clear H; intro w1 H; simp only [List.set_cons_zero, List.set_cons_succ] at H; (try simp only [lay, LS1, Nat.reduceAdd] at H)))
  
  have HA := (H.swap (A := [_, _, _, _, _, _, _, _, _, _, _, _, _]) (B := [_])).swap (A := [_]) (B := [_, _])
  simp only [List.cons_append, List.nil_append] at HA
  obtain ⟨full, hfull⟩ : ∃ f, subsP l2 tm = f := ⟨_, rfl⟩
  have hfl : full.length ≤ 65536 := by rw [← hfull]; exact Nat.le_trans (subs_good HWF2.out tm).len HL2.out
  rw [hfull] at HA
  clear H
  obtain ⟨Z, H, LZ⟩ : ∃ Z, Hp wz Dz (⟨some bn, [.int .i64 0], 3, 1⟩ :: ⟨some br, [.int .i64 0], 3, 1⟩ :: ⟨some b4, [.bool false], 4, 1⟩ :: Z) _ ∧ LwZ Z b3 b11 b12 c2 c3 p aw cw sp l2 tm full :=
    ⟨_, HA, ⟨⟨mb, a, c, 5, 6, rfl, rfl⟩, ⟨2, rfl⟩, ⟨1, rfl⟩⟩, hfull, ⟨0, rfl⟩, ⟨3, rfl⟩, ⟨4, rfl⟩, ⟨11, rfl⟩⟩
  clear HA hfull back
  refine (wpIn_wide (n := 0)).1 ?_
  apply wp_rfGE 2 (M := [_, _, _]) (Z := Z) H rfl (enters_of Try.func63 (by kernel_rfl) rfl) (LZ.seq HL2.out HWF2.out) (fun _ => rfl) (fun pre L => L = [⟨some bn, [.int .i64 ((pre.length : Nat) : Int)], 3, 1⟩, ⟨some br, [.int .i64 0], 3, 1⟩, ⟨some b4, [.bool false], 4, 1⟩]) (fun _ L => ∃ m : Nat, L = [⟨some bn, [.int .i64 ((m : Nat) : Int)], 3, 1⟩, ⟨some br, [.int .i64 0], 3, 1⟩, ⟨some b4, [.bool false], 4, 1⟩]) rfl (fun a w h => by simpa [Exit.inBlock] using h)
  case hassign =>
    intro l x w1' K hK
    refine wpIn_reg (by decide) ?_
    go_wp2
    refine nq_intro ?_
    exact hK
  case hbody =>
    rintro l pre x post N9 L wv Dv hfu rfl X H1 hr hnd hle
    clear H
    obtain ⟨Z9, hZ9⟩ : ∃ Z9, N9 ++ Z = Z9 := ⟨_, rfl⟩
    have LZ9 := LZ.push N9
    rw [hZ9] at H1 LZ9 ⊢
    have H := H1
    clear H1
    simp only [List.cons_append, List.nil_append] at H
    obtain ⟨hit9, -, ⟨i12, g12⟩, ⟨i11, g11⟩, ⟨iw, gw⟩, ⟨i3, g3⟩⟩ := id LZ9
    have hxk : full[pre.length]? = some x := by rw [hfu]; simp
    have hpl : pre.length < full.length := (List.getElem?_eq_some_iff.1 hxk).1
    have HE9 : Hid ((full.map (Value.int .i64))[pre.length]? = some (.int .i64 x)) := Lib.hid (by rw [List.getElem?_map, hxk]; rfl)
    have HE1 : Hid ((((pre ++ [x]).length : Nat) : Int) = (pre.length : Int) + 1) := Lib.hid (by simp)
    have hcap : full.length ≤ cw := by have h5 := H.le (i := iw + 3) gw; dsimp only at h5; rw [List.length_map] at h5; exact h5
    obtain ⟨ab, hab⟩ := H.some_of (i := iw + 3) gw (by dsimp only; rw [List.length_map]; omega)
    have hab : aw = some ab := hab
    subst hab
    clear hfu hxk hZ9
    refine wpIn_block ?_
    
    refine wpIn_seq (wpIn_seq (wpIn_reg (by decide) ?_))
    go_wp2_with (first
        | ((with_reducible refine gLd ?_); refine eLd H rfl rfl ?_; first | (refine kLd (i12 + 3) g12 rfl T64 rfl ?_) | (refine kLd (i11 + 3) g11 rfl T61 rfl ?_) | (refine kLd (i3 + 3) g3 rfl T3 rfl ?_) | (refine kLd (iw + 3) gw rfl T28 HE9.out ?_))
        | ((with_reducible refine gLd ?_); refine eLd H rfl rfl ?_; first | ((repeat ((with_reducible refine gEx ?_); first | (refine kLd 0 rfl rfl (by exact TV _ rfl) rfl ?_) | (refine kLdA 0 rfl rfl (by exact TV _ rfl) (Nat.le_of_ble_eq_true rfl) (by simp only [Nd.cells, Nd.zero, LS2]; rfl) ?_) | (refine nxL ?_))); fail_if_success (with_reducible refine gEx ?_)))
        | ((with_reducible refine gEq ?_); refine wl_cmp rfl rfl rfl rfl ?_; intro rb hrb; (first | (have hq9 : rb = false := by (rw [← hrb]; first | (simp; done) | (simp; omega))) | (have hq9 : rb = true := by (rw [← hrb]; first | (simp; done) | (simp; omega)))); subst hq9; clear hrb))
    refine nq_intro ?_
    
    refine wpIn_cond_false rfl (wpIn_skip ?_)
    refine wpIn_seq ?_
    by_cases hp3 : pre.length < 3
    · refine wpIn_seq (wpIn_reg (by decide) ?_)
      go_wp2_with (first
          | ((with_reducible refine gLd ?_); refine eLd H rfl rfl ?_; first | ((repeat ((with_reducible refine gEx ?_); first | (refine kLd 0 rfl rfl (by exact TV _ rfl) rfl ?_) | (refine kLdA 0 rfl rfl (by exact TV _ rfl) (Nat.le_of_ble_eq_true rfl) (by simp only [Nd.cells, Nd.zero, LS2]; rfl) ?_) | (refine nxL ?_))); fail_if_success (with_reducible refine gEx ?_)))
          | ((with_reducible refine gEq ?_); refine wl_cmp rfl rfl rfl rfl ?_; intro rb hrb; (first | (have hq9 : rb = false := by (rw [← hrb]; first | (simp; done) | (simp; omega))) | (have hq9 : rb = true := by (rw [← hrb]; first | (simp; done) | (simp; omega)))); subst hq9; clear hrb))
      refine nq_intro ?_
      refine wpIn_cond_true rfl ?_
      refine wpIn_seq (wpIn_reg (by decide) ?_)
      go_wp2_with (first
          | ((with_reducible refine gAl ?_); refine wl_alloc rfl Z3 H ?_; clear H; intro bk w1 H; replace H : Hp _ _ (⟨some bk, [.int .i64 0], 3, 1⟩ :: _) w1 := H)
          | ((with_reducible refine gSt ?_); (first | (refine eSt H rfl rfl ⟨.int _ _, rfl, ?_⟩) | (refine eSt H rfl rfl ⟨.bool _, rfl, ?_⟩) | (refine eSt H rfl rfl ⟨.slice _ _ _, rfl, ?_⟩) | (refine eSt H rfl rfl ⟨.pointer _, rfl, ?_⟩) | (refine eSt H rfl rfl ⟨.string _, rfl, ?_⟩) | (refine eSt H rfl rfl ⟨.agg (List.toArray _), rfl, ?_⟩)); (first | ((repeat ((with_reducible refine gES ?_); first | (refine kSt 0 rfl rfl (by exact TV _ rfl) rfl (Nat.le_of_ble_eq_true rfl) ?_) | (refine kStA 0 rfl rfl (by exact TV _ rfl) rfl rfl (Nat.le_of_ble_eq_true rfl) ?_) | (refine nxS ?_))); fail_if_success (with_reducible refine gES ?_))); clear H; intro w1 H; simp only [List.set_cons_zero, List.set_cons_succ] at H; (try simp only [lay, LS1, Nat.reduceAdd] at H)))
      refine nq_intro ?_
      refine wpIn_seq (wpIn_seq (wpIn_reg (by decide) ?_))
      go_wp2_with (first
          | ((with_reducible refine gLd ?_); refine eLd H rfl rfl ?_; first | (refine kLd (i12 + 4) g12 rfl T64 rfl ?_) | (refine kLd (i11 + 4) g11 rfl T61 rfl ?_) | (refine kLd (i3 + 4) g3 rfl T3 rfl ?_) | (refine kLd (iw + 4) gw rfl T28 HE9.out ?_)))
      refine nq_intro ?_
      refine wpIn_block ?_
      obtain ⟨r0, hr0⟩ := hr
      have hl9 := (H.frame l (Array.getElem?_eq_some_iff.1 hr0).1 hnd).trans hr0
      apply wp_rfGN1 (M := [_, _, _, _]) (Z := Z9) hl9 H rfl (enters_of Try.func63 (by kernel_rfl) rfl) (LZ9.seq HL2.out HWF2.out) (fun _ => rfl) (fun pre2 L => L = [⟨some bk, [.int .i64 ((pre2.length : Nat) : Int)], 3, 1⟩, ⟨some bn, [.int .i64 ((pre.length : Nat) : Int)], 3, 1⟩, ⟨some br, [.int .i64 0], 3, 1⟩, ⟨some b4, [.bool false], 4, 1⟩]) (fun c pre2 L => c = .exit 4 ∧ L = [⟨some bk, [.int .i64 ((pre2.length : Nat) : Int)], 3, 1⟩, ⟨some bn, [.int .i64 ((pre.length : Nat) : Int)], 3, 1⟩, ⟨some br, [.int .i64 0], 3, 1⟩, ⟨some b4, [.bool false], 4, 1⟩]) rfl
      case hassign =>
        intro l x w1' K hK
        refine wpIn_skip ?_
        go_simp
        exact hK
      case hbody =>
        rintro l2 pre2 x2 post2 N8 L2 w2 D2 hfull2 rfl X2 H1
        clear H
        obtain ⟨Z8, hZ8⟩ : ∃ Z8, N8 ++ Z9 = Z8 := ⟨_, rfl⟩
        have LZ8 := LZ9.push N8
        rw [hZ8] at H1 LZ8 ⊢
        have H := H1
        clear H1 g12 g11 gw g3 i12 i11 iw i3
        simp only [List.cons_append, List.nil_append] at H
        obtain ⟨hit8, -, ⟨i12, g12⟩, ⟨i11, g11⟩, ⟨iw, gw⟩, ⟨i3, g3⟩⟩ := LZ8
        have hp2 : pre2.length < full.length := by have := congrArg List.length hfull2; simp only [List.length_append, List.length_cons] at this; omega
        have HE2 : Hid ((((pre2 ++ [x2]).length : Nat) : Int) = (pre2.length : Int) + 1) := Lib.hid (by simp)
        clear hfull2 hZ8
        refine wpIn_block ?_
        refine wpIn_seq (wpIn_reg (by decide) ?_)
        go_wp2_with (first
            | ((with_reducible refine gLd ?_); refine eLd H rfl rfl ?_; first | ((repeat ((with_reducible refine gEx ?_); first | (refine kLd 0 rfl rfl (by exact TV _ rfl) rfl ?_) | (refine kLdA 0 rfl rfl (by exact TV _ rfl) (Nat.le_of_ble_eq_true rfl) (by simp only [Nd.cells, Nd.zero, LS2]; rfl) ?_) | (refine nxL ?_))); fail_if_success (with_reducible refine gEx ?_)))
            | ((with_reducible refine gSt ?_); (first | (refine eSt H rfl rfl ⟨.int _ _, rfl, ?_⟩) | (refine eSt H rfl rfl ⟨.bool _, rfl, ?_⟩) | (refine eSt H rfl rfl ⟨.slice _ _ _, rfl, ?_⟩) | (refine eSt H rfl rfl ⟨.pointer _, rfl, ?_⟩) | (refine eSt H rfl rfl ⟨.string _, rfl, ?_⟩) | (refine eSt H rfl rfl ⟨.agg (List.toArray _), rfl, ?_⟩)); (first | ((repeat ((with_reducible refine gES ?_); first | (refine kSt 0 rfl rfl (by exact TV _ rfl) rfl (Nat.le_of_ble_eq_true rfl) ?_) | (refine kStA 0 rfl rfl (by exact TV _ rfl) rfl rfl (Nat.le_of_ble_eq_true rfl) ?_) | (refine nxS ?_))); fail_if_success (with_reducible refine gES ?_))); clear H; intro w1 H; simp only [List.set_cons_zero, List.set_cons_succ] at H; (try simp only [lay, LS1, Nat.reduceAdd] at H)))
        refine nq_intro ?_
        rcases (show (pre2.length : Int) + 1 = sp ∨ ¬ (pre2.length : Int) + 1 = sp by omega) with hst | hst
        · have hs1 : sp ≤ (pre2.length : Int) + 1 := by omega
          have hs2 : (pre2.length : Int) + 1 ≤ sp := by omega
          clear hst
          refine wpIn_seq (wpIn_reg (by decide) ?_)
          go_wp2_with (first
              | ((with_reducible refine gLd ?_); refine eLd H rfl rfl ?_; first | (refine kLd (i12 + 4) g12 rfl T64 rfl ?_) | (refine kLd (i11 + 4) g11 rfl T61 rfl ?_) | (refine kLd (i3 + 4) g3 rfl T3 rfl ?_))
              | ((with_reducible refine gLd ?_); refine eLd H rfl rfl ?_; first | ((repeat ((with_reducible refine gEx ?_); first | (refine kLd 0 rfl rfl (by exact TV _ rfl) rfl ?_) | (refine kLdA 0 rfl rfl (by exact TV _ rfl) (Nat.le_of_ble_eq_true rfl) (by simp only [Nd.cells, Nd.zero, LS2]; rfl) ?_) | (refine nxL ?_))); fail_if_success (with_reducible refine gEx ?_)))
              | ((with_reducible refine gEq ?_); refine wl_cmp rfl rfl rfl rfl ?_; intro rb hrb; (first | (have hq9 : rb = false := by (rw [← hrb]; first | (simp; done) | (simp; omega))) | (have hq9 : rb = true := by (rw [← hrb]; first | (simp; done) | (simp; omega)))); subst hq9; clear hrb))
          refine nq_intro ?_
          refine wpIn_cond_true rfl ?_
          refine wpIn_exit ?_
          refine ⟨_, ⟨rfl, rfl⟩, ?_⟩
          rw [HE2.out]
          exact H
        · refine wpIn_seq (wpIn_reg (by decide) ?_)
          go_wp2_with (first
              | ((with_reducible refine gLd ?_); refine eLd H rfl rfl ?_; first | (refine kLd (i12 + 4) g12 rfl T64 rfl ?_) | (refine kLd (i11 + 4) g11 rfl T61 rfl ?_) | (refine kLd (i3 + 4) g3 rfl T3 rfl ?_))
              | ((with_reducible refine gLd ?_); refine eLd H rfl rfl ?_; first | ((repeat ((with_reducible refine gEx ?_); first | (refine kLd 0 rfl rfl (by exact TV _ rfl) rfl ?_) | (refine kLdA 0 rfl rfl (by exact TV _ rfl) (Nat.le_of_ble_eq_true rfl) (by simp only [Nd.cells, Nd.zero, LS2]; rfl) ?_) | (refine nxL ?_))); fail_if_success (with_reducible refine gEx ?_)))
              | ((with_reducible refine gEq ?_); refine wl_cmp rfl rfl rfl rfl ?_; intro rb hrb; (first | (have hq9 : rb = false := by (rw [← hrb]; first | (simp; done) | (simp; omega))) | (have hq9 : rb = true := by (rw [← hrb]; first | (simp; done) | (simp; omega)))); subst hq9; clear hrb))
          refine nq_intro ?_
          refine wpIn_cond_false rfl (wpIn_skip ?_)
          refine ⟨_, rfl, ?_⟩
          rw [HE2.out]
          exact H
      case hdone =>
        rintro L2 w2 D2 rfl X2 H1
        clear H
        have H := H1
        clear H1
        simp only [List.cons_append, List.nil_append] at H
        refine wpIn_seq (wpIn_reg (by decide) ?_)
        go_wp2_with (first
            | ((with_reducible refine gLd ?_); refine eLd H rfl rfl ?_; first | (refine kLd (i12 + 4) g12 rfl T64 rfl ?_) | (refine kLd (i11 + 4) g11 rfl T61 rfl ?_) | (refine kLd (i3 + 4) g3 rfl T3 rfl ?_) | (refine kLd (iw + 4) gw rfl T28 HE9.out ?_))
            | ((with_reducible refine gLd ?_); refine eLd H rfl rfl ?_; first | ((repeat ((with_reducible refine gEx ?_); first | (refine kLd 0 rfl rfl (by exact TV _ rfl) rfl ?_) | (refine kLdA 0 rfl rfl (by exact TV _ rfl) (Nat.le_of_ble_eq_true rfl) (by simp only [Nd.cells, Nd.zero, LS2]; rfl) ?_) | (refine nxL ?_))); fail_if_success (with_reducible refine gEx ?_)))
            | ((with_reducible refine gEq ?_); refine wl_cmp rfl rfl rfl rfl ?_; intro rb hrb; (first | (have hq9 : rb = false := by (rw [← hrb]; first | (simp; done) | (simp; omega))) | (have hq9 : rb = true := by (rw [← hrb]; first | (simp; done) | (simp; omega)))); subst hq9; clear hrb))
        refine nq_intro ?_
        refine wpIn_cond_false rfl (wpIn_skip ?_)
        refine wpIn_seq (wpIn_reg (by decide) ?_)
        go_wp2_with (first
            | ((with_reducible refine gLd ?_); refine eLd H rfl rfl ?_; first | ((repeat ((with_reducible refine gEx ?_); first | (refine kLd 0 rfl rfl (by exact TV _ rfl) rfl ?_) | (refine kLdA 0 rfl rfl (by exact TV _ rfl) (Nat.le_of_ble_eq_true rfl) (by simp only [Nd.cells, Nd.zero, LS2]; rfl) ?_) | (refine nxL ?_))); fail_if_success (with_reducible refine gEx ?_)))
            | ((with_reducible refine gSt ?_); (first | (refine eSt H rfl rfl ⟨.int _ _, rfl, ?_⟩) | (refine eSt H rfl rfl ⟨.bool _, rfl, ?_⟩) | (refine eSt H rfl rfl ⟨.slice _ _ _, rfl, ?_⟩) | (refine eSt H rfl rfl ⟨.pointer _, rfl, ?_⟩) | (refine eSt H rfl rfl ⟨.string _, rfl, ?_⟩) | (refine eSt H rfl rfl ⟨.agg (List.toArray _), rfl, ?_⟩)); (first | ((repeat ((with_reducible refine gES ?_); first | (refine kSt 0 rfl rfl (by exact TV _ rfl) rfl (Nat.le_of_ble_eq_true rfl) ?_) | (refine kStA 0 rfl rfl (by exact TV _ rfl) rfl rfl (Nat.le_of_ble_eq_true rfl) ?_) | (refine nxS ?_))); fail_if_success (with_reducible refine gES ?_))); clear H; intro w1 H; simp only [List.set_cons_zero, List.set_cons_succ] at H; (try simp only [lay, LS1, Nat.reduceAdd] at H)))
        refine nq_intro ?_
        rcases (show (pre.length : Int) + 1 = sp ∨ ¬ (pre.length : Int) + 1 = sp by omega) with hst | hst
        · have hs1 : sp ≤ (pre.length : Int) + 1 := by omega
          have hs2 : (pre.length : Int) + 1 ≤ sp := by omega
          clear hst
          refine wpIn_seq (wpIn_reg (by decide) ?_)
          go_wp2_with (first
              | ((with_reducible refine gLd ?_); refine eLd H rfl rfl ?_; first | (refine kLd (i12 + 4) g12 rfl T64 rfl ?_) | (refine kLd (i11 + 4) g11 rfl T61 rfl ?_) | (refine kLd (i3 + 4) g3 rfl T3 rfl ?_) | (refine kLd (iw + 4) gw rfl T28 HE9.out ?_))
              | ((with_reducible refine gLd ?_); refine eLd H rfl rfl ?_; first | ((repeat ((with_reducible refine gEx ?_); first | (refine kLd 0 rfl rfl (by exact TV _ rfl) rfl ?_) | (refine kLdA 0 rfl rfl (by exact TV _ rfl) (Nat.le_of_ble_eq_true rfl) (by simp only [Nd.cells, Nd.zero, LS2]; rfl) ?_) | (refine nxL ?_))); fail_if_success (with_reducible refine gEx ?_)))
              | ((with_reducible refine gEq ?_); refine wl_cmp rfl rfl rfl rfl ?_; intro rb hrb; (first | (have hq9 : rb = false := by (rw [← hrb]; first | (simp; done) | (simp; omega))) | (have hq9 : rb = true := by (rw [← hrb]; first | (simp; done) | (simp; omega)))); subst hq9; clear hrb))
          refine nq_intro ?_
          refine wpIn_cond_true rfl ?_
          refine wpIn_exit ?_
          refine ⟨_, ⟨rfl, pre.length + 1, rfl⟩, ?_⟩
          exact X2.hp H.drop
        · refine wpIn_seq (wpIn_reg (by decide) ?_)
          go_wp2_with (first
              | ((with_reducible refine gLd ?_); refine eLd H rfl rfl ?_; first | (refine kLd (i12 + 4) g12 rfl T64 rfl ?_) | (refine kLd (i11 + 4) g11 rfl T61 rfl ?_) | (refine kLd (i3 + 4) g3 rfl T3 rfl ?_) | (refine kLd (iw + 4) gw rfl T28 HE9.out ?_))
              | ((with_reducible refine gLd ?_); refine eLd H rfl rfl ?_; first | ((repeat ((with_reducible refine gEx ?_); first | (refine kLd 0 rfl rfl (by exact TV _ rfl) rfl ?_) | (refine kLdA 0 rfl rfl (by exact TV _ rfl) (Nat.le_of_ble_eq_true rfl) (by simp only [Nd.cells, Nd.zero, LS2]; rfl) ?_) | (refine nxL ?_))); fail_if_success (with_reducible refine gEx ?_)))
              | ((with_reducible refine gEq ?_); refine wl_cmp rfl rfl rfl rfl ?_; intro rb hrb; (first | (have hq9 : rb = false := by (rw [← hrb]; first | (simp; done) | (simp; omega))) | (have hq9 : rb = true := by (rw [← hrb]; first | (simp; done) | (simp; omega)))); subst hq9; clear hrb))
          refine nq_intro ?_
          refine wpIn_cond_false rfl (wpIn_skip ?_)
          refine ⟨_, rfl, ?_⟩
          rw [HE1.out]
          exact X2.hp H.drop
      case hstop =>
        rintro c9 pre2 post2 L2 w2 D2 hf2 ⟨rfl, rfl⟩ X2 H1
        have hp2 : pre2.length ≤ full.length := by have := congrArg List.length hf2; simp only [List.length_append] at this; omega
        clear H hf2
        have H := H1
        clear H1
        simp only [List.cons_append, List.nil_append] at H
        refine wpIn_exit ?_
        refine wpIn_seq (wpIn_reg (by decide) ?_)
        go_wp2_with (first
            | ((with_reducible refine gLd ?_); refine eLd H rfl rfl ?_; first | (refine kLd (i12 + 4) g12 rfl T64 rfl ?_) | (refine kLd (i11 + 4) g11 rfl T61 rfl ?_) | (refine kLd (i3 + 4) g3 rfl T3 rfl ?_) | (refine kLd (iw + 4) gw rfl T28 HE9.out ?_))
            | ((with_reducible refine gLd ?_); refine eLd H rfl rfl ?_; first | ((repeat ((with_reducible refine gEx ?_); first | (refine kLd 0 rfl rfl (by exact TV _ rfl) rfl ?_) | (refine kLdA 0 rfl rfl (by exact TV _ rfl) (Nat.le_of_ble_eq_true rfl) (by simp only [Nd.cells, Nd.zero, LS2]; rfl) ?_) | (refine nxL ?_))); fail_if_success (with_reducible refine gEx ?_)))
            | ((with_reducible refine gEq ?_); refine wl_cmp rfl rfl rfl rfl ?_; intro rb hrb; (first | (have hq9 : rb = false := by (rw [← hrb]; first | (simp; done) | (simp; omega))) | (have hq9 : rb = true := by (rw [← hrb]; first | (simp; done) | (simp; omega)))); subst hq9; clear hrb))
        refine nq_intro ?_
        refine wpIn_cond_false rfl (wpIn_skip ?_)
        refine wpIn_seq (wpIn_reg (by decide) ?_)
        go_wp2_with (first
            | ((with_reducible refine gLd ?_); refine eLd H rfl rfl ?_; first | ((repeat ((with_reducible refine gEx ?_); first | (refine kLd 0 rfl rfl (by exact TV _ rfl) rfl ?_) | (refine kLdA 0 rfl rfl (by exact TV _ rfl) (Nat.le_of_ble_eq_true rfl) (by simp only [Nd.cells, Nd.zero, LS2]; rfl) ?_) | (refine nxL ?_))); fail_if_success (with_reducible refine gEx ?_)))
            | ((with_reducible refine gSt ?_); (first | (refine eSt H rfl rfl ⟨.int _ _, rfl, ?_⟩) | (refine eSt H rfl rfl ⟨.bool _, rfl, ?_⟩) | (refine eSt H rfl rfl ⟨.slice _ _ _, rfl, ?_⟩) | (refine eSt H rfl rfl ⟨.pointer _, rfl, ?_⟩) | (refine eSt H rfl rfl ⟨.string _, rfl, ?_⟩) | (refine eSt H rfl rfl ⟨.agg (List.toArray _), rfl, ?_⟩)); (first | ((repeat ((with_reducible refine gES ?_); first | (refine kSt 0 rfl rfl (by exact TV _ rfl) rfl (Nat.le_of_ble_eq_true rfl) ?_) | (refine kStA 0 rfl rfl (by exact TV _ rfl) rfl rfl (Nat.le_of_ble_eq_true rfl) ?_) | (refine nxS ?_))); fail_if_success (with_reducible refine gES ?_))); clear H; intro w1 H; simp only [List.set_cons_zero, List.set_cons_succ] at H; (try simp only [lay, LS1, Nat.reduceAdd] at H)))
        refine nq_intro ?_
        rcases (show (pre.length : Int) + 1 = sp ∨ ¬ (pre.length : Int) + 1 = sp by omega) with hst | hst
        · have hs1 : sp ≤ (pre.length : Int) + 1 := by omega
          have hs2 : (pre.length : Int) + 1 ≤ sp := by omega
          clear hst
          refine wpIn_seq (wpIn_reg (by decide) ?_)
          go_wp2_with (first
              | ((with_reducible refine gLd ?_); refine eLd H rfl rfl ?_; first | (refine kLd (i12 + 4) g12 rfl T64 rfl ?_) | (refine kLd (i11 + 4) g11 rfl T61 rfl ?_) | (refine kLd (i3 + 4) g3 rfl T3 rfl ?_) | (refine kLd (iw + 4) gw rfl T28 HE9.out ?_))
              | ((with_reducible refine gLd ?_); refine eLd H rfl rfl ?_; first | ((repeat ((with_reducible refine gEx ?_); first | (refine kLd 0 rfl rfl (by exact TV _ rfl) rfl ?_) | (refine kLdA 0 rfl rfl (by exact TV _ rfl) (Nat.le_of_ble_eq_true rfl) (by simp only [Nd.cells, Nd.zero, LS2]; rfl) ?_) | (refine nxL ?_))); fail_if_success (with_reducible refine gEx ?_)))
              | ((with_reducible refine gEq ?_); refine wl_cmp rfl rfl rfl rfl ?_; intro rb hrb; (first | (have hq9 : rb = false := by (rw [← hrb]; first | (simp; done) | (simp; omega))) | (have hq9 : rb = true := by (rw [← hrb]; first | (simp; done) | (simp; omega)))); subst hq9; clear hrb))
          refine nq_intro ?_
          refine wpIn_cond_true rfl ?_
          refine wpIn_exit ?_
          refine ⟨_, ⟨rfl, pre.length + 1, rfl⟩, ?_⟩
          exact X2.hp H.drop
        · refine wpIn_seq (wpIn_reg (by decide) ?_)
          go_wp2_with (first
              | ((with_reducible refine gLd ?_); refine eLd H rfl rfl ?_; first | (refine kLd (i12 + 4) g12 rfl T64 rfl ?_) | (refine kLd (i11 + 4) g11 rfl T61 rfl ?_) | (refine kLd (i3 + 4) g3 rfl T3 rfl ?_) | (refine kLd (iw + 4) gw rfl T28 HE9.out ?_))
              | ((with_reducible refine gLd ?_); refine eLd H rfl rfl ?_; first | ((repeat ((with_reducible refine gEx ?_); first | (refine kLd 0 rfl rfl (by exact TV _ rfl) rfl ?_) | (refine kLdA 0 rfl rfl (by exact TV _ rfl) (Nat.le_of_ble_eq_true rfl) (by simp only [Nd.cells, Nd.zero, LS2]; rfl) ?_) | (refine nxL ?_))); fail_if_success (with_reducible refine gEx ?_)))
              | ((with_reducible refine gEq ?_); refine wl_cmp rfl rfl rfl rfl ?_; intro rb hrb; (first | (have hq9 : rb = false := by (rw [← hrb]; first | (simp; done) | (simp; omega))) | (have hq9 : rb = true := by (rw [← hrb]; first | (simp; done) | (simp; omega)))); subst hq9; clear hrb))
          refine nq_intro ?_
          refine wpIn_cond_false rfl (wpIn_skip ?_)
          refine ⟨_, rfl, ?_⟩
          rw [HE1.out]
          exact X2.hp H.drop
    · refine wpIn_seq (wpIn_reg (by decide) ?_)
      go_wp2_with (first
          | ((with_reducible refine gLd ?_); refine eLd H rfl rfl ?_; first | ((repeat ((with_reducible refine gEx ?_); first | (refine kLd 0 rfl rfl (by exact TV _ rfl) rfl ?_) | (refine kLdA 0 rfl rfl (by exact TV _ rfl) (Nat.le_of_ble_eq_true rfl) (by simp only [Nd.cells, Nd.zero, LS2]; rfl) ?_) | (refine nxL ?_))); fail_if_success (with_reducible refine gEx ?_)))
          | ((with_reducible refine gEq ?_); refine wl_cmp rfl rfl rfl rfl ?_; intro rb hrb; (first | (have hq9 : rb = false := by (rw [← hrb]; first | (simp; done) | (simp; omega))) | (have hq9 : rb = true := by (rw [← hrb]; first | (simp; done) | (simp; omega)))); subst hq9; clear hrb))
      refine nq_intro ?_
      refine wpIn_cond_false rfl (wpIn_skip ?_)
      refine wpIn_seq (wpIn_reg (by decide) ?_)
      go_wp2_with (first
          | ((with_reducible refine gLd ?_); refine eLd H rfl rfl ?_; first | ((repeat ((with_reducible refine gEx ?_); first | (refine kLd 0 rfl rfl (by exact TV _ rfl) rfl ?_) | (refine kLdA 0 rfl rfl (by exact TV _ rfl) (Nat.le_of_ble_eq_true rfl) (by simp only [Nd.cells, Nd.zero, LS2]; rfl) ?_) | (refine nxL ?_))); fail_if_success (with_reducible refine gEx ?_)))
          | ((with_reducible refine gSt ?_); (first | (refine eSt H rfl rfl ⟨.int _ _, rfl, ?_⟩) | (refine eSt H rfl rfl ⟨.bool _, rfl, ?_⟩) | (refine eSt H rfl rfl ⟨.slice _ _ _, rfl, ?_⟩) | (refine eSt H rfl rfl ⟨.pointer _, rfl, ?_⟩) | (refine eSt H rfl rfl ⟨.string _, rfl, ?_⟩) | (refine eSt H rfl rfl ⟨.agg (List.toArray _), rfl, ?_⟩)); (first | ((repeat ((with_reducible refine gES ?_); first | (refine kSt 0 rfl rfl (by exact TV _ rfl) rfl (Nat.le_of_ble_eq_true rfl) ?_) | (refine kStA 0 rfl rfl (by exact TV _ rfl) rfl rfl (Nat.le_of_ble_eq_true rfl) ?_) | (refine nxS ?_))); fail_if_success (with_reducible refine gES ?_))); clear H; intro w1 H; simp only [List.set_cons_zero, List.set_cons_succ] at H; (try simp only [lay, LS1, Nat.reduceAdd] at H)))
      refine nq_intro ?_
      rcases (show (pre.length : Int) + 1 = sp ∨ ¬ (pre.length : Int) + 1 = sp by omega) with hst | hst
      · have hs1 : sp ≤ (pre.length : Int) + 1 := by omega
        have hs2 : (pre.length : Int) + 1 ≤ sp := by omega
        clear hst
        refine wpIn_seq (wpIn_reg (by decide) ?_)
        go_wp2_with (first
            | ((with_reducible refine gLd ?_); refine eLd H rfl rfl ?_; first | (refine kLd (i12 + 3) g12 rfl T64 rfl ?_) | (refine kLd (i11 + 3) g11 rfl T61 rfl ?_) | (refine kLd (i3 + 3) g3 rfl T3 rfl ?_) | (refine kLd (iw + 3) gw rfl T28 HE9.out ?_))
            | ((with_reducible refine gLd ?_); refine eLd H rfl rfl ?_; first | ((repeat ((with_reducible refine gEx ?_); first | (refine kLd 0 rfl rfl (by exact TV _ rfl) rfl ?_) | (refine kLdA 0 rfl rfl (by exact TV _ rfl) (Nat.le_of_ble_eq_true rfl) (by simp only [Nd.cells, Nd.zero, LS2]; rfl) ?_) | (refine nxL ?_))); fail_if_success (with_reducible refine gEx ?_)))
            | ((with_reducible refine gEq ?_); refine wl_cmp rfl rfl rfl rfl ?_; intro rb hrb; (first | (have hq9 : rb = false := by (rw [← hrb]; first | (simp; done) | (simp; omega))) | (have hq9 : rb = true := by (rw [← hrb]; first | (simp; done) | (simp; omega)))); subst hq9; clear hrb))
        refine nq_intro ?_
        refine wpIn_cond_true rfl ?_
        refine wpIn_exit ?_
        refine ⟨_, ⟨rfl, pre.length + 1, rfl⟩, ?_⟩
        exact H
      · refine wpIn_seq (wpIn_reg (by decide) ?_)
        go_wp2_with (first
            | ((with_reducible refine gLd ?_); refine eLd H rfl rfl ?_; first | (refine kLd (i12 + 3) g12 rfl T64 rfl ?_) | (refine kLd (i11 + 3) g11 rfl T61 rfl ?_) | (refine kLd (i3 + 3) g3 rfl T3 rfl ?_) | (refine kLd (iw + 3) gw rfl T28 HE9.out ?_))
            | ((with_reducible refine gLd ?_); refine eLd H rfl rfl ?_; first | ((repeat ((with_reducible refine gEx ?_); first | (refine kLd 0 rfl rfl (by exact TV _ rfl) rfl ?_) | (refine kLdA 0 rfl rfl (by exact TV _ rfl) (Nat.le_of_ble_eq_true rfl) (by simp only [Nd.cells, Nd.zero, LS2]; rfl) ?_) | (refine nxL ?_))); fail_if_success (with_reducible refine gEx ?_)))
            | ((with_reducible refine gEq ?_); refine wl_cmp rfl rfl rfl rfl ?_; intro rb hrb; (first | (have hq9 : rb = false := by (rw [← hrb]; first | (simp; done) | (simp; omega))) | (have hq9 : rb = true := by (rw [← hrb]; first | (simp; done) | (simp; omega)))); subst hq9; clear hrb))
        refine nq_intro ?_
        refine wpIn_cond_false rfl (wpIn_skip ?_)
        refine ⟨_, rfl, ?_⟩
        rw [HE1.out]
        exact H
  case hend =>
    rintro k1 pre L w1a Da hpl X1 H1 hm1
    obtain ⟨m, rfl⟩ : ∃ m : Nat, L = [⟨some bn, [.int .i64 ((m : Nat) : Int)], 3, 1⟩, ⟨some br, [.int .i64 0], 3, 1⟩, ⟨some b4, [.bool false], 4, 1⟩] := by
      rcases hpl with ⟨_, h⟩ | h
      · exact ⟨_, h⟩
      · exact h
    clear hpl H
    have H := H1
    clear H1
    simp only [List.cons_append, List.nil_append] at H
    obtain ⟨hit, -, ⟨i12, g12⟩, ⟨i11, g11⟩, ⟨iw, gw⟩, ⟨i3, g3⟩⟩ := id LZ
    go_wp2_with (first
        | ((with_reducible refine gAl ?_); first | (have hq := br2; clear hq; refine wl_alloc rfl Z3 H ?_; clear H; intro bn2 w1 H; replace H : Hp _ _ (⟨some bn2, [.int .i64 0], 3, 1⟩ :: _) w1 := H) | (have hq := k1; clear hq; refine wl_alloc rfl Z3 H ?_; clear H; intro br2 w1 H; replace H : Hp _ _ (⟨some br2, [.int .i64 0], 3, 1⟩ :: _) w1 := H))
        | ((with_reducible refine gLd ?_); refine eLd H rfl rfl ?_; first | ((repeat ((with_reducible refine gEx ?_); first | (refine kLd 0 rfl rfl (by exact TV _ rfl) rfl ?_) | (refine kLdA 0 rfl rfl (by exact TV _ rfl) (Nat.le_of_ble_eq_true rfl) (by simp only [Nd.cells, Nd.zero, LS2]; rfl) ?_) | (refine nxL ?_))); fail_if_success (with_reducible refine gEx ?_)))
        | ((with_reducible refine gSt ?_); (first | (refine eSt H rfl rfl ⟨.int _ _, rfl, ?_⟩) | (refine eSt H rfl rfl ⟨.bool _, rfl, ?_⟩) | (refine eSt H rfl rfl ⟨.slice _ _ _, rfl, ?_⟩) | (refine eSt H rfl rfl ⟨.pointer _, rfl, ?_⟩) | (refine eSt H rfl rfl ⟨.string _, rfl, ?_⟩) | (refine eSt H rfl rfl ⟨.agg (List.toArray _), rfl, ?_⟩)); (first | ((repeat ((with_reducible refine gES ?_); first | (refine kSt 0 rfl rfl (by exact TV _ rfl) rfl (Nat.le_of_ble_eq_true rfl) ?_) | (refine kStA 0 rfl rfl (by exact TV _ rfl) rfl rfl (Nat.le_of_ble_eq_true rfl) ?_) | (refine nxS ?_))); fail_if_success (with_reducible refine gES ?_))); clear H; intro w1 H; simp only [List.set_cons_zero, List.set_cons_succ] at H; (try simp only [lay, LS1, Nat.reduceAdd] at H)))
    refine rounds_k (fun Kr hKr => ?_)
    go_wp2_with (first
        | ((with_reducible refine gLd ?_); refine eLd H rfl rfl ?_; refine kLd (i12 + 5) g12 rfl T64 rfl ?_)
        | ((with_reducible refine gAl ?_); first | (have hq := br2; clear hq; refine wl_alloc rfl Z3 H ?_; clear H; intro bn2 w1 H; replace H : Hp _ _ (⟨some bn2, [.int .i64 0], 3, 1⟩ :: _) w1 := H) | (have hq := k1; clear hq; refine wl_alloc rfl Z3 H ?_; clear H; intro br2 w1 H; replace H : Hp _ _ (⟨some br2, [.int .i64 0], 3, 1⟩ :: _) w1 := H))
        | ((with_reducible refine gLd ?_); refine eLd H rfl rfl ?_; first | ((repeat ((with_reducible refine gEx ?_); first | (refine kLd 0 rfl rfl (by exact TV _ rfl) rfl ?_) | (refine kLdA 0 rfl rfl (by exact TV _ rfl) (Nat.le_of_ble_eq_true rfl) (by simp only [Nd.cells, Nd.zero, LS2]; rfl) ?_) | (refine nxL ?_))); fail_if_success (with_reducible refine gEx ?_)))
        | ((with_reducible refine gSt ?_); (first | (refine eSt H rfl rfl ⟨.int _ _, rfl, ?_⟩) | (refine eSt H rfl rfl ⟨.bool _, rfl, ?_⟩) | (refine eSt H rfl rfl ⟨.slice _ _ _, rfl, ?_⟩) | (refine eSt H rfl rfl ⟨.pointer _, rfl, ?_⟩) | (refine eSt H rfl rfl ⟨.string _, rfl, ?_⟩) | (refine eSt H rfl rfl ⟨.agg (List.toArray _), rfl, ?_⟩)); (first | ((repeat ((with_reducible refine gES ?_); first | (refine kSt 0 rfl rfl (by exact TV _ rfl) rfl (Nat.le_of_ble_eq_true rfl) ?_) | (refine kStA 0 rfl rfl (by exact TV _ rfl) rfl rfl (Nat.le_of_ble_eq_true rfl) ?_) | (refine nxS ?_))); fail_if_success (with_reducible refine gES ?_))); clear H; intro w1 H; simp only [List.set_cons_zero, List.set_cons_succ] at H; (try simp only [lay, LS1, Nat.reduceAdd] at H)))
    have HA := (H.swap (A := [_, _, _, _]) (B := [_])).swap (A := [_]) (B := [_, _])
    simp only [List.cons_append, List.nil_append] at HA
    clear H g12 g11 gw g3 i12 i11 iw i3 hit
    obtain ⟨Z2, H, LZ2⟩ : ∃ Z2, Hp w1a Da (⟨some bn2, [.int .i64 0], 3, 1⟩ :: ⟨some br2, [.int .i64 1], 3, 1⟩ :: ⟨some b4, [.bool false], 4, 1⟩ :: Z2) _ ∧ LwZ Z2 b3 b11 b12 c2 c3 p aw cw sp l2 tm full := ⟨_, HA, LZ.push [_, _]⟩
    clear HA
    refine (wpIn_wide (n := 0)).1 ?_
    apply wp_rfGE 2 (M := [_, _, _]) (Z := Z2) H rfl (enters_of Try.func63 (by kernel_rfl) rfl) (LZ2.seq HL2.out HWF2.out) (fun _ => rfl) (fun pre L => L = [⟨some bn2, [.int .i64 ((pre.length : Nat) : Int)], 3, 1⟩, ⟨some br2, [.int .i64 1], 3, 1⟩, ⟨some b4, [.bool false], 4, 1⟩]) (fun _ _ => False) rfl (fun a w h => by simpa [Exit.inBlock] using h)
    case hassign =>
      intro l x w1' K hK
      refine wpIn_reg (by decide) ?_
      go_wp2
      refine nq_intro ?_
      exact hK
    case hbody =>
      rintro l pre x post N9 L wv Dv hfu rfl X H1 hr hnd hle
      clear H
      obtain ⟨Z9, hZ9⟩ : ∃ Z9, N9 ++ Z2 = Z9 := ⟨_, rfl⟩
      have LZ9 := LZ2.push N9
      rw [hZ9] at H1 LZ9 ⊢
      have H := H1
      clear H1
      simp only [List.cons_append, List.nil_append] at H
      obtain ⟨hit9, -, ⟨i12, g12⟩, ⟨i11, g11⟩, ⟨iw, gw⟩, ⟨i3, g3⟩⟩ := id LZ9
      have hxk : full[pre.length]? = some x := by rw [hfu]; simp
      have hpl : pre.length < full.length := (List.getElem?_eq_some_iff.1 hxk).1
      have HE9 : Hid ((full.map (Value.int .i64))[pre.length]? = some (.int .i64 x)) := Lib.hid (by rw [List.getElem?_map, hxk]; rfl)
      have HE1 : Hid ((((pre ++ [x]).length : Nat) : Int) = (pre.length : Int) + 1) := Lib.hid (by simp)
      have hcap : full.length ≤ cw := by have h5 := H.le (i := iw + 3) gw; dsimp only at h5; rw [List.length_map] at h5; exact h5
      obtain ⟨ab, hab⟩ := H.some_of (i := iw + 3) gw (by dsimp only; rw [List.length_map]; omega)
      have hab : aw = some ab := hab
      subst hab
      clear hfu hxk hZ9
      refine wpIn_block ?_
      
      refine wpIn_seq (wpIn_seq (wpIn_reg (by decide) ?_))
      go_wp2_with (first
          | ((with_reducible refine gLd ?_); refine eLd H rfl rfl ?_; first | (refine kLd (i12 + 3) g12 rfl T64 rfl ?_) | (refine kLd (i11 + 3) g11 rfl T61 rfl ?_) | (refine kLd (i3 + 3) g3 rfl T3 rfl ?_) | (refine kLd (iw + 3) gw rfl T28 HE9.out ?_))
          | ((with_reducible refine gLd ?_); refine eLd H rfl rfl ?_; first | ((repeat ((with_reducible refine gEx ?_); first | (refine kLd 0 rfl rfl (by exact TV _ rfl) rfl ?_) | (refine kLdA 0 rfl rfl (by exact TV _ rfl) (Nat.le_of_ble_eq_true rfl) (by simp only [Nd.cells, Nd.zero, LS2]; rfl) ?_) | (refine nxL ?_))); fail_if_success (with_reducible refine gEx ?_)))
          | ((with_reducible refine gEq ?_); refine wl_cmp rfl rfl rfl rfl ?_; intro rb hrb; (first | (have hq9 : rb = false := by (rw [← hrb]; first | (simp; done) | (simp; omega))) | (have hq9 : rb = true := by (rw [← hrb]; first | (simp; done) | (simp; omega)))); subst hq9; clear hrb))
      refine nq_intro ?_
      
      refine wpIn_cond_false rfl (wpIn_skip ?_)
      refine wpIn_seq ?_
      by_cases hp3 : pre.length < 3
      · refine wpIn_seq (wpIn_reg (by decide) ?_)
        go_wp2_with (first
            | ((with_reducible refine gLd ?_); refine eLd H rfl rfl ?_; first | ((repeat ((with_reducible refine gEx ?_); first | (refine kLd 0 rfl rfl (by exact TV _ rfl) rfl ?_) | (refine kLdA 0 rfl rfl (by exact TV _ rfl) (Nat.le_of_ble_eq_true rfl) (by simp only [Nd.cells, Nd.zero, LS2]; rfl) ?_) | (refine nxL ?_))); fail_if_success (with_reducible refine gEx ?_)))
            | ((with_reducible refine gEq ?_); refine wl_cmp rfl rfl rfl rfl ?_; intro rb hrb; (first | (have hq9 : rb = false := by (rw [← hrb]; first | (simp; done) | (simp; omega))) | (have hq9 : rb = true := by (rw [← hrb]; first | (simp; done) | (simp; omega)))); subst hq9; clear hrb))
        refine nq_intro ?_
        refine wpIn_cond_true rfl ?_
        refine wpIn_seq (wpIn_reg (by decide) ?_)
        go_wp2_with (first
            | ((with_reducible refine gAl ?_); refine wl_alloc rfl Z3 H ?_; clear H; intro bk w1 H; replace H : Hp _ _ (⟨some bk, [.int .i64 0], 3, 1⟩ :: _) w1 := H)
            | ((with_reducible refine gSt ?_); (first | (refine eSt H rfl rfl ⟨.int _ _, rfl, ?_⟩) | (refine eSt H rfl rfl ⟨.bool _, rfl, ?_⟩) | (refine eSt H rfl rfl ⟨.slice _ _ _, rfl, ?_⟩) | (refine eSt H rfl rfl ⟨.pointer _, rfl, ?_⟩) | (refine eSt H rfl rfl ⟨.string _, rfl, ?_⟩) | (refine eSt H rfl rfl ⟨.agg (List.toArray _), rfl, ?_⟩)); (first | ((repeat ((with_reducible refine gES ?_); first | (refine kSt 0 rfl rfl (by exact TV _ rfl) rfl (Nat.le_of_ble_eq_true rfl) ?_) | (refine kStA 0 rfl rfl (by exact TV _ rfl) rfl rfl (Nat.le_of_ble_eq_true rfl) ?_) | (refine nxS ?_))); fail_if_success (with_reducible refine gES ?_))); clear H; intro w1 H; simp only [List.set_cons_zero, List.set_cons_succ] at H; (try simp only [lay, LS1, Nat.reduceAdd] at H)))
        refine nq_intro ?_
        refine wpIn_seq (wpIn_seq (wpIn_reg (by decide) ?_))
        go_wp2_with (first
            | ((with_reducible refine gLd ?_); refine eLd H rfl rfl ?_; first | (refine kLd (i12 + 4) g12 rfl T64 rfl ?_) | (refine kLd (i11 + 4) g11 rfl T61 rfl ?_) | (refine kLd (i3 + 4) g3 rfl T3 rfl ?_) | (refine kLd (iw + 4) gw rfl T28 HE9.out ?_)))
        refine nq_intro ?_
        refine wpIn_block ?_
        obtain ⟨r0, hr0⟩ := hr
        have hl9 := (H.frame l (Array.getElem?_eq_some_iff.1 hr0).1 hnd).trans hr0
        apply wp_rfGN1 (M := [_, _, _, _]) (Z := Z9) hl9 H rfl (enters_of Try.func63 (by kernel_rfl) rfl) (LZ9.seq HL2.out HWF2.out) (fun _ => rfl) (fun pre2 L => L = [⟨some bk, [.int .i64 ((pre2.length : Nat) : Int)], 3, 1⟩, ⟨some bn2, [.int .i64 ((pre.length : Nat) : Int)], 3, 1⟩, ⟨some br2, [.int .i64 1], 3, 1⟩, ⟨some b4, [.bool false], 4, 1⟩]) (fun c pre2 L => c = .exit 4 ∧ L = [⟨some bk, [.int .i64 ((pre2.length : Nat) : Int)], 3, 1⟩, ⟨some bn2, [.int .i64 ((pre.length : Nat) : Int)], 3, 1⟩, ⟨some br2, [.int .i64 1], 3, 1⟩, ⟨some b4, [.bool false], 4, 1⟩]) rfl
        case hassign =>
          intro l x w1' K hK
          refine wpIn_skip ?_
          go_simp
          exact hK
        case hbody =>
          rintro l2 pre2 x2 post2 N8 L2 w2 D2 hfull2 rfl X2 H1
          clear H
          obtain ⟨Z8, hZ8⟩ : ∃ Z8, N8 ++ Z9 = Z8 := ⟨_, rfl⟩
          have LZ8 := LZ9.push N8
          rw [hZ8] at H1 LZ8 ⊢
          have H := H1
          clear H1 g12 g11 gw g3 i12 i11 iw i3
          simp only [List.cons_append, List.nil_append] at H
          obtain ⟨hit8, -, ⟨i12, g12⟩, ⟨i11, g11⟩, ⟨iw, gw⟩, ⟨i3, g3⟩⟩ := LZ8
          have hp2 : pre2.length < full.length := by have := congrArg List.length hfull2; simp only [List.length_append, List.length_cons] at this; omega
          have HE2 : Hid ((((pre2 ++ [x2]).length : Nat) : Int) = (pre2.length : Int) + 1) := Lib.hid (by simp)
          clear hfull2 hZ8
          refine wpIn_block ?_
          refine wpIn_seq (wpIn_reg (by decide) ?_)
          go_wp2_with (first
              | ((with_reducible refine gLd ?_); refine eLd H rfl rfl ?_; first | ((repeat ((with_reducible refine gEx ?_); first | (refine kLd 0 rfl rfl (by exact TV _ rfl) rfl ?_) | (refine kLdA 0 rfl rfl (by exact TV _ rfl) (Nat.le_of_ble_eq_true rfl) (by simp only [Nd.cells, Nd.zero, LS2]; rfl) ?_) | (refine nxL ?_))); fail_if_success (with_reducible refine gEx ?_)))
              | ((with_reducible refine gSt ?_); (first | (refine eSt H rfl rfl ⟨.int _ _, rfl, ?_⟩) | (refine eSt H rfl rfl ⟨.bool _, rfl, ?_⟩) | (refine eSt H rfl rfl ⟨.slice _ _ _, rfl, ?_⟩) | (refine eSt H rfl rfl ⟨.pointer _, rfl, ?_⟩) | (refine eSt H rfl rfl ⟨.string _, rfl, ?_⟩) | (refine eSt H rfl rfl ⟨.agg (List.toArray _), rfl, ?_⟩)); (first | ((repeat ((with_reducible refine gES ?_); first | (refine kSt 0 rfl rfl (by exact TV _ rfl) rfl (Nat.le_of_ble_eq_true rfl) ?_) | (refine kStA 0 rfl rfl (by exact TV _ rfl) rfl rfl (Nat.le_of_ble_eq_true rfl) ?_) | (refine nxS ?_))); fail_if_success (with_reducible refine gES ?_))); clear H; intro w1 H; simp only [List.set_cons_zero, List.set_cons_succ] at H; (try simp only [lay, LS1, Nat.reduceAdd] at H)))
          refine nq_intro ?_
          rcases (show (pre2.length : Int) + 1 = sp ∨ ¬ (pre2.length : Int) + 1 = sp by omega) with hst | hst
          · have hs1 : sp ≤ (pre2.length : Int) + 1 := by omega
            have hs2 : (pre2.length : Int) + 1 ≤ sp := by omega
            clear hst
            refine wpIn_seq (wpIn_reg (by decide) ?_)
            go_wp2_with (first
                | ((with_reducible refine gLd ?_); refine eLd H rfl rfl ?_; first | (refine kLd (i12 + 4) g12 rfl T64 rfl ?_) | (refine kLd (i11 + 4) g11 rfl T61 rfl ?_) | (refine kLd (i3 + 4) g3 rfl T3 rfl ?_))
                | ((with_reducible refine gLd ?_); refine eLd H rfl rfl ?_; first | ((repeat ((with_reducible refine gEx ?_); first | (refine kLd 0 rfl rfl (by exact TV _ rfl) rfl ?_) | (refine kLdA 0 rfl rfl (by exact TV _ rfl) (Nat.le_of_ble_eq_true rfl) (by simp only [Nd.cells, Nd.zero, LS2]; rfl) ?_) | (refine nxL ?_))); fail_if_success (with_reducible refine gEx ?_)))
                | ((with_reducible refine gEq ?_); refine wl_cmp rfl rfl rfl rfl ?_; intro rb hrb; (first | (have hq9 : rb = false := by (rw [← hrb]; first | (simp; done) | (simp; omega))) | (have hq9 : rb = true := by (rw [← hrb]; first | (simp; done) | (simp; omega)))); subst hq9; clear hrb))
            refine nq_intro ?_
            refine wpIn_cond_true rfl ?_
            refine wpIn_exit ?_
            refine ⟨_, ⟨rfl, rfl⟩, ?_⟩
            rw [HE2.out]
            exact H
          · refine wpIn_seq (wpIn_reg (by decide) ?_)
            go_wp2_with (first
                | ((with_reducible refine gLd ?_); refine eLd H rfl rfl ?_; first | (refine kLd (i12 + 4) g12 rfl T64 rfl ?_) | (refine kLd (i11 + 4) g11 rfl T61 rfl ?_) | (refine kLd (i3 + 4) g3 rfl T3 rfl ?_))
                | ((with_reducible refine gLd ?_); refine eLd H rfl rfl ?_; first | ((repeat ((with_reducible refine gEx ?_); first | (refine kLd 0 rfl rfl (by exact TV _ rfl) rfl ?_) | (refine kLdA 0 rfl rfl (by exact TV _ rfl) (Nat.le_of_ble_eq_true rfl) (by simp only [Nd.cells, Nd.zero, LS2]; rfl) ?_) | (refine nxL ?_))); fail_if_success (with_reducible refine gEx ?_)))
                | ((with_reducible refine gEq ?_); refine wl_cmp rfl rfl rfl rfl ?_; intro rb hrb; (first | (have hq9 : rb = false := by (rw [← hrb]; first | (simp; done) | (simp; omega))) | (have hq9 : rb = true := by (rw [← hrb]; first | (simp; done) | (simp; omega)))); subst hq9; clear hrb))
            refine nq_intro ?_
            refine wpIn_cond_false rfl (wpIn_skip ?_)
            refine ⟨_, rfl, ?_⟩
            rw [HE2.out]
            exact H
        case hdone =>
          rintro L2 w2 D2 rfl X2 H1
          clear H
          have H := H1
          clear H1
          simp only [List.cons_append, List.nil_append] at H
          refine wpIn_seq (wpIn_reg (by decide) ?_)
          go_wp2_with (first
              | ((with_reducible refine gLd ?_); refine eLd H rfl rfl ?_; first | (refine kLd (i12 + 4) g12 rfl T64 rfl ?_) | (refine kLd (i11 + 4) g11 rfl T61 rfl ?_) | (refine kLd (i3 + 4) g3 rfl T3 rfl ?_) | (refine kLd (iw + 4) gw rfl T28 HE9.out ?_))
              | ((with_reducible refine gLd ?_); refine eLd H rfl rfl ?_; first | ((repeat ((with_reducible refine gEx ?_); first | (refine kLd 0 rfl rfl (by exact TV _ rfl) rfl ?_) | (refine kLdA 0 rfl rfl (by exact TV _ rfl) (Nat.le_of_ble_eq_true rfl) (by simp only [Nd.cells, Nd.zero, LS2]; rfl) ?_) | (refine nxL ?_))); fail_if_success (with_reducible refine gEx ?_)))
              | ((with_reducible refine gEq ?_); refine wl_cmp rfl rfl rfl rfl ?_; intro rb hrb; (first | (have hq9 : rb = false := by (rw [← hrb]; first | (simp; done) | (simp; omega))) | (have hq9 : rb = true := by (rw [← hrb]; first | (simp; done) | (simp; omega)))); subst hq9; clear hrb))
          refine nq_intro ?_
          refine wpIn_cond_false rfl (wpIn_skip ?_)
          refine wpIn_seq (wpIn_reg (by decide) ?_)
          go_wp2_with (first
              | ((with_reducible refine gLd ?_); refine eLd H rfl rfl ?_; first | ((repeat ((with_reducible refine gEx ?_); first | (refine kLd 0 rfl rfl (by exact TV _ rfl) rfl ?_) | (refine kLdA 0 rfl rfl (by exact TV _ rfl) (Nat.le_of_ble_eq_true rfl) (by simp only [Nd.cells, Nd.zero, LS2]; rfl) ?_) | (refine nxL ?_))); fail_if_success (with_reducible refine gEx ?_)))
              | ((with_reducible refine gSt ?_); (first | (refine eSt H rfl rfl ⟨.int _ _, rfl, ?_⟩) | (refine eSt H rfl rfl ⟨.bool _, rfl, ?_⟩) | (refine eSt H rfl rfl ⟨.slice _ _ _, rfl, ?_⟩) | (refine eSt H rfl rfl ⟨.pointer _, rfl, ?_⟩) | (refine eSt H rfl rfl ⟨.string _, rfl, ?_⟩) | (refine eSt H rfl rfl ⟨.agg (List.toArray _), rfl, ?_⟩)); (first | ((repeat ((with_reducible refine gES ?_); first | (refine kSt 0 rfl rfl (by exact TV _ rfl) rfl (Nat.le_of_ble_eq_true rfl) ?_) | (refine kStA 0 rfl rfl (by exact TV _ rfl) rfl rfl (Nat.le_of_ble_eq_true rfl) ?_) | (refine nxS ?_))); fail_if_success (with_reducible refine gES ?_))); clear H; intro w1 H; simp only [List.set_cons_zero, List.set_cons_succ] at H; (try simp only [lay, LS1, Nat.reduceAdd] at H)))
          refine nq_intro ?_
          refine wpIn_seq (wpIn_reg (by decide) ?_)
          go_wp2_with (first
              | ((with_reducible refine gLd ?_); refine eLd H rfl rfl ?_; first | ((repeat ((with_reducible refine gEx ?_); first | (refine kLd 0 rfl rfl (by exact TV _ rfl) rfl ?_) | (refine kLdA 0 rfl rfl (by exact TV _ rfl) (Nat.le_of_ble_eq_true rfl) (by simp only [Nd.cells, Nd.zero, LS2]; rfl) ?_) | (refine nxL ?_))); fail_if_success (with_reducible refine gEx ?_)))
              | ((with_reducible refine gEq ?_); refine wl_cmp rfl rfl rfl rfl ?_; intro rb hrb; (first | (have hq9 : rb = false := by (rw [← hrb]; first | (simp; done) | (simp; omega))) | (have hq9 : rb = true := by (rw [← hrb]; first | (simp; done) | (simp; omega)))); subst hq9; clear hrb))
          refine nq_intro ?_
          refine wpIn_cond_false rfl (wpIn_skip ?_)
          refine ⟨_, rfl, ?_⟩
          rw [HE1.out]
          exact X2.hp H.drop
        case hstop =>
          rintro c9 pre2 post2 L2 w2 D2 hf2 ⟨rfl, rfl⟩ X2 H1
          have hp2 : pre2.length ≤ full.length := by have := congrArg List.length hf2; simp only [List.length_append] at this; omega
          clear H hf2
          have H := H1
          clear H1
          simp only [List.cons_append, List.nil_append] at H
          refine wpIn_exit ?_
          refine wpIn_seq (wpIn_reg (by decide) ?_)
          go_wp2_with (first
              | ((with_reducible refine gLd ?_); refine eLd H rfl rfl ?_; first | (refine kLd (i12 + 4) g12 rfl T64 rfl ?_) | (refine kLd (i11 + 4) g11 rfl T61 rfl ?_) | (refine kLd (i3 + 4) g3 rfl T3 rfl ?_) | (refine kLd (iw + 4) gw rfl T28 HE9.out ?_))
              | ((with_reducible refine gLd ?_); refine eLd H rfl rfl ?_; first | ((repeat ((with_reducible refine gEx ?_); first | (refine kLd 0 rfl rfl (by exact TV _ rfl) rfl ?_) | (refine kLdA 0 rfl rfl (by exact TV _ rfl) (Nat.le_of_ble_eq_true rfl) (by simp only [Nd.cells, Nd.zero, LS2]; rfl) ?_) | (refine nxL ?_))); fail_if_success (with_reducible refine gEx ?_)))
              | ((with_reducible refine gEq ?_); refine wl_cmp rfl rfl rfl rfl ?_; intro rb hrb; (first | (have hq9 : rb = false := by (rw [← hrb]; first | (simp; done) | (simp; omega))) | (have hq9 : rb = true := by (rw [← hrb]; first | (simp; done) | (simp; omega)))); subst hq9; clear hrb))
          refine nq_intro ?_
          refine wpIn_cond_false rfl (wpIn_skip ?_)
          refine wpIn_seq (wpIn_reg (by decide) ?_)
          go_wp2_with (first
              | ((with_reducible refine gLd ?_); refine eLd H rfl rfl ?_; first | ((repeat ((with_reducible refine gEx ?_); first | (refine kLd 0 rfl rfl (by exact TV _ rfl) rfl ?_) | (refine kLdA 0 rfl rfl (by exact TV _ rfl) (Nat.le_of_ble_eq_true rfl) (by simp only [Nd.cells, Nd.zero, LS2]; rfl) ?_) | (refine nxL ?_))); fail_if_success (with_reducible refine gEx ?_)))
              | ((with_reducible refine gSt ?_); (first | (refine eSt H rfl rfl ⟨.int _ _, rfl, ?_⟩) | (refine eSt H rfl rfl ⟨.bool _, rfl, ?_⟩) | (refine eSt H rfl rfl ⟨.slice _ _ _, rfl, ?_⟩) | (refine eSt H rfl rfl ⟨.pointer _, rfl, ?_⟩) | (refine eSt H rfl rfl ⟨.string _, rfl, ?_⟩) | (refine eSt H rfl rfl ⟨.agg (List.toArray _), rfl, ?_⟩)); (first | ((repeat ((with_reducible refine gES ?_); first | (refine kSt 0 rfl rfl (by exact TV _ rfl) rfl (Nat.le_of_ble_eq_true rfl) ?_) | (refine kStA 0 rfl rfl (by exact TV _ rfl) rfl rfl (Nat.le_of_ble_eq_true rfl) ?_) | (refine nxS ?_))); fail_if_success (with_reducible refine gES ?_))); clear H; intro w1 H; simp only [List.set_cons_zero, List.set_cons_succ] at H; (try simp only [lay, LS1, Nat.reduceAdd] at H)))
          refine nq_intro ?_
          refine wpIn_seq (wpIn_reg (by decide) ?_)
          go_wp2_with (first
              | ((with_reducible refine gLd ?_); refine eLd H rfl rfl ?_; first | ((repeat ((with_reducible refine gEx ?_); first | (refine kLd 0 rfl rfl (by exact TV _ rfl) rfl ?_) | (refine kLdA 0 rfl rfl (by exact TV _ rfl) (Nat.le_of_ble_eq_true rfl) (by simp only [Nd.cells, Nd.zero, LS2]; rfl) ?_) | (refine nxL ?_))); fail_if_success (with_reducible refine gEx ?_)))
              | ((with_reducible refine gEq ?_); refine wl_cmp rfl rfl rfl rfl ?_; intro rb hrb; (first | (have hq9 : rb = false := by (rw [← hrb]; first | (simp; done) | (simp; omega))) | (have hq9 : rb = true := by (rw [← hrb]; first | (simp; done) | (simp; omega)))); subst hq9; clear hrb))
          refine nq_intro ?_
          refine wpIn_cond_false rfl (wpIn_skip ?_)
          refine ⟨_, rfl, ?_⟩
          rw [HE1.out]
          exact X2.hp H.drop
      · refine wpIn_seq (wpIn_reg (by decide) ?_)
        go_wp2_with (first
            | ((with_reducible refine gLd ?_); refine eLd H rfl rfl ?_; first | ((repeat ((with_reducible refine gEx ?_); first | (refine kLd 0 rfl rfl (by exact TV _ rfl) rfl ?_) | (refine kLdA 0 rfl rfl (by exact TV _ rfl) (Nat.le_of_ble_eq_true rfl) (by simp only [Nd.cells, Nd.zero, LS2]; rfl) ?_) | (refine nxL ?_))); fail_if_success (with_reducible refine gEx ?_)))
            | ((with_reducible refine gEq ?_); refine wl_cmp rfl rfl rfl rfl ?_; intro rb hrb; (first | (have hq9 : rb = false := by (rw [← hrb]; first | (simp; done) | (simp; omega))) | (have hq9 : rb = true := by (rw [← hrb]; first | (simp; done) | (simp; omega)))); subst hq9; clear hrb))
        refine nq_intro ?_
        refine wpIn_cond_false rfl (wpIn_skip ?_)
        refine wpIn_seq (wpIn_reg (by decide) ?_)
        go_wp2_with (first
            | ((with_reducible refine gLd ?_); refine eLd H rfl rfl ?_; first | ((repeat ((with_reducible refine gEx ?_); first | (refine kLd 0 rfl rfl (by exact TV _ rfl) rfl ?_) | (refine kLdA 0 rfl rfl (by exact TV _ rfl) (Nat.le_of_ble_eq_true rfl) (by simp only [Nd.cells, Nd.zero, LS2]; rfl) ?_) | (refine nxL ?_))); fail_if_success (with_reducible refine gEx ?_)))
            | ((with_reducible refine gSt ?_); (first | (refine eSt H rfl rfl ⟨.int _ _, rfl, ?_⟩) | (refine eSt H rfl rfl ⟨.bool _, rfl, ?_⟩) | (refine eSt H rfl rfl ⟨.slice _ _ _, rfl, ?_⟩) | (refine eSt H rfl rfl ⟨.pointer _, rfl, ?_⟩) | (refine eSt H rfl rfl ⟨.string _, rfl, ?_⟩) | (refine eSt H rfl rfl ⟨.agg (List.toArray _), rfl, ?_⟩)); (first | ((repeat ((with_reducible refine gES ?_); first | (refine kSt 0 rfl rfl (by exact TV _ rfl) rfl (Nat.le_of_ble_eq_true rfl) ?_) | (refine kStA 0 rfl rfl (by exact TV _ rfl) rfl rfl (Nat.le_of_ble_eq_true rfl) ?_) | (refine nxS ?_))); fail_if_success (with_reducible refine gES ?_))); clear H; intro w1 H; simp only [List.set_cons_zero, List.set_cons_succ] at H; (try simp only [lay, LS1, Nat.reduceAdd] at H)))
        refine nq_intro ?_
        refine wpIn_seq (wpIn_reg (by decide) ?_)
        go_wp2_with (first
            | ((with_reducible refine gLd ?_); refine eLd H rfl rfl ?_; first | ((repeat ((with_reducible refine gEx ?_); first | (refine kLd 0 rfl rfl (by exact TV _ rfl) rfl ?_) | (refine kLdA 0 rfl rfl (by exact TV _ rfl) (Nat.le_of_ble_eq_true rfl) (by simp only [Nd.cells, Nd.zero, LS2]; rfl) ?_) | (refine nxL ?_))); fail_if_success (with_reducible refine gEx ?_)))
            | ((with_reducible refine gEq ?_); refine wl_cmp rfl rfl rfl rfl ?_; intro rb hrb; (first | (have hq9 : rb = false := by (rw [← hrb]; first | (simp; done) | (simp; omega))) | (have hq9 : rb = true := by (rw [← hrb]; first | (simp; done) | (simp; omega)))); subst hq9; clear hrb))
        refine nq_intro ?_
        refine wpIn_cond_false rfl (wpIn_skip ?_)
        refine ⟨_, rfl, ?_⟩
        rw [HE1.out]
        exact H
    case hend =>
      rintro k2 pre L w1b Db hpl X2 H1 hm2
      rcases hpl with ⟨rfl, rfl⟩ | hpl
      case inr => exact hpl.elim
      clear H
      have H := H1
      clear H1
      simp only [List.cons_append, List.nil_append] at H
      obtain ⟨hit2, -, ⟨i12, g12⟩, ⟨i11, g11⟩, ⟨iw, gw⟩, ⟨i3, g3⟩⟩ := LZ2
      go_wp2_with (first
          | ((with_reducible refine gLd ?_); refine eLd H rfl rfl ?_; first | (refine kLd (i12 + 3) g12 rfl T64 rfl ?_) | (refine kLd (i11 + 3) g11 rfl T61 rfl ?_) | (refine kLd (i3 + 3) g3 rfl T3 rfl ?_))
          | ((with_reducible refine gAl ?_); first | (have hq := br3; clear hq; refine wl_alloc rfl Z3 H ?_; clear H; intro bn3 w1 H; replace H : Hp _ _ (⟨some bn3, [.int .i64 0], 3, 1⟩ :: _) w1 := H) | (have hq := k2; clear hq; refine wl_alloc rfl Z3 H ?_; clear H; intro br3 w1 H; replace H : Hp _ _ (⟨some br3, [.int .i64 0], 3, 1⟩ :: _) w1 := H))
          | ((with_reducible refine gLd ?_); refine eLd H rfl rfl ?_; first | ((repeat ((with_reducible refine gEx ?_); first | (refine kLd 0 rfl rfl (by exact TV _ rfl) rfl ?_) | (refine kLdA 0 rfl rfl (by exact TV _ rfl) (Nat.le_of_ble_eq_true rfl) (by simp only [Nd.cells, Nd.zero, LS2]; rfl) ?_) | (refine nxL ?_))); fail_if_success (with_reducible refine gEx ?_)))
          | ((with_reducible refine gSt ?_); (first | (refine eSt H rfl rfl ⟨.int _ _, rfl, ?_⟩) | (refine eSt H rfl rfl ⟨.bool _, rfl, ?_⟩) | (refine eSt H rfl rfl ⟨.slice _ _ _, rfl, ?_⟩) | (refine eSt H rfl rfl ⟨.pointer _, rfl, ?_⟩) | (refine eSt H rfl rfl ⟨.string _, rfl, ?_⟩) | (refine eSt H rfl rfl ⟨.agg (List.toArray _), rfl, ?_⟩)); (first | ((repeat ((with_reducible refine gES ?_); first | (refine kSt 0 rfl rfl (by exact TV _ rfl) rfl (Nat.le_of_ble_eq_true rfl) ?_) | (refine kStA 0 rfl rfl (by exact TV _ rfl) rfl rfl (Nat.le_of_ble_eq_true rfl) ?_) | (refine nxS ?_))); fail_if_success (with_reducible refine gES ?_))); clear H; intro w1 H; simp only [List.set_cons_zero, List.set_cons_succ] at H; (try simp only [lay, LS1, Nat.reduceAdd] at H)))
      refine rounds_k (fun Kr hKr => ?_)
      go_wp2_with (first
          | (go_at_call 11; ((refine (live_hp H).mono ?_); rintro e w1 ⟨rfl, H1⟩; clear H; have H := H1; clear H1))
          | ((with_reducible refine gLd ?_); refine eLd H rfl rfl ?_; first | ((repeat ((with_reducible refine gEx ?_); first | (refine kLd 0 rfl rfl (by exact TV _ rfl) rfl ?_) | (refine kLdA 0 rfl rfl (by exact TV _ rfl) (Nat.le_of_ble_eq_true rfl) (by simp only [Nd.cells, Nd.zero, LS2]; rfl) ?_) | (refine nxL ?_))); fail_if_success (with_reducible refine gEx ?_)))
          | ((with_reducible refine gSt ?_); (first | (refine eSt H rfl rfl ⟨.int _ _, rfl, ?_⟩) | (refine eSt H rfl rfl ⟨.bool _, rfl, ?_⟩) | (refine eSt H rfl rfl ⟨.slice _ _ _, rfl, ?_⟩) | (refine eSt H rfl rfl ⟨.pointer _, rfl, ?_⟩) | (refine eSt H rfl rfl ⟨.string _, rfl, ?_⟩) | (refine eSt H rfl rfl ⟨.agg (List.toArray _), rfl, ?_⟩)); (first | ((repeat ((with_reducible refine gES ?_); first | (refine kSt 0 rfl rfl (by exact TV _ rfl) rfl (Nat.le_of_ble_eq_true rfl) ?_) | (refine kStA 0 rfl rfl (by exact TV _ rfl) rfl rfl (Nat.le_of_ble_eq_true rfl) ?_) | (refine nxS ?_))); fail_if_success (with_reducible refine gES ?_))); clear H; intro w1 H; simp only [List.set_cons_zero, List.set_cons_succ] at H; (try simp only [lay, LS1, Nat.reduceAdd] at H)))
      refine leave2c hm1 X1 hm2 X2 H rfl rfl rfl (i := 3) rfl rfl T4 rfl fun u hu => ?_
      exact ⟨rfl, _, bk2 _ _ hu⟩
end Go.Proofs.Ytebecelhcpljaaa
