/- Trees: lent. -/
import Derived.Test.YtebecelhcpljaaaW22
import Derived.Test.YtebecelhcpljaaaGxXt
import Derived.Deep.Cut
import Derived.WalkKit
import Derived.Lib.Hide
import Derived.Deep.LoopGhost
import Derived.WalkSpells
set_option linter.unusedVariables false
set_option linter.unusedSimpArgs false
namespace Go.Proofs.Ytebecelhcpljaaa
open Go.RowKit Go.Gx Go.Gx.Trm
set_option maxRecDepth 100000
section
variable {P : Program} {w0 w : World} {D : Nat → Prop} {L : List Ent} {Q : Exit → Act → World → Prop} {K : Act → World → Prop} {a : Act}
theorem oAppC (i : Nat) {x : Ent} {src : Option Addr} {news : List Value} {e : TypeId} {z : Value} {sz bytes n cap m c : Nat} {dst : Option Tmp} {s v : Operand} {t ty : TypeId} {pos : String} {af : Array Edge} {g : Option (Nat × Bool)}
    (H : Hp w0 D L w) (hi : L[i]? = some x) (hs : a.eval s = .slice (adr x.a 0) n cap) (hv : a.eval v = .slice (src) m c) (ht : sI P t = some (e, z, sz, bytes)) (hsz : 0 < sz)
    (hxe : x.e = e ∨ x.a = none) (hxl : x.xs.length = n * sz) (hxN : x.N = cap * sz) (hy0 : src = none → m = 0) (hnl : news.length = m * sz) (h1 : news.all (·.oneCell') = true) (hnews : ∀ a, src = some a → ∀ (j : Nat) (u : Value), news[j]? = some u → w.cell? (a.add j) = some u)
    (b1 : n + m ≤ maxLen) (b2 : (n + m) * bytes ≤ 140737488355328) (hp : 0 < n + m)
    (kk : ∀ a' cap' w', Hp w0 D (L.set i ⟨some a', x.xs ++ news, e, cap' * sz⟩) w' → K (a.put dst (.slice (some ⟨a', 0, none⟩) (n + m) cap')) w') :
    Oper.wp P ⟨dst, .call { callee := .builtin .append, args := #[s, v], argTypes := #[t, t] }, ty, pos, af, g⟩ a w K Q := by
  obtain ⟨a', cap', w', hr, H', h0⟩ := H.appendC (ty := ty) (c := c) ht hsz hi hxe hxl hxN hy0 hnl h1 hnews b1 b2
  cases a' with
  | none => have := h0 rfl; omega
  | some a' =>
    refine wp_run ?_ (kk a' cap' w' H')
    simp only [execOp, resolve, invoke, builtin, Sem.run_bind, Sem.run_pure, Result.andThen_ok, List.map_toArray, List.map_cons, List.map_nil, hs, hv, hr]
    rfl
end
/-- readable whatever the first world -/
def TrW (R : List Ent) (t : Tr) : Prop := ∀ (w0 : World) (D : Nat → Prop), TrR w0 D R t
theorem TrW.push {R : List Ent} {t : Tr} (h : TrW R t) (A : List Ent) : TrW (A ++ R) t := fun w0 D => (h w0 D).push A
theorem TrW.ext {R R' : List Ent} {t : Tr} (h : TrW R t) (e : Xt R R') : TrW R' t := by obtain ⟨N, rfl⟩ := e; exact h.push N
end Go.Proofs.Ytebecelhcpljaaa
section
open Go.Proofs.Ytebecelhcpljaaa
open Go.RowKit Go.Gx Go.Gx.Trm
set_option maxRecDepth 100000
theorem Go.Gx.Trm.TrR.ext {w0 : World} {D : Nat → Prop} {R R' : List Ent} {t : Tr} (h : TrR w0 D R t) (e : Xt R R') : TrR w0 D R' t := by obtain ⟨N, rfl⟩ := e; exact h.push N
end
namespace Go.Proofs.Ytebecelhcpljaaa
open Go.RowKit Go.Gx Go.Gx.Trm
set_option maxRecDepth 100000
end Go.Proofs.Ytebecelhcpljaaa
section
open Go.Proofs.Ytebecelhcpljaaa
open Go.RowKit Go.Gx Go.Gx.Trm
set_option maxRecDepth 100000
theorem Go.Gx.Trm.TrR.down {W w0 : World} {E D : Nat → Prop} {R : List Ent} (k : ∀ L' u, Hp w0 D L' u → Hp W E L' u) : ∀ {t : Tr}, TrR W E R t → TrR w0 D R t := fun h => by
  induction h with
  | mk h hc hm hs ih => exact .mk (h.down k) hc hm ih
end
namespace Go.Proofs.Ytebecelhcpljaaa
open Go.RowKit Go.Gx Go.Gx.Trm
set_option maxRecDepth 100000
end Go.Proofs.Ytebecelhcpljaaa
section
open Go.Proofs.Ytebecelhcpljaaa
open Go.RowKit Go.Gx Go.Gx.Trm
set_option maxRecDepth 100000
theorem Go.Gx.Hp.preL {w0 w : World} {D : Nat → Prop} {A B : List Ent} (H : Hp w0 D (A ++ B) w) : Hp w0 D A w := H.sub id (fun i j h => h) (fun i x h => by
  show (A ++ B)[i]? = some x
  rw [List.getElem?_append_left (List.getElem?_eq_some_iff.1 h).1]; exact h)
end
namespace Go.Proofs.Ytebecelhcpljaaa
open Go.RowKit Go.Gx Go.Gx.Trm
set_option maxRecDepth 100000
end Go.Proofs.Ytebecelhcpljaaa
section
open Go.Proofs.Ytebecelhcpljaaa
open Go.RowKit Go.Gx Go.Gx.Trm
set_option maxRecDepth 100000
theorem Go.Gx.Rd.right {w0 : World} {D : Nat → Prop} {R : List Ent} {x : Option Addr} {xs : List Value} (h : Rd w0 D R x xs) (B : List Ent) : Rd w0 D (R ++ B) x xs := by
  rcases h with h | ⟨b, o, hx, h⟩
  · exact .inl h
  · exact .inr ⟨b, o, hx, fun L' w' H => h L' w' (Hp.preL (B := B) (by rw [List.append_assoc]; exact H))⟩
end
namespace Go.Proofs.Ytebecelhcpljaaa
open Go.RowKit Go.Gx Go.Gx.Trm
set_option maxRecDepth 100000
end Go.Proofs.Ytebecelhcpljaaa
section
open Go.Proofs.Ytebecelhcpljaaa
open Go.RowKit Go.Gx Go.Gx.Trm
set_option maxRecDepth 100000
theorem Go.Gx.Trm.TrR.right {w0 : World} {D : Nat → Prop} {R : List Ent} (B : List Ent) : ∀ {t : Tr}, TrR w0 D R t → TrR w0 D (R ++ B) t := fun h => by
  induction h with
  | mk h hc hm hs ih => exact .mk (h.right B) hc hm ih
end
namespace Go.Proofs.Ytebecelhcpljaaa
open Go.RowKit Go.Gx Go.Gx.Trm
set_option maxRecDepth 100000
theorem TrW.right {R : List Ent} {t : Tr} (h : TrW R t) (B : List Ent) : TrW (R ++ B) t := fun w0 D => (h w0 D).right B
theorem Tr.cells_one (t : Tr) : t.cells.all (·.oneCell') = true := by cases t; rfl
theorem rowsT_snoc (l : List Tr) (t : Tr) : rowsT l ++ t.cells = rowsT (l ++ [t]) := by simp [rowsT]
theorem ptL_snoc (l : List Tr) (t : Tr) : ptL (l ++ [t]) = ptL l ++ [t.pt] := by rw [ptL_map, ptL_map]; simp
theorem run_slx {P : Program} {w : World} {a : Act} {t ty : TypeId} {v : Value} {dst : Option Tmp} {x : Operand} {lo hi mx : Option Operand} {pos : String} {af : Array Edge} {g : Option (Nat × Bool)}
    (hr : ∀ w, (Instr.sliceAt t (a.eval x) (lo.map a.eval) (hi.map a.eval) (mx.map a.eval)).run P w = .ok v w) : (execOp a.eval ⟨dst, .slice t x lo hi mx, ty, pos, af, g⟩).run P w = .ok (.value v) w := by
  simp only [execOp, Sem.run_bind, hr, Sem.run_pure, Result.andThen_ok]
def LentP (w0 : World) (D : Nat → Prop) (R : List Ent) (q : Pt) (e : Ending) (w' : World) : Prop :=
  ∃ t' N, e = .returned (.agg t'.cells.toArray) ∧ t'.pt = q ∧ TrW N t' ∧ Hp w0 D (N ++ R) w'
end Go.Proofs.Ytebecelhcpljaaa
section
open Go.Proofs.Ytebecelhcpljaaa
open Go.RowKit Go.Gx Go.Gx.Trm
set_option maxRecDepth 100000
theorem Go.Gx.Hp.keptN {w0 w : World} {D : Nat → Prop} {M N R : List Ent} (H : Hp w0 D (M ++ (N ++ R)) w) : Hp w0 D (M ++ R) w := (Hp.swap (A := M) (B := N) H).dropL
end
namespace Go.Proofs.Ytebecelhcpljaaa
open Go.RowKit Go.Gx Go.Gx.Trm
set_option maxRecDepth 100000
theorem Pt.size_mem : ∀ {ks : List Pt} {k : Pt}, k ∈ ks → k.size ≤ sizeL ks
  | x :: xs, k, h => by
    simp only [sizeL]
    rcases List.mem_cons.1 h with rfl | h
    · omega
    · have := Pt.size_mem h; omega
theorem Pt.size_pos (t : Pt) : 1 ≤ t.size := by cases t; simp [Pt.size]
theorem sizeL_len : ∀ ks : List Pt, ks.length ≤ sizeL ks
  | [] => by simp [sizeL]
  | x :: xs => by have := sizeL_len xs; have := Pt.size_pos x; simp only [sizeL, List.length_cons]; omega
theorem wp_postT {P : Program} {Q : Exit → Act → World → Prop} {F : Tr → Nat → Nat → Nat → Act} (Post : Tr → Nat → Nat → Nat → World → Prop) {c : Code} {a : Act} {w : World} (h : c.wp P (fun e a' w' => e = .normal ∧ ∃ t b k n, a' = F t b k n ∧ Post t b k n w') a w) (k : ∀ t b k n w', Post t b k n w' → Q .normal (F t b k n) w') : c.wp P Q a w :=
  Code.wp_mono (fun e a w hq => by obtain ⟨rfl, t, b, k1, n, rfl, hp⟩ := hq; exact k t b k1 n w hp) h
theorem mk_tr {k f d n : Int} {t : ByteArray} {b c N : Nat} {acc : List Tr} {E : Ent} {Z : List Ent} {more : List Value} (hb : E.a = some b) (hx : E.xs = rowsT acc ++ more) (hN : acc.length = N) (hc : N ≤ c) (hm : N ≤ 9223372036854775807) (hs : ∀ x ∈ acc, TrW Z x) : TrW (E :: Z) (.mk k f d n t (some ⟨b, 0, none⟩) c acc) := fun w0 D =>
  .mk (((RdW.ofEnt (R := E :: Z) (i := 0) rfl hb) w0 D).pre hx) (by omega) (by omega) (fun x hx => ((hs x hx).push [E]) w0 D)
set_option maxHeartbeats 16000000 in
theorem Lent_spec {w0 : World} {D : Nat → Prop} : ∀ (t : Tr), ∀ {R : List Ent} (w : World), Hp w0 D R w → TrR w0 D R t → t.pt.size ≤ 6000 → Calls Try.prog 24 #[.agg t.cells.toArray] w fun e w' => LentP w0 D R t.pt e w' := by
  intro t
  induction t using Tr.ind with
  | h t ih =>
  obtain ⟨xk, xf, xd, xn, xt, xa, xc, ks⟩ := t
  intro R w H ht hsz
  cases ht with
  | mk hrd hc hle hks =>
  simp only [Tr.pt, Pt.size] at hsz
  have hszs : ∀ x ∈ ks, x.pt.size ≤ 6000 := fun x hx => by
    have h1 := Pt.size_mem (ks := ptL ks) (k := x.pt) (by rw [ptL_map]; exact List.mem_map_of_mem hx)
    omega
  obtain ⟨N, hN⟩ : ∃ N, ks.length = N := ⟨_, rfl⟩
  have hN6 : N ≤ 6000 := by have h1 := sizeL_len (ptL ks); rw [ptL_len] at h1; omega
  have HN := Lib.hid hN
  have HRD := Lib.hid hrd
  have HS := Lib.hid hks
  have HSZS := Lib.hid hszs
  simp only [Tr.cells, Tr.pt]
  rw [hN] at hc hle ⊢
  clear hN hrd hks hszs hsz
  go_enter Try.func24, Try.ntmps24
  go_wp2_with (first
    | ((with_reducible refine gBx ?_); first | (refine bxA H rfl rfl rfl ?_; clear H; intro bx w1 H))
    | ((with_reducible refine gAl ?_); first | (have hq := b2; clear hq; refine al H Z50 rfl rfl ?_; clear H; intro by_ w1 H) | (refine al H Z50 rfl rfl ?_; clear H; intro b2 w1 H))
    | ((with_reducible refine gLd ?_); refine eLd H rfl rfl ?_; first | ((repeat ((with_reducible refine gEx ?_); first | (refine kLd 0 rfl rfl (by exact TT _ rfl) rfl ?_) | (refine kLdA 0 rfl rfl (by exact TT _ rfl) (Nat.le_of_ble_eq_true rfl) (by simp only [Nd.cells, Nd.zero, LS2]; rfl) ?_) | (refine nxL ?_))); fail_if_success (with_reducible refine gEx ?_)))
    | ((with_reducible refine gSt ?_); (first | (refine eSt H rfl rfl ⟨.int _ _, rfl, ?_⟩) | (refine eSt H rfl rfl ⟨.bool _, rfl, ?_⟩) | (refine eSt H rfl rfl ⟨.slice _ _ _, rfl, ?_⟩) | (refine eSt H rfl rfl ⟨.pointer _, rfl, ?_⟩) | (refine eSt H rfl rfl ⟨.string _, rfl, ?_⟩) | (refine eSt H rfl rfl ⟨.agg (List.toArray _), rfl, ?_⟩)); (first | ((repeat ((with_reducible refine gES ?_); first | (refine kSt 0 rfl rfl (by exact TT _ rfl) rfl (Nat.le_of_ble_eq_true rfl) ?_) | (refine kStA 0 rfl rfl (by exact TT _ rfl) rfl rfl (Nat.le_of_ble_eq_true rfl) ?_) | (refine nxS ?_))); fail_if_success (with_reducible refine gES ?_))); clear H; intro w1 H; simp only [List.set_cons_zero, List.set_cons_succ] at H; (try simp only [lay, LS1, Nat.reduceAdd] at H)))
  have H0 : Hp w0 D (⟨none, rowsT [], 50, 0 * 6⟩ :: ⟨some by_, [.int .i64 xk, .int .i64 xf, .int .i64 xd, .int .u64 xn, .string xt, .slice (adr none 0) 0 0], 50, 6⟩ :: ⟨some b2, [.int .i64 0, .int .i64 0, .int .i64 0, .int .u64 0, .string ⟨#[]⟩, .slice none 0 0], 50, 6⟩ :: ⟨some bx, [.int .i64 xk, .int .i64 xf, .int .i64 xd, .int .u64 xn, .string xt, .slice xa N xc], 50, 6⟩ :: R) _ := H.consNone 50
  clear H
  go_loopg [4] N (fun g v4 wr => ∃ (k : Nat) (acc : List Tr) (ar : Option Nat) (cr : Nat) (NA : List Ent), v4 = .int .i64 (k : Int) ∧ k + g = N ∧ Hid (acc.length = k ∧ ptL acc = (ptL ks).take k ∧ ∀ x ∈ acc, TrW NA x) ∧ Hp w0 D (⟨ar, rowsT acc, 50, cr * 6⟩ :: ⟨some by_, [.int .i64 xk, .int .i64 xf, .int .i64 xd, .int .u64 xn, .string xt, .slice (adr ar 0) k cr], 50, 6⟩ :: ⟨some b2, [.int .i64 0, .int .i64 0, .int .i64 0, .int .u64 0, .string ⟨#[]⟩, .slice none 0 0], 50, 6⟩ :: ⟨some bx, [.int .i64 xk, .int .i64 xf, .int .i64 xd, .int .u64 xn, .string xt, .slice xa N xc], 50, 6⟩ :: (NA ++ R)) wr)
  case atStart => exact ⟨0, [], none, 0, [], rfl, by omega, Lib.hid ⟨rfl, rfl, by simp⟩, H0⟩
  case round =>
    clear H0
    obtain ⟨k, acc, ar, cr, NA, rfl, hkg, HAC, H⟩ := hrel
    have HKG := Lib.hid hkg
    by_cases hk : k < N
    · have hkl : k < ks.length := by rw [HN.out]; exact hk
      obtain ⟨y, hx⟩ : ∃ y, ks[k]? = some y := ⟨_, List.getElem?_eq_getElem hkl⟩
      have HE := Lib.hid (rowsT_at hx)
      obtain ⟨xb, xo, rfl, hO⟩ := HRD.out.some_of (by rw [rowsT_length]; omega)
      have HTX := Lib.hid (HS.out y (List.mem_of_getElem? hx))
      have HX : Hid (y ∈ (Tr.mk xk xf xd xn xt (some ⟨xb, xo, none⟩) xc ks).kids) := Lib.hid (List.mem_of_getElem? hx)
      have HSZ := Lib.hid (HSZS.out y (List.mem_of_getElem? hx))
      have HPK : Hid ((ptL ks)[k]? = some y.pt) := Lib.hid (ptL_get hx)
      clear hx hkg hkl HRD HS HSZS
      go_wp2_with (first
    | ((with_reducible refine gRg ?_); apply wp_postT (Post := fun t' bq a9 c9 w' => ∃ N1, t'.pt = y.pt ∧ TrW N1 t' ∧ Hp w0 D (⟨some a9, rowsT (acc ++ [t']), 50, c9 * 6⟩ :: ⟨some by_, [.int .i64 xk, .int .i64 xf, .int .i64 xd, .int .u64 xn, .string xt, .slice (some ⟨a9, 0, none⟩) (k + 1) c9], 50, 6⟩ :: ⟨some b2, [.int .i64 0, .int .i64 0, .int .i64 0, .int .u64 0, .string ⟨#[]⟩, .slice none 0 0], 50, 6⟩ :: ⟨some bx, [.int .i64 xk, .int .i64 xf, .int .i64 xd, .int .u64 xn, .string xt, .slice (some ⟨xb, xo, none⟩) N xc], 50, 6⟩ :: (N1 ++ (NA ++ R))) w'); (· (refine wp_region_B (fun u => ∃ v : Value, Hp w0 D (⟨some by_, [.int .i64 xk, .int .i64 xf, .int .i64 xd, .int .u64 xn, .string xt, v], 50, 6⟩ :: ⟨some bx, [.int .i64 xk, .int .i64 xf, .int .i64 xd, .int .u64 xn, .string xt, .slice (some ⟨xb, xo, none⟩) N xc], 50, 6⟩ :: (NA ++ R)) u) rfl ?_; replace H := H.drew; (refine bTakeL 0 rfl (by decide +kernel) ⟨_, (((H).dropAt 0).dropAt 1)⟩ rfl (by intro u hu; go_simp; rfl) ?_; (try simp only [Act.put, List.setIfInBounds_toArray, List.set_cons_succ, List.set_cons_zero])); (refine bTakeL 2 rfl (by decide +kernel) ⟨_, (((H).dropAt 0).dropAt 1)⟩ rfl (by intro u hu; go_simp; rfl) ?_; (try simp only [Act.put, List.setIfInBounds_toArray, List.set_cons_succ, List.set_cons_zero])); (refine bTakeL 4 rfl (by decide +kernel) ⟨_, (((H).dropAt 0).dropAt 1)⟩ rfl (by intro u hu; go_simp; rfl) ?_; (try simp only [Act.put, List.setIfInBounds_toArray, List.set_cons_succ, List.set_cons_zero])); (refine bTakeL 3 rfl (by decide +kernel) ⟨_, (((H).dropAt 0).dropAt 1)⟩ rfl (fun u hu => (by obtain ⟨v, hu⟩ := hu; exact run_ld 1 hu rfl rfl rfl T47 rfl)) ?_; (try simp only [Act.put, List.setIfInBounds_toArray, List.set_cons_succ, List.set_cons_zero])); (refine bTakeL 5 rfl (by decide +kernel) ⟨_, (((H).dropAt 0).dropAt 1)⟩ rfl (by intro u hu; go_simp; first | rfl | (rw [if_pos (by omega)]; done) | (rw [if_pos (by omega)]; rfl)) ?_; (try simp only [Act.put, List.setIfInBounds_toArray, List.set_cons_succ, List.set_cons_zero])); (refine bTakeL 6 rfl (by decide +kernel) ⟨_, (((H).dropAt 0).dropAt 1)⟩ rfl (fun u hu => (by obtain ⟨v, hu⟩ := hu; exact run_ldRA (hO (_ :: _ :: NA) _ hu) rfl (by first | rfl | omega) T50 HE.out)) ?_; (try simp only [Act.put, List.setIfInBounds_toArray, List.set_cons_succ, List.set_cons_zero])); (refine bTwoL 1 7 (by decide +kernel) rfl rfl rfl rfl ?y100_1 ?y100_7); (case' y100_1 => (intro K hK; refine wp_run (run_ld 1 H rfl rfl rfl T47 rfl) ?_; refine hK _ _ ⟨_, (((H).dropAt 0).dropAt 1)⟩ ?_; clear hK K; (try simp only [Act.put, List.setIfInBounds_toArray, List.set_cons_succ, List.set_cons_zero]); (refine bOneL 7 (by decide +kernel) rfl rfl ?_); (intro K hK; go_simp; go_at_call 24; refine (ih y HX.out _ H (HTX.out.push (_ :: _ :: _ :: _ :: NA)) HSZ.out).mono ?_; rintro e w1 ⟨t', N1, rfl, hpt, htw, H1⟩; clear H; have H := Hp.swap (A := N1) (B := [_, _, _, _]) H1; clear H1; simp only [List.cons_append, List.nil_append] at H; (try simp only []); refine hK _ _ ⟨_, Hp.keptN (M := [_, _]) (N := N1) (((H).dropAt 0).dropAt 1)⟩ ?_; clear hK K; (try simp only [Act.put, List.setIfInBounds_toArray, List.set_cons_succ, List.set_cons_zero]); (refine bOneL 8 (by decide +kernel) rfl rfl ?_); (intro K hK; refine oBs1 (v := .agg t'.cells.toArray) rfl S47 (by show t'.cells.toArray.size = 6; simp [Tr.cells_len]) (by decide) (by decide) H ?_; clear H; intro bq w1 H; replace H : Hp w0 D (⟨some bq, t'.cells, 50, 6⟩ :: _) w1 := H; refine hK _ _ ⟨_, Hp.keptN (M := [_, _]) (N := N1) ((((H).dropAt 0).dropAt 0).dropAt 1)⟩ ?_; clear hK K; (try simp only [Act.put, List.setIfInBounds_toArray, List.set_cons_succ, List.set_cons_zero]); (refine bOneL 9 (by decide +kernel) rfl rfl ?_); (intro K hK; refine oAppC 1 (m := 1) (n := k) (cap := cr) (news := t'.cells) H rfl rfl rfl S47 (by decide) (Or.inl rfl) (by dsimp only; rw [rowsT_length, HAC.out.1]) rfl (fun h => by cases h) (by rw [Tr.cells_len]) (Tr.cells_one _) ((Rd.ent H (i := 0) rfl).news [] H) (by unfold maxLen; omega) (by omega) (by omega) ?_; clear H; intro a9 c9 w1 H; simp only [List.set_cons_zero, List.set_cons_succ] at H; rw [rowsT_snoc] at H; refine hK _ _ ⟨_, Hp.keptN (M := [_, _]) (N := N1) ((((H).dropAt 0).dropAt 0).dropAt 1)⟩ ?_; clear hK K; (try simp only [Act.put, List.setIfInBounds_toArray, List.set_cons_succ, List.set_cons_zero]); (refine bTakeL 10 rfl (by decide +kernel) ⟨_, Hp.keptN (M := [_, _]) (N := N1) ((((H).dropAt 0).dropAt 0).dropAt 1)⟩ rfl (by intro u hu; go_simp; rfl) ?_; (try simp only [Act.put, List.setIfInBounds_toArray, List.set_cons_succ, List.set_cons_zero])); (refine bOneL 11 (by decide +kernel) rfl rfl ?_); (intro K hK; refine oSt H rfl ⟨.slice _ _ _, rfl, ?_⟩; refine kSt 2 rfl rfl T47 rfl (Nat.le_of_ble_eq_true rfl) ?_; clear H; intro w1 H; simp only [List.set_cons_zero, List.set_cons_succ] at H; (try simp only [lay, LS1, Nat.reduceAdd] at H); refine hK _ _ ⟨_, Hp.keptN (M := [_, _]) (N := N1) ((((H).dropAt 0).dropAt 0).dropAt 1)⟩ ?_; clear hK K; (try simp only [Act.put, List.setIfInBounds_toArray, List.set_cons_succ, List.set_cons_zero]); (refine bDone (by decide +kernel) ?_); (exact ⟨rfl, t', bq, a9, c9, rfl, N1, hpt, htw, (((((((H).dropAt 0)).swap (A := [_, _, _]) (B := [_])).swap (A := [_, _, _]) (B := [_])).swap (A := [_, _, _]) (B := [_])).swap (A := [_, _, _]) (B := [_]))⟩))))))); (case' y100_7 => (intro K hK; go_simp; go_at_call 24; refine (ih y HX.out _ H (HTX.out.push (_ :: _ :: _ :: _ :: NA)) HSZ.out).mono ?_; rintro e w1 ⟨t', N1, rfl, hpt, htw, H1⟩; clear H; have H := Hp.swap (A := N1) (B := [_, _, _, _]) H1; clear H1; simp only [List.cons_append, List.nil_append] at H; (try simp only []); refine hK _ _ ⟨_, Hp.keptN (M := [_, _]) (N := N1) (((H).dropAt 0).dropAt 1)⟩ ?_; clear hK K; (try simp only [Act.put, List.setIfInBounds_toArray, List.set_cons_succ, List.set_cons_zero]); (refine bTwoL 1 8 (by decide +kernel) rfl rfl rfl rfl ?y101_1 ?y101_8); (case' y101_1 => (intro K hK; refine wp_run (run_ld 1 H rfl rfl rfl T47 rfl) ?_; refine hK _ _ ⟨_, Hp.keptN (M := [_, _]) (N := N1) (((H).dropAt 0).dropAt 1)⟩ ?_; clear hK K; (try simp only [Act.put, List.setIfInBounds_toArray, List.set_cons_succ, List.set_cons_zero]); (refine bOneL 8 (by decide +kernel) rfl rfl ?_); (intro K hK; refine oBs1 (v := .agg t'.cells.toArray) rfl S47 (by show t'.cells.toArray.size = 6; simp [Tr.cells_len]) (by decide) (by decide) H ?_; clear H; intro bq w1 H; replace H : Hp w0 D (⟨some bq, t'.cells, 50, 6⟩ :: _) w1 := H; refine hK _ _ ⟨_, Hp.keptN (M := [_, _]) (N := N1) ((((H).dropAt 0).dropAt 0).dropAt 1)⟩ ?_; clear hK K; (try simp only [Act.put, List.setIfInBounds_toArray, List.set_cons_succ, List.set_cons_zero]); (refine bOneL 9 (by decide +kernel) rfl rfl ?_); (intro K hK; refine oAppC 1 (m := 1) (n := k) (cap := cr) (news := t'.cells) H rfl rfl rfl S47 (by decide) (Or.inl rfl) (by dsimp only; rw [rowsT_length, HAC.out.1]) rfl (fun h => by cases h) (by rw [Tr.cells_len]) (Tr.cells_one _) ((Rd.ent H (i := 0) rfl).news [] H) (by unfold maxLen; omega) (by omega) (by omega) ?_; clear H; intro a9 c9 w1 H; simp only [List.set_cons_zero, List.set_cons_succ] at H; rw [rowsT_snoc] at H; refine hK _ _ ⟨_, Hp.keptN (M := [_, _]) (N := N1) ((((H).dropAt 0).dropAt 0).dropAt 1)⟩ ?_; clear hK K; (try simp only [Act.put, List.setIfInBounds_toArray, List.set_cons_succ, List.set_cons_zero]); (refine bTakeL 10 rfl (by decide +kernel) ⟨_, Hp.keptN (M := [_, _]) (N := N1) ((((H).dropAt 0).dropAt 0).dropAt 1)⟩ rfl (by intro u hu; go_simp; rfl) ?_; (try simp only [Act.put, List.setIfInBounds_toArray, List.set_cons_succ, List.set_cons_zero])); (refine bOneL 11 (by decide +kernel) rfl rfl ?_); (intro K hK; refine oSt H rfl ⟨.slice _ _ _, rfl, ?_⟩; refine kSt 2 rfl rfl T47 rfl (Nat.le_of_ble_eq_true rfl) ?_; clear H; intro w1 H; simp only [List.set_cons_zero, List.set_cons_succ] at H; (try simp only [lay, LS1, Nat.reduceAdd] at H); refine hK _ _ ⟨_, Hp.keptN (M := [_, _]) (N := N1) ((((H).dropAt 0).dropAt 0).dropAt 1)⟩ ?_; clear hK K; (try simp only [Act.put, List.setIfInBounds_toArray, List.set_cons_succ, List.set_cons_zero]); (refine bDone (by decide +kernel) ?_); (exact ⟨rfl, t', bq, a9, c9, rfl, N1, hpt, htw, (((((((H).dropAt 0)).swap (A := [_, _, _]) (B := [_])).swap (A := [_, _, _]) (B := [_])).swap (A := [_, _, _]) (B := [_])).swap (A := [_, _, _]) (B := [_]))⟩)))))); (case' y101_8 => (intro K hK; refine oBs1 (v := .agg t'.cells.toArray) rfl S47 (by show t'.cells.toArray.size = 6; simp [Tr.cells_len]) (by decide) (by decide) H ?_; clear H; intro bq w1 H; replace H : Hp w0 D (⟨some bq, t'.cells, 50, 6⟩ :: _) w1 := H; refine hK _ _ ⟨_, Hp.keptN (M := [_, _]) (N := N1) ((((H).dropAt 0).dropAt 0).dropAt 1)⟩ ?_; clear hK K; (try simp only [Act.put, List.setIfInBounds_toArray, List.set_cons_succ, List.set_cons_zero]); (refine bOneL 1 (by decide +kernel) rfl rfl ?_); (intro K hK; refine wp_run (run_ld 2 H rfl rfl rfl T47 rfl) ?_; refine hK _ _ ⟨_, Hp.keptN (M := [_, _]) (N := N1) ((((H).dropAt 0).dropAt 0).dropAt 1)⟩ ?_; clear hK K; (try simp only [Act.put, List.setIfInBounds_toArray, List.set_cons_succ, List.set_cons_zero]); (refine bOneL 9 (by decide +kernel) rfl rfl ?_); (intro K hK; refine oAppC 1 (m := 1) (n := k) (cap := cr) (news := t'.cells) H rfl rfl rfl S47 (by decide) (Or.inl rfl) (by dsimp only; rw [rowsT_length, HAC.out.1]) rfl (fun h => by cases h) (by rw [Tr.cells_len]) (Tr.cells_one _) ((Rd.ent H (i := 0) rfl).news [] H) (by unfold maxLen; omega) (by omega) (by omega) ?_; clear H; intro a9 c9 w1 H; simp only [List.set_cons_zero, List.set_cons_succ] at H; rw [rowsT_snoc] at H; refine hK _ _ ⟨_, Hp.keptN (M := [_, _]) (N := N1) ((((H).dropAt 0).dropAt 0).dropAt 1)⟩ ?_; clear hK K; (try simp only [Act.put, List.setIfInBounds_toArray, List.set_cons_succ, List.set_cons_zero]); (refine bTakeL 10 rfl (by decide +kernel) ⟨_, Hp.keptN (M := [_, _]) (N := N1) ((((H).dropAt 0).dropAt 0).dropAt 1)⟩ rfl (by intro u hu; go_simp; rfl) ?_; (try simp only [Act.put, List.setIfInBounds_toArray, List.set_cons_succ, List.set_cons_zero])); (refine bOneL 11 (by decide +kernel) rfl rfl ?_); (intro K hK; refine oSt H rfl ⟨.slice _ _ _, rfl, ?_⟩; refine kSt 2 rfl rfl T47 rfl (Nat.le_of_ble_eq_true rfl) ?_; clear H; intro w1 H; simp only [List.set_cons_zero, List.set_cons_succ] at H; (try simp only [lay, LS1, Nat.reduceAdd] at H); refine hK _ _ ⟨_, Hp.keptN (M := [_, _]) (N := N1) ((((H).dropAt 0).dropAt 0).dropAt 1)⟩ ?_; clear hK K; (try simp only [Act.put, List.setIfInBounds_toArray, List.set_cons_succ, List.set_cons_zero]); (refine bDone (by decide +kernel) ?_); (exact ⟨rfl, t', bq, a9, c9, rfl, N1, hpt, htw, (((((((H).dropAt 0)).swap (A := [_, _, _]) (B := [_])).swap (A := [_, _, _]) (B := [_])).swap (A := [_, _, _]) (B := [_])).swap (A := [_, _, _]) (B := [_]))⟩)))))))))); clear H; intro t' bq a9 c9 w1 hpost; obtain ⟨N1, hpt, htw, H⟩ := hpost; (try simp only [Act.put, List.setIfInBounds_toArray, List.set_cons_succ, List.set_cons_zero]))
    | ((with_reducible refine gLd ?_); refine eLd H rfl rfl ?_; first | ((repeat ((with_reducible refine gEx ?_); first | (refine kLd 0 rfl rfl (by exact TT _ rfl) rfl ?_) | (refine kLdA 0 rfl rfl (by exact TT _ rfl) (Nat.le_of_ble_eq_true rfl) (by simp only [Nd.cells, Nd.zero, LS2]; rfl) ?_) | (refine nxL ?_))); fail_if_success (with_reducible refine gEx ?_)))
    | ((with_reducible refine gEq ?_); (first | (refine wl_cmp rfl rfl rfl rfl ?_) | (refine wl_scmp rfl rfl rfl rfl ?_)); intro rb hrb; cases rb <;> (first | (exfalso; simp at hrb; done) | ((try simp only [CS1, gt_iff_lt, ge_iff_le, ne_eq, Decidable.not_not] at hrb); (try subst hrb); (try (exfalso; omega))))))
      go_roundg (gk - 1)
      case measure => have := HKG.out; omega
      case rel =>
        refine ⟨k + 1, acc ++ [t'], some a9, c9, N1 ++ NA, by go_num, by have := HKG.out; omega, Lib.hid ⟨by rw [List.length_append, HAC.out.1]; rfl, ?_, ?_⟩, by rw [List.append_assoc]; exact H⟩
        · rw [ptL_snoc, HAC.out.2.1, hpt]
          obtain ⟨hlt, he⟩ := List.getElem?_eq_some_iff.1 HPK.out
          rw [← he, List.take_succ_eq_append_getElem hlt]
        · intro x hx
          rcases List.mem_append.1 hx with h | h
          · exact (HAC.out.2.2 x h).push N1
          · rw [List.mem_singleton.1 h]
            exact htw.right NA
    · obtain rfl : N = k := by omega
      clear hkg HRD HS HSZS
      go_wp2_with (first
    | ((with_reducible refine gRg ?_); refine wp_region_B (fun u => Hp w0 D (⟨some by_, [.int .i64 xk, .int .i64 xf, .int .i64 xd, .int .u64 xn, .string xt, .slice (adr ar 0) N cr], 50, 6⟩ :: ⟨some bx, [.int .i64 xk, .int .i64 xf, .int .i64 xd, .int .u64 xn, .string xt, .slice xa N xc], 50, 6⟩ :: (NA ++ R)) u) rfl ?_; replace H := H.drew; (refine bTakeL 0 rfl (by decide +kernel) (((H).dropAt 0).dropAt 1) rfl (by intro u hu; go_simp; rfl) ?_; (try simp only [Act.put, List.setIfInBounds_toArray, List.set_cons_succ, List.set_cons_zero])); (refine bTakeL 2 rfl (by decide +kernel) (((H).dropAt 0).dropAt 1) rfl (by intro u hu; go_simp; rfl) ?_; (try simp only [Act.put, List.setIfInBounds_toArray, List.set_cons_succ, List.set_cons_zero])); (refine bTakeL 4 rfl (by decide +kernel) (((H).dropAt 0).dropAt 1) rfl (by intro u hu; go_simp; rfl) ?_; (try simp only [Act.put, List.setIfInBounds_toArray, List.set_cons_succ, List.set_cons_zero])); (refine bTakeL 6 rfl (by decide +kernel) (((H).dropAt 0).dropAt 1) rfl (by intro u hu; go_simp; rfl) ?_; (try simp only [Act.put, List.setIfInBounds_toArray, List.set_cons_succ, List.set_cons_zero])); (refine bTakeL 8 rfl (by decide +kernel) (((H).dropAt 0).dropAt 1) rfl (by intro u hu; go_simp; rfl) ?_; (try simp only [Act.put, List.setIfInBounds_toArray, List.set_cons_succ, List.set_cons_zero])); (refine bTakeL 10 rfl (by decide +kernel) (((H).dropAt 0).dropAt 1) rfl (by intro u hu; go_simp; rfl) ?_; (try simp only [Act.put, List.setIfInBounds_toArray, List.set_cons_succ, List.set_cons_zero])); (refine bTakeL 12 rfl (by decide +kernel) (((H).dropAt 0).dropAt 1) rfl (by intro u hu; go_simp; rfl) ?_; (try simp only [Act.put, List.setIfInBounds_toArray, List.set_cons_succ, List.set_cons_zero])); (refine bTakeL 15 rfl (by decide +kernel) (((H).dropAt 0).dropAt 1) rfl (by intro u hu; go_simp; rfl) ?_; (try simp only [Act.put, List.setIfInBounds_toArray, List.set_cons_succ, List.set_cons_zero])); (refine bTakeL 1 rfl (by decide +kernel) (((H).dropAt 0).dropAt 1) rfl (fun u hu => run_ld 1 hu rfl rfl rfl T3 rfl) ?_; (try simp only [Act.put, List.setIfInBounds_toArray, List.set_cons_succ, List.set_cons_zero])); (refine bTakeL 3 rfl (by decide +kernel) (((H).dropAt 0).dropAt 1) rfl (fun u hu => run_ld 1 hu rfl rfl rfl T3 rfl) ?_; (try simp only [Act.put, List.setIfInBounds_toArray, List.set_cons_succ, List.set_cons_zero])); (refine bTakeL 5 rfl (by decide +kernel) (((H).dropAt 0).dropAt 1) rfl (fun u hu => run_ld 1 hu rfl rfl rfl T3 rfl) ?_; (try simp only [Act.put, List.setIfInBounds_toArray, List.set_cons_succ, List.set_cons_zero])); (refine bTakeL 7 rfl (by decide +kernel) (((H).dropAt 0).dropAt 1) rfl (fun u hu => run_ld 1 hu rfl rfl rfl T31 rfl) ?_; (try simp only [Act.put, List.setIfInBounds_toArray, List.set_cons_succ, List.set_cons_zero])); (refine bTakeL 9 rfl (by decide +kernel) (((H).dropAt 0).dropAt 1) rfl (fun u hu => run_ld 1 hu rfl rfl rfl T9 rfl) ?_; (try simp only [Act.put, List.setIfInBounds_toArray, List.set_cons_succ, List.set_cons_zero])); (refine bTakeL 11 rfl (by decide +kernel) (((H).dropAt 0).dropAt 1) rfl (fun u hu => run_ld 0 hu rfl rfl rfl T47 rfl) ?_; (try simp only [Act.put, List.setIfInBounds_toArray, List.set_cons_succ, List.set_cons_zero])); (refine bOneL 13 (by decide +kernel) rfl rfl ?_); (intro K hK; refine oBs1 (v := .agg (List.toArray [.int .i64 (-1), .int .i64 0, .int .i64 0, .int .u64 0, .string ⟨#[]⟩, .slice none 0 0])) rfl S47 rfl (by decide) (by decide) H ?_; clear H; intro bq w1 H; replace H : Hp w0 D (⟨some bq, [.int .i64 (-1), .int .i64 0, .int .i64 0, .int .u64 0, .string ⟨#[]⟩, .slice none 0 0], 50, 6⟩ :: _) w1 := H; refine hK _ _ ((((H).dropAt 0).dropAt 0).dropAt 1) ?_; clear hK K; (try simp only [Act.put, List.setIfInBounds_toArray, List.set_cons_succ, List.set_cons_zero]); (refine bOneL 14 (by decide +kernel) rfl rfl ?_); (intro K hK; refine oAppC 1 (m := 1) (n := N) (cap := cr) (news := [.int .i64 (-1), .int .i64 0, .int .i64 0, .int .u64 0, .string ⟨#[]⟩, .slice none 0 0]) H rfl rfl rfl S47 (by decide) (Or.inl rfl) (by dsimp only; rw [rowsT_length, HAC.out.1]) rfl (fun h => by cases h) rfl rfl ((Rd.ent H (i := 0) rfl).news [] H) (by unfold maxLen; omega) (by omega) (by omega) ?_; clear H; intro a9 c9 w1 H; simp only [List.set_cons_zero, List.set_cons_succ] at H; have hle9 : N ≤ c9 := (by have h9 := H.le (i := 1) rfl; dsimp only at h9; rw [List.length_append, rowsT_length, HAC.out.1] at h9; omega); refine hK _ _ ((((H).dropAt 0).dropAt 0).dropAt 1) ?_; clear hK K; (try simp only [Act.put, List.setIfInBounds_toArray, List.set_cons_succ, List.set_cons_zero]); (refine bTakeL 16 rfl (by decide +kernel) ((((H).dropAt 0).dropAt 0).dropAt 1) rfl (fun u _ => run_slx (fun w => slice_hi S47 (some a9) 0 (N + 1) c9 N .i64 hle9 w)) ?_; (try simp only [Act.put, List.setIfInBounds_toArray, List.set_cons_succ, List.set_cons_zero])); (refine bTakeL 17 rfl (by decide +kernel) ((((H).dropAt 0).dropAt 0).dropAt 1) rfl (by intro u hu; go_simp; rfl) ?_; (try simp only [Act.put, List.setIfInBounds_toArray, List.set_cons_succ, List.set_cons_zero])); (refine bOneL 18 (by decide +kernel) rfl rfl ?_); (intro K hK; refine oSt H rfl ⟨.agg (List.toArray _), rfl, ?_⟩; refine kStA 3 rfl rfl T50 rfl rfl (Nat.le_of_ble_eq_true rfl) ?_; clear H; intro w1 H; simp only [List.set_cons_zero, List.set_cons_succ] at H; (try simp only [lay, LS1, Nat.reduceAdd] at H); refine hK _ _ ((((H).dropAt 0).dropAt 0).dropAt 1) ?_; clear hK K; (try simp only [Act.put, List.setIfInBounds_toArray, List.set_cons_succ, List.set_cons_zero]); (refine bDone (by decide +kernel) ?_); (replace H := (((((((H).dropAt 0)).swap (A := [_, _, _]) (B := [_])).swap (A := [_, _, _]) (B := [_])).swap (A := [_, _, _]) (B := [_])).swap (A := [_, _, _]) (B := [_])))))))
    | ((with_reducible refine gLd ?_); refine eLd H rfl rfl ?_; first | ((repeat ((with_reducible refine gEx ?_); first | (refine kLd 0 rfl rfl (by exact TT _ rfl) rfl ?_) | (refine kLdA 0 rfl rfl (by exact TT _ rfl) (Nat.le_of_ble_eq_true rfl) (by simp only [Nd.cells, Nd.zero, LS2]; rfl) ?_) | (refine nxL ?_))); fail_if_success (with_reducible refine gEx ?_)))
    | ((with_reducible refine gEq ?_); (first | (refine wl_cmp rfl rfl rfl rfl ?_) | (refine wl_scmp rfl rfl rfl rfl ?_)); intro rb hrb; cases rb <;> (first | (exfalso; simp at hrb; done) | ((try simp only [CS1, gt_iff_lt, ge_iff_le, ne_eq, Decidable.not_not] at hrb); (try subst hrb); (try (exfalso; omega))))))
      refine ret_c 2 H rfl rfl rfl rfl rfl T50 (Nat.le_of_ble_eq_true rfl) rfl ?_
      refine ⟨.mk xk xf xd xn xt (some ⟨a9, 0, none⟩) c9 acc, ⟨some a9, _, 50, _⟩ :: NA, by simp only [Tr.cells]; rw [HAC.out.1]; rfl, ?_, mk_tr rfl rfl HAC.out.1 hle9 (by omega) HAC.out.2.2, ((H.dropAt 1).dropAt 1).dropAt 1⟩
      simp only [Tr.pt]
      rw [HAC.out.2.1, List.take_of_length_le (by rw [ptL_len, HN.out]; exact Nat.le_refl _)]
end Go.Proofs.Ytebecelhcpljaaa
