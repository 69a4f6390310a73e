/- check as one contract; Make. -/
import Derived.Test.YtebecelhcpljaaaW8
import Derived.Test.YtebecelhcpljaaaW7
import Derived.WalkKit
import Derived.Lib.Hide
import Derived.Deep.LoopGhost
import Derived.WalkSpells
set_option linter.unusedVariables false
set_option linter.unusedSimpArgs false
namespace Go.Proofs.Ytebecelhcpljaaa
open Go.RowKit Go.Gx Go.Gx.Trm
set_option maxRecDepth 100000
theorem own_kk {n : Nd} (h : own n = true) {f t u x : Bool} {kd : Int} (hs : shRow n.kind = [.bool f, .bool t, .bool u, .bool x, .int .i64 kd]) : named n.kind = f ∧ two n.kind = t ∧ kidsN n.kind = kd := by
  have h2 := shRow_yes (own_ok h)
  rw [hs] at h2
  simp at h2
  exact ⟨h2.1.symm, h2.2.1.symm, h2.2.2.2.2.symm⟩
def sizeC (l : List En) (n : Nd) : Int := if checkE l n = 0 then bigS l n else 0
def deepC (l : List En) (n : Nd) : Int := if checkE l n = 0 then bigD l n else 0
def ChkQ (w0 : World) (D : Nat → Prop) (R : List Ent) (l : List En) (n : Nd) (e : Ending) (w' : World) : Prop :=
  e = .returned (.tuple #[.int .i64 (sizeC l n), .int .i64 (deepC l n), .int .i64 (checkE l n)]) ∧ Hp w0 D R w'
theorem chk_bad {w0 : World} {D : Nat → Prop} {R : List Ent} {l : List En} {n : Nd} {er : Int} (h : checkE l n = er) (h0 : ¬ er = 0) {e : Ending} {w' : World} (he : e = .returned (.tuple #[.int .i64 0, .int .i64 0, .int .i64 er])) (hh : Hp w0 D R w') : ChkQ w0 D R l n e w' := by
  subst h
  exact ⟨by rw [he]; simp [sizeC, deepC, h0], hh⟩
theorem chk_big {w0 : World} {D : Nat → Prop} {R : List Ent} {l : List En} {n : Nd} {sz dp : Int} (h1 : shapeE n = 0) (h2 : missE l n = false) (h3 : bigS l n = sz) (h4 : bigD l n = dp) {e : Ending} {w' : World} (h : ChkP w0 D R sz dp e w') : ChkQ w0 D R l n e w' := by
  obtain ⟨s, d, er, he, hc, hh⟩ := h
  rcases hc with ⟨rfl, rfl, rfl, hb⟩ | ⟨rfl, rfl, rfl, hb1, hb2⟩
  · refine chk_bad ?_ (by decide) he hh
    unfold checkE
    rw [h1, h2, h3, h4]; simp; omega
  · have hc : checkE l n = 0 := by unfold checkE; rw [h1, h2, h3, h4]; simp; omega
    refine ⟨?_, hh⟩
    rw [he]; simp [sizeC, deepC, hc, h3, h4]
theorem entP_ok {l : List En} (h : okP l) {t : Int} (hi : inP l t = true) : 1 ≤ sizeP l t ∧ sizeP l t ≤ 4096 ∧ 1 ≤ deepP l t ∧ deepP l t ≤ 64 := by
  obtain ⟨k, e, _, _, h1, h2⟩ := entP_in hi
  have := h k e h1
  simp only [sizeP, deepP, h2]; exact this
set_option maxHeartbeats 4000000 in
theorem check_spec {w0 w : World} {D : Nat → Prop} {R : List Ent} {p mb : Nat} {a : Option Nat} {c : Nat} {l : List En} {i j : Nat} (H : Hp w0 D R w) (hp : R[i]? = some (eP p mb a c l)) (hq : R[j]? = some (eE a c l)) (hl : l.length ≤ 65536) (hok : okP l) (n : Nd) :
    Calls Try.prog 70 #[.pointer (some ⟨p, 0, none⟩), .agg n.cells.toArray] w fun e w' => ChkQ w0 D R l n e w' := by
  cases ho : own n with
  | false =>
    have hc : checkE l n = 53 := by simp [checkE, shapeE, plainN, ho]
    exact (check_own H n ho).mono fun e w' h => chk_bad hc (by decide) h.1 h.2
  | true =>
    obtain ⟨f, t, u, x, kd, hs, hk0, hk2, _⟩ := sh_cells n.kind
    obtain ⟨hf, ht, hkd⟩ := own_kk ho hs
    by_cases hb : (kd < 1 ∧ n.a ≠ 0) ∨ (kd < 2 ∧ n.b ≠ 0)
    · have hc : checkE l n = 53 := by
        have h1 : plainN n = false := by
          unfold plainN
          rw [ho, hkd]
          rcases hb with ⟨h, h'⟩ | ⟨h, h'⟩
          · simp [h']; intro h2; omega
          · simp [h']; intro _ h2; omega
        simp [checkE, shapeE, h1]
      exact (check_kids H n ho hs hk0 hk2 hb).mono fun e w' h => chk_bad hc (by decide) h.1 h.2
    have hg : (kd = 0 ∧ n.a = 0 ∧ n.b = 0) ∨ (kd = 1 ∧ n.b = 0) ∨ kd = 2 := by omega
    have hpl : plainN n = true := by
      unfold plainN
      rw [ho, hkd]
      rcases hg with ⟨rfl, h1, h2⟩ | ⟨rfl, h2⟩ | rfl
      · simp [h1, h2]
      · simp [h2]
      · simp
    obtain ⟨e5, he5⟩ : ∃ e5, (if (f && !nm n.frm) || (t && (!nm n.dst || n.dst == n.frm)) then (50 : Int) else if 64 < n.text.size then 1 else 0) = e5 := ⟨_, rfl⟩
    have hsh : shapeE n = e5 := by
      have hcm : (n.frm == n.dst) = (n.dst == n.frm) := Bool.beq_comm
      unfold shapeE fieldsE namesE
      rw [hpl, if_pos rfl, hf, ht, hcm, ← he5]
    by_cases h5 : e5 = 0
    · subst h5
      rcases hg with ⟨rfl, ha, hb0⟩ | ⟨rfl, hb0⟩ | rfl
      · have h0 := P0 l
        have hz : checkE l n = 0 := by unfold checkE; rw [hsh]; simp [missE, hkd, bigS, bigD, ha, hb0, h0.1, h0.2]
        refine (check_k0 H n ho hs he5 hp hq hl ha hb0).mono fun e w' h => ⟨?_, h.2⟩
        rw [h.1]; simp [sizeC, deepC, hz, bigS, bigD, ha, hb0, h0.1, h0.2]
      · cases hia : inP l n.a with
        | false =>
          have hc : checkE l n = 51 := by unfold checkE; rw [hsh]; simp [missE, hkd, hia]
          exact (check_k1n H n ho hs he5 hp hq hl hia hb0).mono fun e w' h => chk_bad hc (by decide) h.1 h.2
        | true =>
          have hA := entP_ok hok hia
          have h0 := P0 l
          refine (check_k1 H n ho hs he5 hp hq hl hia hb0 rfl rfl (by omega) hA.2.1 hA.2.2.1 hA.2.2.2).mono fun e w' h => chk_big hsh (by simp [missE, hkd, hia]) ?_ ?_ h
          · simp [bigS, hb0, h0.1]
          · simp [bigD, hb0, h0.2]; omega
      · cases hia : inP l n.a with
        | false =>
          have hc : checkE l n = 51 := by unfold checkE; rw [hsh]; simp [missE, hkd, hia]
          exact (check_k2a (sa := 0) (da := 0) H n ho hs he5 hp hq hl hia).mono fun e w' h => chk_bad hc (by decide) h.1 h.2
        | true =>
          have hA := entP_ok hok hia
          cases hib : inP l n.b with
          | false =>
            have hc : checkE l n = 51 := by unfold checkE; rw [hsh]; simp [missE, hkd, hia, hib]
            exact (check_k2b H n ho hs he5 hp hq hl hia hib rfl rfl (by omega) hA.2.1 hA.2.2.1 hA.2.2.2).mono fun e w' h => chk_bad hc (by decide) h.1 h.2
          | true =>
            have hB := entP_ok hok hib
            by_cases hd : deepP l n.a < deepP l n.b
            · refine (check_k2lt H n ho hs he5 hp hq hl hia hib rfl rfl (by omega) hA.2.1 hA.2.2.1 hA.2.2.2 rfl rfl (by omega) hB.2.1 hB.2.2.1 hB.2.2.2 hd).mono fun e w' h => chk_big hsh (by simp [missE, hkd, hia, hib]) rfl ?_ h
              simp [bigD]; omega
            · refine (check_k2ge H n ho hs he5 hp hq hl hia hib rfl rfl (by omega) hA.2.1 hA.2.2.1 hA.2.2.2 rfl rfl (by omega) hB.2.1 hB.2.2.1 hB.2.2.2 (by omega)).mono fun e w' h => chk_big hsh (by simp [missE, hkd, hia, hib]) rfl ?_ h
              simp [bigD]; omega
    · exact (check_fields H n ho hs he5 h5 hg).mono fun e w' h => chk_bad (by unfold checkE; rw [hsh]; simp [h5]) h5 h.1 h.2
end Go.Proofs.Ytebecelhcpljaaa
