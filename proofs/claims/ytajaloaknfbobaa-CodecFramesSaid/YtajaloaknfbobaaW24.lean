/- What functions of layer 1 compute. -/
import Derived.Test.YtajaloaknfbobaaW23
import Derived.WalkKit
import Derived.WalkLawsBesides
import Derived.Lib.Hide
import Derived.Deep.LoopGhost
import Derived.WalkSpells
set_option linter.unusedVariables false
set_option linter.unusedSimpArgs false
namespace Go.Proofs.Ytajaloaknfbobaa
open Go.RowKit Go.Gx Go.Gx.Cod
set_option maxRecDepth 100000
section
variable {w0 w : World} {D : Nat → Prop} {R : List Ent}
/-- the document's Open, whatever comes of it -/
theorem rOpen_spec (H : Hp w0 D R w) {x : Option Addr} {c n : Nat} {l : List UInt8} (hX : Rd w0 D R x (bs l)) (hl : l.length ≤ 1000000) (hn : n = l.length) {ld : List UInt8} {m : Nat} {er : Int} (ho : openM l = (ld, m, er)) :
    Calls Try.prog 29 #[.slice x n c] w fun e w' => ∃ a' c', e = .returned (.tuple #[.slice (adr a' 0) ld.length c', .int .i64 (m : Int), .int .i64 er]) ∧ Hp w0 D (eB a' c' ld :: R) w' := by
  subst hn
  have hbad : ∀ (er : Int), (Calls Try.prog 29 #[.slice x l.length c] w fun e w' => e = .returned (.tuple #[.slice none 0 0, .int .i64 0, .int .i64 er]) ∧ Hp w0 D R w') →
      Calls Try.prog 29 #[.slice x l.length c] w fun e w' => ∃ a' c', e = .returned (.tuple #[.slice (adr a' 0) ([] : List UInt8).length c', .int .i64 ((0 : Nat) : Int), .int .i64 er]) ∧ Hp w0 D (eB a' c' [] :: R) w' := by
    intro er hcall
    exact hcall.mono fun e w' hh => ⟨none, 0, hh.1, hh.2.consNone 5⟩
  rcases hnum : numM l 0 0 with ⟨k, e0, v⟩
  have hk : k ≤ l.length := by have := numM_le l 0 0; rw [hnum] at this; exact this
  have hnd : numM (l.drop 0) 0 0 = (k, e0, v) := by rw [List.drop_zero]; exact hnum
  by_cases he : e0 = 0
  · subst he
    by_cases hv : 4096 < v
    · rw [openM_long hnum hv] at ho
      cases ho
      exact hbad 1 (rOpen_long H hX hl hv hnd)
    · by_cases hs : l.length < k + v + 4
      · rw [openM_short hnum (by omega) hs] at ho
        cases ho
        exact hbad 3 (rOpen_short H hX hl hk (by omega) hs hnd)
      · by_cases hcm : le ((l.drop (k + v)).take 4) 0 = (crc ((l.drop k).take v)).toNat
        · rw [openM_ok hnum (by omega) (by omega) hcm] at ho
          cases ho
          have hlen : ((l.drop k).take v).length = v := by simp; omega
          rw [hlen]
          exact rOpen_ok H hX hl (by omega) (by omega) hnd hcm
        · rw [openM_sum hnum (by omega) (by omega) hcm] at ho
          cases ho
          exact hbad 12 (rOpen_sum H hX hl (by omega) (by omega) hnd hcm)
  · rw [openM_num hnum he] at ho
    cases ho
    exact hbad er (rOpen_num H hX hl he hnd)
end
end Go.Proofs.Ytajaloaknfbobaa
