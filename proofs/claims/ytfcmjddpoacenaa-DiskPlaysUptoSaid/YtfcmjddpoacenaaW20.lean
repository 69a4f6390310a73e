/- The law's tells. -/
import Derived.Test.YtfcmjddpoacenaaW20a
import Derived.Test.YtfcmjddpoacenaaW20b
import Derived.Test.YtfcmjddpoacenaaW20c
import Derived.Test.YtfcmjddpoacenaaW20d
import Derived.WalkKit
import Derived.Lib.Hide
import Derived.Deep.LoopGhost
import Derived.WalkSpells
set_option linter.unusedVariables false
set_option linter.unusedSimpArgs false
namespace Go.Proofs.Ytfcmjddpoacenaa
open Go.RowKit Go.Gx Go.Gx.Dsk
set_option maxRecDepth 100000
theorem tells_spec {w0 w : World} {D : Nat → Prop} {R : List Ent} {p q : Nat} {f b l g h m : Option Nat} {cf cb cl cg ch cm : Nat} {s : Dk} (H : Hp w0 D (eD 72 p f b l cf cb cl (s) :: eS f cf (s).first :: eS b cb (s).now :: eW l cl (s).log :: eD 69 q g h m cg ch cm (s) :: eS g cg (s).first :: eS h ch (s).now :: eW m cm (s).log :: R) w) (hinv : s.armed = false → s.left = 0) (hb : s.now.length ≤ 2000000) (hl : s.log.length ≤ 2000000) :
    Calls Try.prog 31 #[.pointer (some ⟨p, 0, none⟩), .pointer (some ⟨q, 0, none⟩)] w fun e w' => e = .returned (.bool true) ∧ Hp w0 D (eD 72 p f b l cf cb cl (s) :: eS f cf (s).first :: eS b cb (s).now :: eW l cl (s).log :: eD 69 q g h m cg ch cm (s) :: eS g cg (s).first :: eS h ch (s).now :: eW m cm (s).log :: R) w' := by
  obtain ⟨d1, d2, d3, d4, d5, d6⟩ := s
  cases d4 with
  | true =>
    cases d6 with
    | true => exact tells_a H hb hl
    | false => exact tells_b H hb hl
  | false =>
    obtain rfl : d5 = 0 := hinv rfl
    cases d6 with
    | true => exact tells_c H hb hl
    | false => exact tells_d H hb hl
end Go.Proofs.Ytfcmjddpoacenaa
