-- Written by this session's drive.py: the print's program with contracts by hand among the functions. Not trusted: Lean checks it.
import Derived.Test.YtlagllfbomaehaaGreatDoorAx0
import Derived.Test.YtlagllfbomaehaaGreatDoorParts
namespace Go.Proofs.YtlagllfbomaehaaGreatDoor.A
open Go.RowKit Go.Proofs.YtlagllfbomaehaaGreatDoorW.PrintWords Go.Proofs.YtlagllfbomaehaaGreatDoorW.PrintLast Go.Proofs.YtlagllfbomaehaaGreatDoorW.PrintMore
attribute [local go_sem] max2_int min2_int max_two min_two max_three min_three max_four min_four   -- for this text's walks alone
attribute [local go_sem] Go.Proofs.YtlagllfbomaehaaGreatDoor.Own.gtr_string Go.Proofs.YtlagllfbomaehaaGreatDoor.Own.leq_string Go.Proofs.YtlagllfbomaehaaGreatDoor.Own.geq_string Go.Proofs.YtlagllfbomaehaaGreatDoor.Own.ba_get
set_option linter.unusedVariables false
set_option linter.unusedSimpArgs false
-- FOREIGN rounds=0 making=1
-- IMPORT Derived.Test.YtlagllfbomaehaaGreatDoorParts
def chain_Parts.f (a0 : ByteArray) (a1 : Int) : Option (List ByteArray) := if a0.size ≤ 1000000 then (if 100 ≤ a1 then (if a1 ≤ 2000 then (some (cutsL (a1 - 16).toNat a0.size a0)) else none) else none) else none
theorem chain_Parts.calls (a0 : ByteArray) (a1 : Int) (r : List ByteArray) (w : World) (h : chain_Parts.f a0 a1 = some r) :
  Calls Tryz.prog 15 #[.string a0, .int .i64 a1] w fun e w' => ∃ v0_ : Value, e = .returned (v0_) ∧ Kd.R Kd.string 9 w' w.heap.size (fun _ => True) v0_ r ∧ Below w.heap.size w w' := by
 unfold chain_Parts.f at h
 by_cases h0 : a0.size ≤ 1000000
 ·by_cases h1 : 100 ≤ a1
  ·by_cases h2 : a1 ≤ 2000
   ·rw [if_pos h0, if_pos h1, if_pos h2] at h
    obtain rfl := Option.some.inj h
    exact callsIn_wide.1 (parts_in a0 h0 a1 h1 h2 w)
   ·rw [if_pos h0, if_pos h1, if_neg h2] at h; exact absurd h (by simp)
  ·rw [if_pos h0, if_neg h1] at h; exact absurd h (by simp)
 ·rw [if_neg h0] at h; exact absurd h (by simp)
end Go.Proofs.YtlagllfbomaehaaGreatDoor.A
