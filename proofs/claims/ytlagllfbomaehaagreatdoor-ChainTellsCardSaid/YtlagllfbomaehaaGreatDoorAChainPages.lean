-- Written by this session's drive.py: the print's program with contracts by hand among the functions. Not trusted: Lean checks it.
import Derived.Test.YtlagllfbomaehaaGreatDoorAx0
import Derived.Test.YtlagllfbomaehaaGreatDoorChain
namespace Go.Proofs.YtlagllfbomaehaaGreatDoor.A
open Go.RowKit Go.Proofs.YtlagllfbomaehaaGreatDoorW.PrintWords Go.Proofs.YtlagllfbomaehaaGreatDoorW.PrintLast Go.Proofs.YtlagllfbomaehaaGreatDoorW.PrintMore
attribute [local go_sem] max2_int min2_int max_two min_two max_three min_three max_four min_four   -- for this text's walks alone
attribute [local go_sem] Go.Proofs.YtlagllfbomaehaaGreatDoor.Own.gtr_string Go.Proofs.YtlagllfbomaehaaGreatDoor.Own.leq_string Go.Proofs.YtlagllfbomaehaaGreatDoor.Own.geq_string Go.Proofs.YtlagllfbomaehaaGreatDoor.Own.ba_get
set_option linter.unusedVariables false
set_option linter.unusedSimpArgs false
-- FOREIGN rounds=0 making=1
-- IMPORT Derived.Test.YtlagllfbomaehaaGreatDoorChain
def chain_Pages.f (a0 : Int) (a1 : Int) : Option (Int) := if a0 ≤ 9223372036854775807 then (if 100 ≤ a1 then (if a1 ≤ 2000 then (some (pagesI a0 a1)) else none) else none) else none
theorem chain_Pages.calls (a0 : Int) (a1 : Int) (r : Int) (w : World) (h : chain_Pages.f a0 a1 = some r) :
  Calls Tryz.prog 17 #[.int .i64 a0, .int .i64 a1] w fun e w' => e = .returned (.int .i64 r) ∧ Below w.heap.size w w' := by
 unfold chain_Pages.f at h
 by_cases h0 : a0 ≤ 9223372036854775807
 ·by_cases h1 : 100 ≤ a1
  ·by_cases h2 : a1 ≤ 2000
   ·rw [if_pos h0, if_pos h1, if_pos h2] at h
    obtain rfl := Option.some.inj h
    exact pages_any a0 a1 w h0 h1 h2
   ·rw [if_pos h0, if_pos h1, if_neg h2] at h; exact absurd h (by simp)
  ·rw [if_pos h0, if_neg h1] at h; exact absurd h (by simp)
 ·rw [if_neg h0] at h; exact absurd h (by simp)
end Go.Proofs.YtlagllfbomaehaaGreatDoor.A
