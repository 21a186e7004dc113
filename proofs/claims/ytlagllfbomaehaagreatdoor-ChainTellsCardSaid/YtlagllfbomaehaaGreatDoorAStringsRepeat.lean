-- Written by this session's drive.py: the print's program with contracts by hand among the functions. Not trusted: Lean checks it.
import Derived.Test.YtlagllfbomaehaaGreatDoorAx0
import Derived.Test.YtlagllfbomaehaaGreatDoorShelf
namespace Go.Proofs.YtlagllfbomaehaaGreatDoor.A
open Go.RowKit Go.Proofs.YtlagllfbomaehaaGreatDoorW.PrintWords Go.Proofs.YtlagllfbomaehaaGreatDoorW.PrintLast Go.Proofs.YtlagllfbomaehaaGreatDoorW.PrintMore
attribute [local go_sem] max2_int min2_int max_two min_two max_three min_three max_four min_four   -- for this text's walks alone
attribute [local go_sem] Go.Proofs.YtlagllfbomaehaaGreatDoor.Own.gtr_string Go.Proofs.YtlagllfbomaehaaGreatDoor.Own.leq_string Go.Proofs.YtlagllfbomaehaaGreatDoor.Own.geq_string Go.Proofs.YtlagllfbomaehaaGreatDoor.Own.ba_get
set_option linter.unusedVariables false
set_option linter.unusedSimpArgs false
-- FOREIGN rounds=0 making=1
-- IMPORT Derived.Test.YtlagllfbomaehaaGreatDoorShelf
def strings_Repeat.f (a0 : ByteArray) (a1 : Int) : Option (ByteArray) := if 0 ≤ a1 then (if a1 ≤ 100000 then (if a0.size ≤ 1000 then (some ⟨(Lib.repeatL a0.data.toList a1.toNat).toArray⟩) else none) else none) else none
theorem strings_Repeat.calls (a0 : ByteArray) (a1 : Int) (r : ByteArray) (w : World) (h : strings_Repeat.f a0 a1 = some r) :
  Calls Tryz.prog 33 #[.string a0, .int .i64 a1] w fun e w' => e = .returned (.string r) ∧ Below w.heap.size w w' := by
 unfold strings_Repeat.f at h
 by_cases h0 : 0 ≤ a1
 ·by_cases h1 : a1 ≤ 100000
  ·by_cases h2 : a0.size ≤ 1000
   ·rw [if_pos h0, if_pos h1, if_pos h2] at h
    obtain rfl := Option.some.inj h
    obtain ⟨n, rfl⟩ := Int.eq_ofNat_of_zero_le h0
    have hm : a0.size * n ≤ 1000 * 100000 := Nat.mul_le_mul h2 (by omega)
    exact Tryz.strings_Repeat a0 n w (by omega) (by omega)
   ·rw [if_pos h0, if_pos h1, if_neg h2] at h; exact absurd h (by simp)
  ·rw [if_pos h0, if_neg h1] at h; exact absurd h (by simp)
 ·rw [if_neg h0] at h; exact absurd h (by simp)
end Go.Proofs.YtlagllfbomaehaaGreatDoor.A
