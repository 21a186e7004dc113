-- Written by this session's drive.py: the print's program with contracts by hand among the functions. Not trusted: Lean checks it.
import Derived.Test.YtlagllfbomaehaaGreatDoorAx0
import Derived.Test.YtlagllfbomaehaaGreatDoorSeal
namespace Go.Proofs.YtlagllfbomaehaaGreatDoor.A
open Go.RowKit Go.Proofs.YtlagllfbomaehaaGreatDoorW.PrintWords Go.Proofs.YtlagllfbomaehaaGreatDoorW.PrintLast Go.Proofs.YtlagllfbomaehaaGreatDoorW.PrintMore
attribute [local go_sem] max2_int min2_int max_two min_two max_three min_three max_four min_four   -- for this text's walks alone
attribute [local go_sem] Go.Proofs.YtlagllfbomaehaaGreatDoor.Own.gtr_string Go.Proofs.YtlagllfbomaehaaGreatDoor.Own.leq_string Go.Proofs.YtlagllfbomaehaaGreatDoor.Own.geq_string Go.Proofs.YtlagllfbomaehaaGreatDoor.Own.ba_get
set_option linter.unusedVariables false
set_option linter.unusedSimpArgs false
-- FOREIGN rounds=1 making=1
-- IMPORT Derived.Test.YtlagllfbomaehaaGreatDoorSeal
def head_Seal.f (k : Nat) (a0_0 : Int) (a0_1 : Int) (a0_2 : Int) (a0_3 : Int) (a0_4 : Int) (a1 : ByteArray) (a2 : Int) : Option (ByteArray × Int) := sealF k a0_0 a0_1 a0_2 a0_3 a0_4 a1 a2
theorem head_Seal.calls (k : Nat) (a0_0 : Int) (a0_1 : Int) (a0_2 : Int) (a0_3 : Int) (a0_4 : Int) (a1 : ByteArray) (a2 : Int) (r1 : ByteArray) (r2 : Int) (w : World) (h : head_Seal.f k a0_0 a0_1 a0_2 a0_3 a0_4 a1 a2 = some (r1, r2)) :
  Calls Tryz.prog 20 #[.agg #[.int .i64 a0_0, .int .i64 a0_1, .int .i64 a0_2, .int .i64 a0_3, .int .i64 a0_4], .string a1, .int .i64 a2] w fun e w' => e = .returned (.tuple #[.string r1, .int .i64 r2]) ∧ Below w.heap.size w w' :=
 sealF_calls k _ _ _ _ _ _ _ _ _ w h
end Go.Proofs.YtlagllfbomaehaaGreatDoor.A
