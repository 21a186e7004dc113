-- Written by this session's drive.py: the print's program with contracts by hand among the functions. Not trusted: Lean checks it.
import Derived.Test.YtimnjdgelencpaaDoorAx0
import Derived.Test.YtimnjdgelencpaaDoorAG1
import Derived.Test.YtimnjdgelencpaaDoorRead
namespace Go.Proofs.YtimnjdgelencpaaDoor.A
open Go.RowKit Go.Proofs.YtimnjdgelencpaaDoorW.PrintWords Go.Proofs.YtimnjdgelencpaaDoorW.PrintLast Go.Proofs.YtimnjdgelencpaaDoorW.PrintMore
attribute [local go_sem] max2_int min2_int max_two min_two max_three min_three max_four min_four   -- for this text's walks alone
attribute [local go_sem] Go.Proofs.YtimnjdgelencpaaDoor.Own.gtr_string Go.Proofs.YtimnjdgelencpaaDoor.Own.leq_string Go.Proofs.YtimnjdgelencpaaDoor.Own.geq_string Go.Proofs.YtimnjdgelencpaaDoor.Own.ba_get
set_option linter.unusedVariables false
set_option linter.unusedSimpArgs false
-- FOREIGN rounds=1 making=1
-- IMPORT Derived.Test.YtimnjdgelencpaaDoorRead
def key_read.f (k : Nat) (s : ByteArray) : Option (List S24 × List Int × Int) :=
 if s.size ≤ 999999 then (key_read.it k s 0).bind fun xs => (some (key_read.r s xs)) else none
theorem key_read.calls (k : Nat) (a0 : ByteArray) (r1 : List S24) (r2 : List Int) (r3 : Int) (w : World) (h : key_read.f k a0 = some (r1, r2, r3)) :
  Calls Tryd.prog 52 #[.string a0] w fun e w' => ∃ v0_ v1_ : Value, e = .returned (.tuple #[v0_, v1_, .int .i64 r3]) ∧ Kd.R k24 24 w' w.heap.size (fun _ => True) v0_ r1 ∧ Kd.R (Kd.int .i64) 3 w' w.heap.size (fun _ => True) v1_ r2 ∧ Below w.heap.size w w' := by
 unfold key_read.f at h
 by_cases hs : a0.size ≤ 999999
 ·rw [if_pos hs] at h
  obtain ⟨xs, hx, h⟩ := Option.bind_eq_some_iff.mp h
  have hb := (it_bounds a0 k 0 xs (Int.le_refl _) (by omega) hx).1
  have hr := (callsIn_wide.1 (read_in a0 (by omega) xs k hx (by omega) w))
  rw [Option.some.inj h] at hr
  exact hr.mono fun e w' hp => hp
 ·rw [if_neg hs] at h
  exact absurd h (by simp)
end Go.Proofs.YtimnjdgelencpaaDoor.A
