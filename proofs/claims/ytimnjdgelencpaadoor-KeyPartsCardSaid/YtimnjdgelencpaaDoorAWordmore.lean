-- Written by this session's drive.py: the print's program with contracts by hand among the functions. Not trusted: Lean checks it.
import Derived.Test.YtimnjdgelencpaaDoorAx0
namespace Go.Proofs.YtimnjdgelencpaaDoor.A
open Go.RowKit Go.Proofs.YtimnjdgelencpaaDoorW.PrintWords Go.Proofs.YtimnjdgelencpaaDoorW.PrintLast Go.Proofs.YtimnjdgelencpaaDoorW.PrintMore
attribute [local go_sem] max2_int min2_int max_two min_two max_three min_three max_four min_four   -- for this text's walks alone
attribute [local go_sem] Go.Proofs.YtimnjdgelencpaaDoor.Own.gtr_string Go.Proofs.YtimnjdgelencpaaDoor.Own.leq_string Go.Proofs.YtimnjdgelencpaaDoor.Own.geq_string Go.Proofs.YtimnjdgelencpaaDoor.Own.ba_get
set_option linter.unusedVariables false
set_option linter.unusedSimpArgs false

/-! ### word_more: function 62 -/
def word_more.f (a0 : Int) : Option (Int) := if a0 > 249 then (some (wrap64 ((wrap64 (a0)) - 247))) else (if a0 = 249 then (some ((0 + 1) + 1)) else (if a0 ≥ 241 then (some (0 + 1)) else (some 0)))
set_option maxHeartbeats 8000000 in
set_option maxRecDepth 100000 in
theorem word_more.calls (a0 : Int) (r : Int) (w : World) (h : word_more.f a0 = some r) :
    Calls Tryd.prog 62 #[.int .u8 a0] w fun e w' => e = .returned (.int .i64 r) ∧ Drawn0 w w' := by
  have H : (if a0 > 249 then (some (wrap64 ((wrap64 (a0)) - 247))) else (if a0 = 249 then (some ((0 + 1) + 1)) else (if a0 ≥ 241 then (some (0 + 1)) else (some 0)))) = some r := h
  clear h
  by_cases c2 : a0 > 249
  · rw [if_pos c2] at H
    have c2b0 : decide (249 < a0) = true := decide_eq_true c2
    clear c2
    obtain rfl := Option.some.inj H
    go_enter Tryd.func62, Tryd.ntmps62
    go_wp2
    go_ret
    exact ⟨by first | rfl | (simp; done) | (simp [*]; done), by repeat (first | exact Drawn0.refl _ | apply Drawn0.step)⟩
  · rw [if_neg c2] at H
    have c2b0 : decide (249 < a0) = false := decide_eq_false c2
    clear c2
    by_cases c3 : a0 = 249
    · rw [if_pos c3] at H
      have c3b0 : (a0 == 249) = true := beq_iff_eq.mpr c3
      have c3b1 : (a0 != 249) = false := bne_eq_false_iff_eq.mpr c3
      clear c3
      obtain rfl := Option.some.inj H
      go_enter Tryd.func62, Tryd.ntmps62
      go_wp2
      go_ret
      exact ⟨by first | rfl | (simp; done) | (simp [*]; done), by repeat (first | exact Drawn0.refl _ | apply Drawn0.step)⟩
    · rw [if_neg c3] at H
      have c3b0 : (a0 == 249) = false := beq_eq_false_iff_ne.mpr c3
      have c3b1 : (a0 != 249) = true := bne_iff_ne.mpr c3
      by_cases c4 : a0 ≥ 241
      · rw [if_pos c4] at H
        have c4b0 : decide (241 ≤ a0) = true := decide_eq_true c4
        clear c4
        obtain rfl := Option.some.inj H
        go_enter Tryd.func62, Tryd.ntmps62
        go_wp2
        go_ret
        exact ⟨by first | rfl | (simp; done) | (simp [*]; done), by repeat (first | exact Drawn0.refl _ | apply Drawn0.step)⟩
      · rw [if_neg c4] at H
        have c4b0 : decide (241 ≤ a0) = false := decide_eq_false c4
        clear c4
        obtain rfl := Option.some.inj H
        go_enter Tryd.func62, Tryd.ntmps62
        go_wp2
        go_ret
        exact ⟨by first | rfl | (simp; done) | (simp [*]; done), by repeat (first | exact Drawn0.refl _ | apply Drawn0.step)⟩

end Go.Proofs.YtimnjdgelencpaaDoor.A
