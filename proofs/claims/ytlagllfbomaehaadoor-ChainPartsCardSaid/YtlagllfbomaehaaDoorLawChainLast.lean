/- withylaw12.ChainLast, of what the print says it computes, answers true. Condition: whole numbers in their kinds' ranges. -/
import Derived.Test.YtlagllfbomaehaaDoorPFixed
import Derived.Test.YtlagllfbomaehaaDoorAWithylaw12ChainLast
namespace Go.Proofs.YtlagllfbomaehaaDoor.A
open Go Go.RowKit Go.Proofs Go.Proofs.YtlagllfbomaehaaDoorW Go.Proofs.YtlagllfbomaehaaDoorW.PrintWords Go.Proofs.YtlagllfbomaehaaDoorW.PrintMore Go.Proofs.YtlagllfbomaehaaDoor.Hand
set_option linter.unusedSimpArgs false
set_option linter.unusedVariables false
theorem may_last (a k p : Int) (hp : sizeB p = true) (ha : 1 ≤ a ∧ a ≤ 4095) : mayB a 0 k p = decide (1 ≤ k ∧ k ≤ p - 16) := by
  rw [Bool.eq_iff_iff, mayB_iff, decide_eq_true_eq]
  have := sizeB_le hp
  constructor
  · intro h; omega
  · intro h; exact ⟨hp, by omega, by omega, by omega, by omega, by omega, .inr (by omega)⟩
theorem may_mid (a b k p : Int) (hp : sizeB p = true) (ha : 1 ≤ a ∧ a ≤ 4095) (hb : 1 ≤ b ∧ b ≤ 4095) : mayB a b k p = (decide (k = p - 16) && (a != b)) := by
  rw [Bool.eq_iff_iff, mayB_iff, Bool.and_eq_true, decide_eq_true_eq, bne_iff_ne]
  have := sizeB_le hp
  constructor
  · intro h; omega
  · intro h; exact ⟨hp, by omega, by omega, by omega, by omega, by omega, .inl (by omega)⟩
theorem may_no (p : Int) (hp : ¬ sizeB p = true) (a b n : Int) : mayB a b n p = false := by
  rw [Bool.eq_false_iff]; intro h; exact hp (mayB_iff.1 h).1
theorem withylaw12_ChainLast.ev (p n x y : Int) (hp0 : -9223372036854775808 ≤ p ∧ p ≤ 9223372036854775807) (hn : 0 ≤ n ∧ n ≤ 65535) (hx : 0 ≤ x ∧ x ≤ 65535) (hy : 0 ≤ y ∧ y ≤ 65535) : Ev (fun k => withylaw12_ChainLast.f k p n x y) true := by
  unfold withylaw12_ChainLast.f
  refine evbind (ev_const (ref_Size p)) ?_
  by_cases hp : sizeB p = true
  · have hp2 := sizeB_le hp
    refine evpos hp ?_
    rw [w64 (n := p + 2) (by omega), w64 (n := n) (by omega), w64 (n := x) (by omega), w64 (n := y) (by omega), w64 (n := p - 16) (by omega), Int.tmod_eq_emod_of_nonneg hn.1, Int.tmod_eq_emod_of_nonneg hx.1, Int.tmod_eq_emod_of_nonneg hy.1]
    have k0 := Int.emod_nonneg n (show p + 2 ≠ 0 by omega)
    have k1 := Int.emod_lt_of_pos n (show 0 < p + 2 by omega)
    have a0 := Int.emod_nonneg x (show (4095 : Int) ≠ 0 by omega)
    have a1 := Int.emod_lt_of_pos x (show (0 : Int) < 4095 by omega)
    have b0 := Int.emod_nonneg y (show (4095 : Int) ≠ 0 by omega)
    have b1 := Int.emod_lt_of_pos y (show (0 : Int) < 4095 by omega)
    rw [w64 (n := 1 + x % 4095) (by omega), w64 (n := 1 + y % 4095) (by omega)]
    generalize n % (p + 2) = k at k0 k1 ⊢
    obtain ⟨a, ha⟩ : ∃ a, 1 + x % 4095 = a := ⟨_, rfl⟩
    obtain ⟨b, hb⟩ : ∃ b, 1 + y % 4095 = b := ⟨_, rfl⟩
    rw [ha, hb]
    refine evneg (by omega) (evbind (withyref01_Repeat.ev 5 k (by omega)) ?_)
    have hz := rep_size 5 k.toNat
    have hzk : (((strOfNums (List.replicate k.toNat 5)).size : Nat) : Int) = k := by omega
    have m1 := chain_May.ev a 0 (strOfNums (List.replicate k.toNat 5)) p (by omega)
    have m2 := chain_May.ev a b (strOfNums (List.replicate k.toNat 5)) p (by omega)
    rw [hzk, may_last a k p hp (by omega)] at m1
    rw [hzk, may_mid a b k p hp (by omega) (by omega)] at m2
    refine evbind (ev_const m1) (evbind (ev_const m2) ?_)
    by_cases c1 : k ≥ 1
    · refine evpos c1 (evpos ?_ ?_)
      · rw [beq_iff_eq, decide_eq_decide]; omega
      · by_cases c2 : k = p - 16
        · refine evpos c2 (evpos ?_ (evbind withylaw12_fixed.ev (Ev.now _)))
          rw [decide_eq_true c2, Bool.true_and, beq_iff_eq]
        · refine evneg c2 (evpos ?_ (evbind withylaw12_fixed.ev (Ev.now _)))
          rw [decide_eq_false c2]; rfl
    · refine evneg c1 (evpos ?_ ?_)
      · rw [decide_eq_false (by omega)]; rfl
      · by_cases c2 : k = p - 16
        · refine evpos c2 (evpos ?_ (evbind withylaw12_fixed.ev (Ev.now _)))
          rw [decide_eq_true c2, Bool.true_and, beq_iff_eq]
        · refine evneg c2 (evpos ?_ (evbind withylaw12_fixed.ev (Ev.now _)))
          rw [decide_eq_false c2]; rfl
  · refine evneg hp (evbind (ev_const (chain_May.ev 1 0 ⟨#[120]⟩ p (by decide))) ?_)
    rw [may_no p hp]
    exact evneg (by decide) (evbind withylaw12_fixed.ev (Ev.now _))
end Go.Proofs.YtlagllfbomaehaaDoor.A
