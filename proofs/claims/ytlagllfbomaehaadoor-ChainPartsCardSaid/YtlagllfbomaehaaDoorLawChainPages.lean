/- withylaw12.ChainPages, of what the print says it computes, answers true. Condition: whole numbers in their kinds' ranges. -/
import Derived.Test.YtlagllfbomaehaaDoorPFixed
import Derived.Test.YtlagllfbomaehaaDoorAWithylaw12ChainPages
namespace Go.Proofs.YtlagllfbomaehaaDoor.A
open Go Go.RowKit Go.Proofs Go.Proofs.YtlagllfbomaehaaDoorW Go.Proofs.YtlagllfbomaehaaDoorW.PrintWords Go.Proofs.YtlagllfbomaehaaDoorW.PrintMore Go.Proofs.YtlagllfbomaehaaDoor.Hand
set_option linter.unusedSimpArgs false
set_option linter.unusedVariables false
/-- How many pages: the least number of them that have room. -/
theorem pages_char (n p : Int) (h0 : 0 ≤ n) (hr : 100 ≤ p) : 0 ≤ pagesI n p ∧ n ≤ pagesI n p * (p - 16) ∧ (n = 0 → pagesI n p = 0) ∧ (0 < n → (pagesI n p - 1) * (p - 16) < n) := by
  unfold pagesI maxI minI
  rw [if_neg (by omega)]
  have hr0 : 0 < p - 16 := by omega
  generalize p - 16 = r at hr0
  have e := Int.mul_ediv_add_emod n r
  have m0 := Int.emod_nonneg n (show r ≠ 0 by omega)
  have m1 := Int.emod_lt_of_pos n hr0
  have d0 := Int.ediv_nonneg h0 (show 0 ≤ r by omega)
  generalize n / r = q at e d0 ⊢
  generalize n % r = m at e m0 m1 ⊢
  by_cases c : 1 < m
  · rw [if_pos c]
    refine ⟨by omega, ?_, ?_, ?_⟩
    · rw [Int.add_mul]; rw [Int.mul_comm q r]; omega
    · intro hn; exfalso
      have : r * q ≥ 0 := Int.mul_nonneg (by omega) d0
      omega
    · intro _; rw [show q + 1 - 1 = q from by omega, Int.mul_comm q r]; omega
  · rw [if_neg c]
    rcases (show m = 0 ∨ m = 1 by omega) with rfl | rfl
    · refine ⟨by omega, ?_, ?_, ?_⟩
      · rw [Int.add_zero, Int.mul_comm q r]; omega
      · intro hn
        have h1 : r * q = 0 := by omega
        rcases Int.mul_eq_zero.1 h1 with h | h
        · omega
        · omega
      · intro hn
        rw [Int.add_zero, Int.sub_mul, Int.mul_comm q r]; omega
    · refine ⟨by omega, ?_, ?_, ?_⟩
      · rw [Int.add_mul, Int.mul_comm q r]; omega
      · intro hn; exfalso
        have : r * q ≥ 0 := Int.mul_nonneg (by omega) d0
        omega
      · intro _; rw [show q + 1 - 1 = q from by omega, Int.mul_comm q r]; omega
/-- What is so often less is fewer. -/
theorem mul_lt_of {a b r : Int} (hr : 0 < r) (h : a * r < b * r) : a < b := Int.lt_of_mul_lt_mul_right h (by omega)
theorem pages_le {n p k : Int} (h0 : 0 ≤ n) (hp : 100 ≤ p) (hk : 0 ≤ k) (h : n ≤ k * (p - 16)) : pagesI n p ≤ k := by
  obtain ⟨c0, c1, c2, c3⟩ := pages_char n p h0 hp
  rcases (show n = 0 ∨ 0 < n by omega) with h1 | h1
  · rw [c2 h1]; exact hk
  · have := mul_lt_of (show 0 < p - 16 by omega) (Int.lt_of_lt_of_le (c3 h1) h)
    omega
theorem pages_eq {n p k : Int} (h0 : 0 < n) (hp : 100 ≤ p) (h1 : n ≤ k * (p - 16)) (h2 : (k - 1) * (p - 16) < n) : pagesI n p = k := by
  obtain ⟨c0, c1, c2, c3⟩ := pages_char n p (by omega) hp
  have r0 : 0 < p - 16 := by omega
  have d1 := mul_lt_of r0 (Int.lt_of_lt_of_le (c3 h0) h1)
  have d2 := mul_lt_of r0 (Int.lt_of_lt_of_le h2 c1)
  omega
theorem pages_j0 (a b p : Int) (hp : sizeB p = true) (ha : 0 ≤ a ∧ a < 1048576) (hb : 0 ≤ b ∧ b < 1048576) (m : Int) (hm : (a % (p - 16) = 0 ∧ m = 1) ∨ (a % (p - 16) ≠ 0 ∧ m = 0)) :
    Ev (fun k => withylaw12_ChainPages.j0 k p a b (pagesI a p) (pagesI b p) m) true := by
  have hp2 := sizeB_le hp
  have r0 : 0 < p - 16 := by omega
  obtain ⟨a0, a1, a2, a3⟩ := pages_char a p ha.1 (by omega)
  obtain ⟨b0, b1, b2, b3⟩ := pages_char b p hb.1 (by omega)
  have hab := pages_char (a + b) p (by omega) (by omega)
  obtain ⟨s0, s1, s2, s3⟩ := hab
  have xr : pagesI a p * (p - 16) ≤ a + (p - 16) := by
    rcases (show a = 0 ∨ 0 < a by omega) with h | h
    · rw [a2 h]; omega
    · have := a3 h; rw [Int.sub_mul] at this; omega
  have xr0 : 0 ≤ pagesI a p * (p - 16) := Int.mul_nonneg a0 (by omega)
  have x1r : (pagesI a p - 1) * (p - 16) = pagesI a p * (p - 16) - (p - 16) := by rw [Int.sub_mul]; omega
  have xle : pagesI a p ≤ 1048576 := by
    have : pagesI a p * 1 ≤ pagesI a p * (p - 16) := Int.mul_le_mul_of_nonneg_left (by omega) a0
    rcases (show a = 0 ∨ 0 < a by omega) with h | h
    · rw [a2 h]; omega
    · have h2 := a3 h
      have : (pagesI a p - 1) * 1 ≤ (pagesI a p - 1) * (p - 16) := Int.mul_le_mul_of_nonneg_left (by omega) (by
        rcases (show pagesI a p = 0 ∨ 1 ≤ pagesI a p by omega) with q | q
        · rw [q] at a1; omega
        · omega)
      omega
  have yle : pagesI b p ≤ 1048576 := by
    rcases (show b = 0 ∨ 0 < b by omega) with h | h
    · rw [b2 h]; omega
    · have h2 := b3 h
      have : (pagesI b p - 1) * 1 ≤ (pagesI b p - 1) * (p - 16) := Int.mul_le_mul_of_nonneg_left (by omega) (by
        rcases (show pagesI b p = 0 ∨ 1 ≤ pagesI b p by omega) with q | q
        · rw [q] at b1; omega
        · omega)
      omega
  have both_le : pagesI (a + b) p ≤ pagesI a p + pagesI b p := pages_le (by omega) (by omega) (by omega) (by rw [Int.add_mul]; omega)
  have le_both1 : pagesI a p ≤ pagesI (a + b) p := pages_le ha.1 (by omega) s0 (by omega)
  have le_both2 : pagesI b p ≤ pagesI (a + b) p := pages_le hb.1 (by omega) s0 (by omega)
  have hmore : pagesI (a + 1) p = pagesI a p + m := by
    rcases hm with ⟨h, rfl⟩ | ⟨h, rfl⟩
    · have e := Int.mul_ediv_add_emod a (p - 16)
      rw [h, Int.add_zero] at e
      have d0 := Int.ediv_nonneg ha.1 (show 0 ≤ p - 16 by omega)
      generalize a / (p - 16) = q at e d0
      have hx : pagesI a p = q := by
        rcases (show a = 0 ∨ 0 < a by omega) with h1 | h1
        · have : (p - 16) * q = 0 := by omega
          rcases Int.mul_eq_zero.1 this with h2 | h2
          · omega
          · rw [a2 h1, h2]
        · exact pages_eq h1 (by omega) (by rw [Int.mul_comm]; omega) (by rw [Int.sub_mul, Int.mul_comm]; omega)
      rw [hx]
      exact pages_eq (by omega) (by omega) (by rw [Int.add_mul, Int.mul_comm]; omega) (by rw [show q + 1 - 1 = q by omega, Int.mul_comm]; omega)
    · have hpos : 0 < a := by
        rcases (show a = 0 ∨ 0 < a by omega) with h1 | h1
        · rw [h1] at h; simp at h
        · exact h1
      have hne : a ≠ pagesI a p * (p - 16) := by
        intro h1; apply h; rw [h1]; exact Int.mul_emod_left _ _
      rw [Int.add_zero]
      exact pages_eq (by omega) (by omega) (by omega) (by have := a3 hpos; omega)
  refine Ev.step (fun k => withylaw12_ChainPages.j0.eq_2 ..) ?_
  rw [w64 (n := a + b) (by omega), w64 (n := a + 1) (by omega), w64 (n := -a) (by omega), w64 (n := p - 16) (by omega), w64 (n := pagesI a p * (p - 16)) (by omega), w64 (n := pagesI a p - 1) (by omega), w64 (n := (pagesI a p - 1) * (p - 16)) (by omega), w64 (n := pagesI a p + pagesI b p) (by omega), w64 (n := pagesI a p + m) (by omega)]
  refine evbind (ev_const (chain_Pages.ev (a + b) p (by omega) (by omega) (by omega))) ?_
  refine evbind (ev_const (chain_Pages.ev (a + 1) p (by omega) (by omega) (by omega))) ?_
  refine evpos hmore (evpos both_le (evpos ?_ ?_))
  · unfold mx; split <;> omega
  refine evbind (ev_const (chain_Pages.ev (-a) p (by omega) (by omega) (by omega))) ?_
  have hneg : pagesI (-a) p = 0 := by
    have e : maxI (-a) = 0 := by unfold maxI; split <;> omega
    unfold pagesI; rw [e]; simp [minI]
  refine evpos hneg (evpos (by omega) (evpos ?_ (evbind withylaw12_fixed.ev (Ev.now _))))
  rw [x1r]
  rcases (show a = 0 ∨ 0 < a by omega) with h | h
  · rw [a2 h]; unfold mx; split <;> omega
  · have := a3 h; rw [x1r] at this; unfold mx; split <;> omega
theorem withylaw12_ChainPages.ev (n m p : Int) (hn : 0 ≤ n ∧ n ≤ 4294967295) (hm : 0 ≤ m ∧ m ≤ 4294967295) : Ev (fun k => withylaw12_ChainPages.f k n m p) true := by
  unfold withylaw12_ChainPages.f
  refine evbind (ev_const (ref_Size p)) ?_
  by_cases hp : sizeB p = true
  · have hp2 := sizeB_le hp
    have a0 := Int.emod_nonneg n (show (1048576 : Int) ≠ 0 by omega)
    have a1 := Int.emod_lt_of_pos n (show (0 : Int) < 1048576 by omega)
    have b0 := Int.emod_nonneg m (show (1048576 : Int) ≠ 0 by omega)
    have b1 := Int.emod_lt_of_pos m (show (0 : Int) < 1048576 by omega)
    rw [w64 (n := n) (by omega), w64 (n := m) (by omega), w64 (n := p - 16) (by omega), Int.tmod_eq_emod_of_nonneg hn.1, Int.tmod_eq_emod_of_nonneg hm.1]
    generalize n % 1048576 = a at a0 a1 ⊢
    generalize m % 1048576 = b at b0 b1 ⊢
    rw [Int.tmod_eq_emod_of_nonneg a0]
    refine evpos hp (evbind (ev_const (chain_Pages.ev a p (by omega) (by omega) (by omega))) (evbind (ev_const (chain_Pages.ev b p (by omega) (by omega) (by omega))) (evneg (by omega) ?_)))
    by_cases c : a % (p - 16) = 0
    · exact evpos c (pages_j0 a b p hp ⟨a0, a1⟩ ⟨b0, b1⟩ 1 (.inl ⟨c, rfl⟩))
    · exact evneg c (pages_j0 a b p hp ⟨a0, a1⟩ ⟨b0, b1⟩ 0 (.inr ⟨c, rfl⟩))
  · exact evneg hp (evbind withylaw12_fixed.ev (Ev.now _))
end Go.Proofs.YtlagllfbomaehaaDoor.A
