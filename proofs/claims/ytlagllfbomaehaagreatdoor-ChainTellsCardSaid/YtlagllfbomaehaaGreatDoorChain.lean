/- chain.May, chain.Pages: what they answer. Condition: a data's size is a number that an int holds; pages of at most 2000 bytes. -/
import Derived.Test.YtlagllfbomaehaaGreatDoorMay
namespace Go.Proofs.YtlagllfbomaehaaGreatDoor.A
open Go Go.RowKit Go.Proofs Go.Proofs.YtlagllfbomaehaaGreatDoorW Go.Proofs.YtlagllfbomaehaaGreatDoorW.PrintWords Go.Proofs.YtlagllfbomaehaaGreatDoor.Hand
open Go.Proofs.YtlagllfbomaehaaGreatDoorW.PrintLast Go.Proofs.YtlagllfbomaehaaGreatDoorW.PrintMore
attribute [local go_sem] max2_int min2_int max_two min_two
set_option linter.unusedVariables false
def fullB (next : Int) (n : Int) (room : Int) : Bool := if next ≠ 0 then decide (n = room) else decide (1 ≤ n ∧ n ≤ room)
set_option maxHeartbeats 1000000 in
theorem full_any (self next : Int) (data : ByteArray) (room : Int) (w : World) (hd : data.size ≤ 9223372036854775807) :
    Calls Tryz.prog 25 #[.agg #[.int .i64 self, .int .i64 next, .string data], .int .i64 room] w fun e w' => e = .returned (.bool (fullB next data.size room)) ∧ Below w.heap.size w w' := by
  unfold fullB
  by_cases h : next = 0
  · subst h
    rw [if_neg (by decide)]
    by_cases h1 : 1 ≤ (data.size : Int)
    · have b1 : decide ((1 : Int) ≤ (data.size : Int)) = true := decide_eq_true h1
      by_cases h2 : (data.size : Int) ≤ room
      · have b2 : decide ((data.size : Int) ≤ room) = true := decide_eq_true h2
        rw [decide_eq_true ⟨h1, h2⟩]
        go_enter Tryz.func25, Tryz.ntmps25
        go_wp2
        go_ret
        exact ⟨rfl, (Below.refl _ _).alloc (Nat.le_refl _) _⟩
      · have b2 : decide ((data.size : Int) ≤ room) = false := decide_eq_false h2
        rw [decide_eq_false (fun q => h2 q.2)]
        go_enter Tryz.func25, Tryz.ntmps25
        go_wp2
        go_ret
        exact ⟨rfl, (Below.refl _ _).alloc (Nat.le_refl _) _⟩
    · have b1 : decide ((1 : Int) ≤ (data.size : Int)) = false := decide_eq_false h1
      rw [decide_eq_false (fun q => h1 q.1)]
      go_enter Tryz.func25, Tryz.ntmps25
      go_wp2
      go_ret
      exact ⟨rfl, (Below.refl _ _).alloc (Nat.le_refl _) _⟩
  · have hb : (next != 0) = true := bne_iff_ne.mpr h
    rw [if_pos h]
    by_cases h1 : (data.size : Int) = room
    · have b1 : ((data.size : Int) == room) = true := beq_iff_eq.mpr h1
      rw [decide_eq_true h1]
      clear h1
      go_enter Tryz.func25, Tryz.ntmps25
      go_wp2
      go_ret
      exact ⟨rfl, (Below.refl _ _).alloc (Nat.le_refl _) _⟩
    · have b1 : ((data.size : Int) == room) = false := beq_eq_false_iff_ne.mpr h1
      rw [decide_eq_false h1]
      clear h1
      go_enter Tryz.func25, Tryz.ntmps25
      go_wp2
      go_ret
      exact ⟨rfl, (Below.refl _ _).alloc (Nat.le_refl _) _⟩
def mayB (self next n p : Int) : Bool := sizeB p && decide (1 ≤ self) && decide (self < 4096) && decide (0 ≤ next) && decide (next < 4096) && (next != self) && fullB next n (p - 16)
set_option maxHeartbeats 8000000 in
theorem may12_any (self next : Int) (data : ByteArray) (p : Int) (w : World) (hd : data.size ≤ 9223372036854775807) :
    Calls Tryz.prog 10 #[.agg #[.int .i64 self, .int .i64 next, .string data], .int .i64 p] w fun e w' => e = .returned (.bool (mayB self next data.size p)) ∧ Below w.heap.size w w' := by
  unfold mayB
  cases hs : sizeB p with
  | false =>
    simp only [Bool.false_and]
    go_enter Tryz.func10, Tryz.ntmps10
    go_wp2_with (first
      | (go_at_call 19; refine (size_any _ _).mono ?_; rintro e w1 ⟨rfl, hb1⟩; rw [hs]; obtain ⟨hc1, hf1⟩ := bcell hb1))
    go_ret
    exact ⟨rfl, below_step ((Below.refl w.heap.size w).alloc (Nat.le_refl _) _) hb1⟩
  | true =>
    have hp := sizeB_le hs
    have e16 : IntKind.i64.wrap (p - 16) = p - 16 := by rw [IntKind.wrap_i64]; omega
    by_cases c0 : 1 ≤ self
    rotate_left
    · have d0 : decide ((1 : Int) ≤ self) = false := decide_eq_false c0
      rw [d0]
      simp only [Bool.and_false, Bool.false_and]
      go_enter Tryz.func10, Tryz.ntmps10
      go_wp2_with (first
        | (go_at_call 19; refine (size_any _ _).mono ?_; rintro e w1 ⟨rfl, hb1⟩; rw [hs]; obtain ⟨hc1, hf1⟩ := bcell hb1))
      go_ret
      exact ⟨rfl, below_step ((Below.refl w.heap.size w).alloc (Nat.le_refl _) _) hb1⟩
    have d0 : decide ((1 : Int) ≤ self) = true := decide_eq_true c0
    by_cases c1 : self < 4096
    rotate_left
    · have d1 : decide (self < 4096) = false := decide_eq_false c1
      rw [d1]
      simp only [Bool.and_false, Bool.false_and]
      go_enter Tryz.func10, Tryz.ntmps10
      go_wp2_with (first
        | (go_at_call 19; refine (size_any _ _).mono ?_; rintro e w1 ⟨rfl, hb1⟩; rw [hs]; obtain ⟨hc1, hf1⟩ := bcell hb1))
      go_ret
      exact ⟨rfl, below_step ((Below.refl w.heap.size w).alloc (Nat.le_refl _) _) hb1⟩
    have d1 : decide (self < 4096) = true := decide_eq_true c1
    by_cases c2 : 0 ≤ next
    rotate_left
    · have d2 : decide ((0 : Int) ≤ next) = false := decide_eq_false c2
      rw [d2]
      simp only [Bool.and_false, Bool.false_and]
      go_enter Tryz.func10, Tryz.ntmps10
      go_wp2_with (first
        | (go_at_call 19; refine (size_any _ _).mono ?_; rintro e w1 ⟨rfl, hb1⟩; rw [hs]; obtain ⟨hc1, hf1⟩ := bcell hb1))
      go_ret
      exact ⟨rfl, below_step ((Below.refl w.heap.size w).alloc (Nat.le_refl _) _) hb1⟩
    have d2 : decide ((0 : Int) ≤ next) = true := decide_eq_true c2
    by_cases c3 : next < 4096
    rotate_left
    · have d3 : decide (next < 4096) = false := decide_eq_false c3
      rw [d3]
      simp only [Bool.and_false, Bool.false_and]
      go_enter Tryz.func10, Tryz.ntmps10
      go_wp2_with (first
        | (go_at_call 19; refine (size_any _ _).mono ?_; rintro e w1 ⟨rfl, hb1⟩; rw [hs]; obtain ⟨hc1, hf1⟩ := bcell hb1))
      go_ret
      exact ⟨rfl, below_step ((Below.refl w.heap.size w).alloc (Nat.le_refl _) _) hb1⟩
    have d3 : decide (next < 4096) = true := decide_eq_true c3
    by_cases c4 : next = self
    · have d4 : (next != self) = false := by simp [c4]
      rw [d4]
      simp only [Bool.and_false, Bool.false_and]
      clear c4
      go_enter Tryz.func10, Tryz.ntmps10
      go_wp2_with (first
        | (go_at_call 19; refine (size_any _ _).mono ?_; rintro e w1 ⟨rfl, hb1⟩; rw [hs]; obtain ⟨hc1, hf1⟩ := bcell hb1))
      go_ret
      exact ⟨rfl, below_step ((Below.refl w.heap.size w).alloc (Nat.le_refl _) _) hb1⟩
    have d4 : (next != self) = true := bne_iff_ne.mpr c4
    rw [d0, d1, d2, d3, d4]
    simp only [Bool.and_true, Bool.true_and]
    obtain ⟨q, hq⟩ : ∃ q, fullB next data.size (p - 16) = q := ⟨_, rfl⟩
    rw [hq]
    have hfull := hq
    clear hq
    go_enter Tryz.func10, Tryz.ntmps10
    go_wp2_with (first
      | (go_at_call 19; refine (size_any _ _).mono ?_; rintro e w1 ⟨rfl, hb1⟩; rw [hs]; obtain ⟨hc1, hf1⟩ := bcell hb1)
      | (go_at_call 25; refine (full_any _ _ _ _ _ hd).mono ?_; rintro e w2 ⟨rfl, hb2⟩; rw [hfull]))
    go_ret
    exact ⟨rfl, below_step (below_step ((Below.refl w.heap.size w).alloc (Nat.le_refl _) _) hb1) hb2⟩
def maxI (n : Int) : Int := if n < 0 then 0 else n
def minI (n : Int) : Int := if 1 < n then 1 else n
def pagesI (n p : Int) : Int := maxI n / (p - 16) + minI (maxI n % (p - 16))
set_option maxHeartbeats 4000000 in
theorem pages_any (n p : Int) (w : World) (hn : n ≤ 9223372036854775807) (h0 : 100 ≤ p) (h1 : p ≤ 2000) :
    Calls Tryz.prog 17 #[.int .i64 n, .int .i64 p] w fun e w' => e = .returned (.int .i64 (pagesI n p)) ∧ Below w.heap.size w w' := by
  have hm : (if n < 0 then 0 else n) = maxI n := rfl
  have m0 : 0 ≤ maxI n := by unfold maxI; split <;> omega
  have m1 : maxI n ≤ 9223372036854775807 := by unfold maxI; split <;> omega
  have hz : (if 1 < maxI n % (p - 16) then 1 else maxI n % (p - 16)) = minI (maxI n % (p - 16)) := rfl
  have z0 : 0 ≤ minI (maxI n % (p - 16)) := by have := Int.emod_nonneg (maxI n) (show p - 16 ≠ 0 by omega); unfold minI; split <;> omega
  have z1 : minI (maxI n % (p - 16)) ≤ 1 := by unfold minI; split <;> omega
  have d0 : 0 ≤ maxI n / (p - 16) := Int.ediv_nonneg m0 (by omega)
  have d1 : maxI n / (p - 16) ≤ 9223372036854775000 := by
    have : maxI n / (p - 16) * (p - 16) ≤ maxI n := Int.ediv_mul_le _ (by omega)
    have : maxI n / (p - 16) * 84 ≤ maxI n / (p - 16) * (p - 16) := Int.mul_le_mul_of_nonneg_left (by omega) d0
    omega
  obtain ⟨m, hmm⟩ : ∃ m, maxI n = m := ⟨_, rfl⟩
  have HP : Hid (pagesI n p = m / (p - 16) + minI (m % (p - 16))) := Lib.hid (by unfold pagesI; rw [hmm])
  rw [hmm] at hm m0 m1 hz z0 z1 d0 d1
  have t1 : m.tdiv (p - 16) = m / (p - 16) := Int.tdiv_eq_ediv_of_nonneg m0
  have t2 : m.tmod (p - 16) = m % (p - 16) := Int.tmod_eq_emod_of_nonneg m0
  obtain ⟨d, hd⟩ : ∃ d, m / (p - 16) = d := ⟨_, rfl⟩
  obtain ⟨z, hzz⟩ : ∃ z, minI (m % (p - 16)) = z := ⟨_, rfl⟩
  have HE : Hid (m / (p - 16) + minI (m % (p - 16)) = d + z) := Lib.hid (by rw [hd, hzz])
  rw [hd] at t1 d0 d1
  rw [hzz] at hz z0 z1
  have e1 : IntKind.i64.wrap d = d := by rw [IntKind.wrap_i64]; omega
  have e2 : IntKind.i64.wrap (d + z) = d + z := by rw [IntKind.wrap_i64]; omega
  have hne : ((p - 16) == 0) = false := beq_eq_false_iff_ne.mpr (by omega)
  clear hmm hd hzz
  go_enter Tryz.func17, Tryz.ntmps17
  go_wp2
  go_quiet (fail)
  go_wp2
  go_ret
  exact ⟨by rw [HP.out, HE.out]; rfl, pw_below_drewN (Below.refl _ _) _⟩
end Go.Proofs.YtlagllfbomaehaaGreatDoor.A
