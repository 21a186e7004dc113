/- The sum of bytes (a register of 32 bits, eight shifts a byte), by a table and without it: the two are one. No condition but that numbers fit. -/
import Derived.KernelRfl
namespace Go.Proofs.YtlagllfbomaehaaGreatDoor.Crc
def s1 (r : Nat) : Nat := if r % 2 = 1 then (r / 2) ^^^ 2197175160 else r / 2
def s8 (r : Nat) : Nat := s1 (s1 (s1 (s1 (s1 (s1 (s1 (s1 r)))))))
def one (r b : Nat) : Nat := s8 (r % 256 ^^^ b) ^^^ (r / 256)
def run (r : Nat) (l : List UInt8) : Nat := l.foldl (fun r b => one r b.toNat) r
def sum (l : List UInt8) : Nat := 4294967295 - run 4294967295 l
theorem s1_lt {r : Nat} (h : r < 4294967296) : s1 r < 4294967296 := by
  unfold s1
  split
  · exact Nat.xor_lt_two_pow (n := 32) (by omega) (by omega)
  · omega
theorem s8_lt {r : Nat} (h : r < 4294967296) : s8 r < 4294967296 := by
  unfold s8
  exact s1_lt (s1_lt (s1_lt (s1_lt (s1_lt (s1_lt (s1_lt (s1_lt h)))))))
theorem one_lt {r b : Nat} (h : r < 4294967296) (hb : b < 256) : one r b < 4294967296 := by
  unfold one
  have h1 : r % 256 ^^^ b < 256 := Nat.xor_lt_two_pow (n := 8) (by omega) hb
  exact Nat.xor_lt_two_pow (n := 32) (s8_lt (by omega)) (by omega)
theorem run_lt {r : Nat} (l : List UInt8) (h : r < 4294967296) : run r l < 4294967296 := by
  induction l generalizing r with
  | nil => exact h
  | cons b l ih => exact ih (one_lt h b.toNat_lt)
theorem run_snoc (r : Nat) (l : List UInt8) (b : UInt8) : run r (l ++ [b]) = one (run r l) b.toNat := by
  unfold run; rw [List.foldl_append]; rfl
theorem sum_lt (l : List UInt8) : sum l < 4294967296 := by unfold sum; omega
theorem s1_two (q : Nat) : s1 (2 * q) = q := by unfold s1; rw [if_neg (by omega)]; omega
theorem s1_xor (x y : Nat) : s1 (x ^^^ y) = s1 x ^^^ s1 y := by
  have hm : (x ^^^ y) % 2 = (x % 2 + y % 2) % 2 := by
    rw [show (x ^^^ y) % 2 = (x ^^^ y) % 2 ^ 1 from rfl, Nat.xor_mod_two_pow]
    rcases Nat.mod_two_eq_zero_or_one x with h1 | h1 <;> rcases Nat.mod_two_eq_zero_or_one y with h2 | h2 <;> simp [h1, h2]
  have hd : (x ^^^ y) / 2 = x / 2 ^^^ y / 2 := by
    have := Nat.shiftRight_xor_distrib (a := x) (b := y) (i := 1)
    simpa [Nat.shiftRight_eq_div_pow] using this
  unfold s1
  rw [hm, hd]
  rcases Nat.mod_two_eq_zero_or_one x with h1 | h1 <;> rcases Nat.mod_two_eq_zero_or_one y with h2 | h2 <;> simp [h1, h2]
  all_goals
    apply Nat.eq_of_testBit_eq
    intro i
    simp only [Nat.testBit_xor]
    cases (x / 2).testBit i <;> cases (y / 2).testBit i <;> cases Nat.testBit 2197175160 i <;> rfl
theorem s8_xor (x y : Nat) : s8 (x ^^^ y) = s8 x ^^^ s8 y := by unfold s8; simp only [s1_xor]
theorem s8_high (q : Nat) : s8 (256 * q) = q := by
  unfold s8
  rw [show 256 * q = 2 * (2 * (2 * (2 * (2 * (2 * (2 * (2 * q))))))) from by omega]
  simp only [s1_two]
theorem split_byte (r : Nat) : r = 256 * (r / 256) ^^^ r % 256 := by
  have h := Nat.two_pow_add_eq_or_of_lt (i := 8) (b := r % 256) (by omega) (r / 256)
  have h2 : 256 * (r / 256) ^^^ r % 256 = 2 ^ 8 * (r / 256) ||| r % 256 := by
    apply Nat.eq_of_testBit_eq
    intro i
    rw [Nat.testBit_xor, Nat.testBit_or, show (256 : Nat) = 2 ^ 8 from rfl, Nat.testBit_two_pow_mul, Nat.testBit_mod_two_pow]
    by_cases hi : i < 8
    · simp [hi, show ¬ 8 ≤ i by omega]
    · simp [hi]
  rw [h2, ← h]; exact (Nat.div_add_mod r 256).symm
theorem one_plain (r b : Nat) : one r b = s8 (r ^^^ b) := by
  unfold one
  conv => rhs; rw [split_byte r, Nat.xor_assoc, s8_xor, s8_high]
  rw [Nat.xor_comm]
theorem not_sub {r : Nat} (h : r < 4294967296) : r ^^^ 4294967295 = 4294967295 - r := by
  have := BitVec.toNat_not (x := BitVec.ofNat 32 r)
  have e : (~~~ (BitVec.ofNat 32 r)) = BitVec.ofNat 32 r ^^^ BitVec.allOnes 32 := by rw [BitVec.xor_allOnes]
  rw [e, BitVec.toNat_xor] at this
  simpa [Nat.mod_eq_of_lt h] using this
end Go.Proofs.YtlagllfbomaehaaGreatDoor.Crc
