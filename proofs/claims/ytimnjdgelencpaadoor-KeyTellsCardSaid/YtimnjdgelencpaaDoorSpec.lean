/- Plain words of layers 1 to 4: bytes in order, numbers as bytes, columns, keys; no program in sight. -/
import Derived.Test.YtimnjdgelencpaaDoorWords
namespace Go.Proofs.YtimnjdgelencpaaDoor.Spec
open Go
set_option linter.unusedSimpArgs false
set_option linter.unusedVariables false
abbrev Bytes := List UInt8
def Diff (s t : Bytes) : Prop := ∃ p x y s' t', s = p ++ x :: s' ∧ t = p ++ y :: t' ∧ x < y
theorem u8_ne {x y : UInt8} (h : x < y) : x ≠ y := fun e => by subst e; exact UInt8.lt_irrefl _ h
def Ord3 (c : Int) (s t : Bytes) : Prop := (c = 0 ∧ s = t) ∨ (c = -1 ∧ Diff s t) ∨ (c = 1 ∧ Diff t s)
def be : Nat → Nat → Bytes
 | 0, _ => []
 | k + 1, n => be k (n / 256) ++ [UInt8.ofNat (n % 256)]
theorem be_len : ∀ k n, (be k n).length = k
 | 0, _ => rfl
 | k + 1, n => by simp [be, be_len k]
def beval (l : Bytes) : Nat := l.foldl (fun n b => n * 256 + b.toNat) 0
theorem beval_snoc (l : Bytes) (b : UInt8) : beval (l ++ [b]) = beval l * 256 + b.toNat := by simp [beval]
theorem snoc_ind {P : Bytes → Prop} (h0 : P []) (h1 : ∀ l b, P l → P (l ++ [b])) (l : Bytes) : P l := by
 have h : ∀ r : Bytes, P r.reverse := by
  intro r
  induction r with
  | nil => exact h0
  | cons b r ih => rw [List.reverse_cons]; exact h1 _ _ ih
 have := h l.reverse
 rwa [List.reverse_reverse] at this
theorem beval_lt (l : Bytes) : beval l < 256 ^ l.length := by
 refine snoc_ind (P := fun l => beval l < 256 ^ l.length) (by decide) (fun l b ih => ?_) l
 rw [beval_snoc, List.length_append, List.length_singleton, Nat.pow_succ]
 have := b.toNat_lt
 omega
theorem be_beval (l : Bytes) : be l.length (beval l) = l := by
 refine snoc_ind (P := fun l => be l.length (beval l) = l) rfl (fun l b ih => ?_) l
 rw [beval_snoc, List.length_append, List.length_singleton]
 have hb := b.toNat_lt
 have e1 : (beval l * 256 + b.toNat) / 256 = beval l := by omega
 have e2 : (beval l * 256 + b.toNat) % 256 = b.toNat := by omega
 simp only [be, e1, e2, ih, UInt8.ofNat_toNat]
def wd (n : Nat) : Nat := if n < 256 ^ 3 then 3 else if n < 256 ^ 4 then 4 else if n < 256 ^ 5 then 5 else if n < 256 ^ 6 then 6 else if n < 256 ^ 7 then 7 else 8
theorem wd_le (n : Nat) : 3 ≤ wd n ∧ wd n ≤ 8 := by unfold wd; (repeat' split) <;> omega
theorem wd_lt (n : Nat) (h : n < 256 ^ 8) : n < 256 ^ wd n := by
 unfold wd; (repeat' split) <;> assumption
def vput (n : Nat) : Bytes :=
 if n ≤ 240 then [UInt8.ofNat n]
 else if n ≤ 2287 then [UInt8.ofNat (241 + (n - 240) / 256), UInt8.ofNat ((n - 240) % 256)]
 else if n ≤ 67823 then 249 :: be 2 (n - 2288)
 else UInt8.ofNat (247 + wd n) :: be (wd n) n
def more (c : UInt8) : Nat := if c.toNat ≤ 240 then 0 else if c.toNat ≤ 248 then 1 else if c.toNat = 249 then 2 else c.toNat - 247
def vval (c : UInt8) (r : Bytes) : Nat := if more c = 0 then c.toNat else if more c = 1 then 240 + (c.toNat - 241) * 256 + beval r else if more c = 2 then 2288 + beval r else beval r
def vget : Bytes → Nat × Nat × Nat
 | [] => (0, 0, 7)
 | c :: r => if r.length < more c then (0, 0, 7) else if vput (vval c (r.take (more c))) = c :: r.take (more c) then (vval c (r.take (more c)), 1 + more c, 0) else (0, 0, 3)
theorem more_le (c : UInt8) : more c ≤ 8 := by have := c.toNat_lt; unfold more; (repeat' split) <;> omega
theorem vval_lt (c : UInt8) (r : Bytes) (h : r.length = more c) : vval c r < 256 ^ 8 := by
 have hb := beval_lt r
 rw [h] at hb
 have hc := c.toNat_lt
 have hm := more_le c
 have hp : 256 ^ more c ≤ 256 ^ 8 := Nat.pow_le_pow_right (by decide) hm
 unfold vval
 split
 ·omega
 split
 ·next h1 => rw [h1] at hb; omega
 split
 ·next h1 => rw [h1] at hb; omega
 ·omega
theorem vget_ok {l : Bytes} {n k : Nat} (h : vget l = (n, k, 0)) : n < 256 ^ 8 ∧ vput n = l.take k ∧ 0 < k ∧ k ≤ l.length := by
 cases l with
 | nil => simp [vget] at h
 | cons c r =>
  simp only [vget] at h
  split at h
  ·exact absurd h (by simp)
  ·next hlen =>
   split at h
   ·next he =>
    simp only [Prod.mk.injEq] at h
    obtain ⟨rfl, rfl, _⟩ := h
    refine ⟨vval_lt _ _ (by rw [List.length_take]; omega), ?_, by omega, by simp; omega⟩
    rw [he, Nat.add_comm, List.take_succ_cons]
   ·exact absurd h (by simp)
def esc : Bytes → Bytes
 | [] => []
 | c :: l => if c = 0 then 0 :: 255 :: esc l else c :: esc l
def tget : Bytes → Bytes × Nat × Nat
 | [] => ([], 0, 7)
 | c :: l =>
  if c = 0 then
   match l with
   | [] => ([], 0, 7)
   | d :: r => if d = 1 then ([], 2, 0) else if d = 255 then (if (tget r).2.2 = 0 then (0 :: (tget r).1, (tget r).2.1 + 2, 0) else ([], 0, (tget r).2.2)) else ([], 0, 3)
  else if (tget l).2.2 = 0 then (c :: (tget l).1, (tget l).2.1 + 1, 0) else ([], 0, (tget l).2.2)
theorem tget_0 : tget [0] = ([], 0, 7) := by simp [tget]
theorem tget_01 (r : Bytes) : tget (0 :: 1 :: r) = ([], 2, 0) := by simp [tget]
theorem tget_0ff (r : Bytes) : tget (0 :: 255 :: r) = if (tget r).2.2 = 0 then (0 :: (tget r).1, (tget r).2.1 + 2, 0) else ([], 0, (tget r).2.2) := by simp [tget]
theorem tget_0x (d : UInt8) (r : Bytes) (h1 : d ≠ 1) (h2 : d ≠ 255) : tget (0 :: d :: r) = ([], 0, 3) := by simp [tget, h1, h2]
theorem tget_c (c : UInt8) (l : Bytes) (h : c ≠ 0) : tget (c :: l) = if (tget l).2.2 = 0 then (c :: (tget l).1, (tget l).2.1 + 1, 0) else ([], 0, (tget l).2.2) := by
 cases l <;> simp [tget, h]
theorem esc_0 (l : Bytes) : esc (0 :: l) = 0 :: 255 :: esc l := by simp [esc]
theorem esc_c (c : UInt8) (l : Bytes) (h : c ≠ 0) : esc (c :: l) = c :: esc l := by simp [esc, h]
theorem tget_ok : ∀ (n : Nat) (l : Bytes), l.length ≤ n → ∀ s k, tget l = (s, k, 0) → esc s ++ [0, 1] = l.take k ∧ 2 ≤ k ∧ k ≤ l.length := by
 intro n
 induction n with
 | zero =>
  intro l hl s k h
  obtain rfl : l = [] := List.eq_nil_of_length_eq_zero (by omega)
  simp [tget] at h
 | succ n ih =>
  intro l hl s k h
  cases l with
  | nil => simp [tget] at h
  | cons c l =>
   by_cases hc : c = 0
   ·subst hc
    cases l with
    | nil => simp [tget] at h
    | cons d r =>
     by_cases h1 : d = 1
     ·subst h1
      simp [tget] at h
      obtain ⟨rfl, rfl⟩ := h
      simp [esc]
     ·by_cases h2 : d = 255
      ·subst h2
       rw [tget_0ff] at h
       split at h
       ·next h0 =>
        simp only [Prod.mk.injEq] at h
        obtain ⟨rfl, rfl, _⟩ := h
        have := ih r (by simp at hl; omega) (tget r).1 (tget r).2.1 (by rw [← h0])
        obtain ⟨e, h3, h4⟩ := this
        refine ⟨?_, by omega, by simp; omega⟩
        simp only [esc, if_true, List.take_succ_cons, List.cons_append, e]
       ·next h0 => simp only [Prod.mk.injEq] at h; exact absurd h.2.2 h0
      ·simp [tget_0x d r h1 h2] at h
   ·rw [tget_c c l hc] at h
    split at h
    ·next h0 =>
     simp only [Prod.mk.injEq] at h
     obtain ⟨rfl, rfl, _⟩ := h
     obtain ⟨e, h3, h4⟩ := ih l (by simp at hl; omega) (tget l).1 (tget l).2.1 (by rw [← h0])
     refine ⟨?_, by omega, by simp; omega⟩
     simp only [esc, if_neg hc, List.take_succ_cons, List.cons_append, e]
    ·next h0 => simp only [Prod.mk.injEq] at h; exact absurd h.2.2 h0
def lcmp : Bytes → Bytes → Int
 | [], [] => 0
 | [], _ :: _ => -1
 | _ :: _, [] => 1
 | x :: a, y :: b => if x < y then -1 else if y < x then 1 else lcmp a b
theorem lcmp_eq : ∀ a b : Bytes, lcmp a b = 0 ↔ a = b
 | [], [] => by simp [lcmp]
 | [], _ :: _ => by simp [lcmp]
 | _ :: _, [] => by simp [lcmp]
 | x :: a, y :: b => by
  have ih := lcmp_eq a b
  by_cases h1 : x < y
  ·simp [lcmp, h1]; intro e; exact absurd e (u8_ne h1)
  ·by_cases h2 : y < x
   ·simp [lcmp, h1, h2]; intro e; exact absurd e.symm (u8_ne h2)
   ·obtain rfl : x = y := UInt8.le_antisymm (UInt8.not_lt.mp h2) (UInt8.not_lt.mp h1)
    simp [lcmp, UInt8.lt_irrefl, ih]
theorem esc_len (l : Bytes) : (esc l).length = l.length + l.count 0 := by
 induction l with
 | nil => rfl
 | cons c l ih =>
  by_cases h : c = 0
  ·subst h; simp [esc, ih]; omega
  ·simp [esc, h, ih]; omega
structure Cl where
 k : Int
 i : Int
 u : Int
 s : Bytes
deriving DecidableEq
def Cl.wf (c : Cl) : Prop := -9223372036854775808 ≤ c.i ∧ c.i ≤ 9223372036854775807 ∧ 0 ≤ c.u ∧ c.u ≤ 18446744073709551615
def Cl.right (c : Cl) : Bool := (c.k == 0 && c.i == 0 && c.u == 0 && c.s.isEmpty) || (c.k == 1 && c.i == 0 && decide (c.u ≤ 1) && c.s.isEmpty) || (c.k == 2 && c.u == 0 && c.s.isEmpty) || (c.k == 3 && c.i == 0 && c.s.isEmpty) || (c.k == 4 && c.i == 0 && c.u == 0)
def cput (c : Cl) : Bytes :=
 if c.k = 0 then [16] else if c.k = 1 then [UInt8.ofNat (32 + c.u.toNat)] else if c.k = 2 then 48 :: be 8 (c.i + 9223372036854775808).toNat else if c.k = 3 then 64 :: vput c.u.toNat else 80 :: (esc c.s ++ [0, 1])
def cget : Bytes → Cl × Nat × Nat
 | [] => (⟨0, 0, 0, []⟩, 0, 7)
 | c :: r =>
  if c = 16 then (⟨0, 0, 0, []⟩, 1, 0)
  else if c = 32 then (⟨1, 0, 0, []⟩, 1, 0)
  else if c = 33 then (⟨1, 0, 1, []⟩, 1, 0)
  else if c = 48 then (if r.length < 8 then (⟨0, 0, 0, []⟩, 0, 7) else (⟨2, (beval (r.take 8) : Int) - 9223372036854775808, 0, []⟩, 9, 0))
  else if c = 64 then (if (vget r).2.2 = 0 then (⟨3, 0, (vget r).1, []⟩, (vget r).2.1 + 1, 0) else (⟨0, 0, 0, []⟩, 0, (vget r).2.2))
  else if c = 80 then (if (tget r).2.2 = 0 then (⟨4, 0, 0, (tget r).1⟩, (tget r).2.1 + 1, 0) else (⟨0, 0, 0, []⟩, 0, (tget r).2.2))
  else (⟨0, 0, 0, []⟩, 0, 3)
theorem right_cases {c : Cl} (h : c.right = true) : (c = ⟨0, 0, 0, []⟩) ∨ (c = ⟨1, 0, c.u, []⟩ ∧ c.u ≤ 1) ∨ (c = ⟨2, c.i, 0, []⟩) ∨ (c = ⟨3, 0, c.u, []⟩) ∨ (c = ⟨4, 0, 0, c.s⟩) := by
 obtain ⟨k, i, u, s⟩ := c
 simp only [Cl.right, Bool.or_eq_true, Bool.and_eq_true, beq_iff_eq, decide_eq_true_eq, List.isEmpty_iff] at h
 rcases h with ((((⟨⟨⟨rfl, rfl⟩, rfl⟩, rfl⟩ | ⟨⟨⟨rfl, rfl⟩, h⟩, rfl⟩) | ⟨⟨rfl, rfl⟩, rfl⟩) | ⟨⟨rfl, rfl⟩, rfl⟩) | ⟨⟨rfl, rfl⟩, rfl⟩)
 ·exact .inl rfl
 ·exact .inr (.inl ⟨rfl, h⟩)
 ·exact .inr (.inr (.inl rfl))
 ·exact .inr (.inr (.inr (.inl rfl)))
 ·exact .inr (.inr (.inr (.inr rfl)))
theorem cget_48 (r : Bytes) : cget (48 :: r) = if r.length < 8 then (⟨0, 0, 0, []⟩, 0, 7) else (⟨2, (beval (r.take 8) : Int) - 9223372036854775808, 0, []⟩, 9, 0) := by simp [cget]
theorem cget_64 (r : Bytes) : cget (64 :: r) = if (vget r).2.2 = 0 then (⟨3, 0, (vget r).1, []⟩, (vget r).2.1 + 1, 0) else (⟨0, 0, 0, []⟩, 0, (vget r).2.2) := by simp [cget]
theorem cget_80 (r : Bytes) : cget (80 :: r) = if (tget r).2.2 = 0 then (⟨4, 0, 0, (tget r).1⟩, (tget r).2.1 + 1, 0) else (⟨0, 0, 0, []⟩, 0, (tget r).2.2) := by simp [cget]
theorem cput_2 (i u : Int) (s : Bytes) : cput ⟨2, i, u, s⟩ = 48 :: be 8 (i + 9223372036854775808).toNat := by simp [cput]
theorem cput_3 (i u : Int) (s : Bytes) : cput ⟨3, i, u, s⟩ = 64 :: vput u.toNat := by simp [cput]
theorem cput_4 (i u : Int) (s : Bytes) : cput ⟨4, i, u, s⟩ = 80 :: (esc s ++ [0, 1]) := by simp [cput]
theorem cput_pos (c : Cl) : 0 < (cput c).length := by unfold cput; (repeat' split) <;> simp
theorem cget_ok {l : Bytes} {c : Cl} {n : Nat} (h : cget l = (c, n, 0)) : c.right = true ∧ c.wf ∧ cput c = l.take n ∧ 0 < n ∧ n ≤ l.length := by
 cases l with
 | nil => simp [cget] at h
 | cons x r =>
  by_cases h16 : x = 16
  ·subst h16; simp [cget] at h; obtain ⟨rfl, rfl⟩ := h; refine ⟨by decide, by unfold Cl.wf; decide, by simp [cput], by omega, by simp⟩
  by_cases h32 : x = 32
  ·subst h32; simp [cget] at h; obtain ⟨rfl, rfl⟩ := h; refine ⟨by decide, by unfold Cl.wf; decide, by simp [cput], by omega, by simp⟩
  by_cases h33 : x = 33
  ·subst h33; simp [cget] at h; obtain ⟨rfl, rfl⟩ := h; refine ⟨by decide, by unfold Cl.wf; decide, by simp [cput], by omega, by simp⟩
  by_cases h48 : x = 48
  ·subst h48
   rw [cget_48] at h
   split at h
   ·simp at h
   ·next hl =>
    simp only [Prod.mk.injEq] at h
    obtain ⟨rfl, rfl, _⟩ := h
    have ht : (r.take 8).length = 8 := by rw [List.length_take]; omega
    have hb := beval_lt (r.take 8)
    rw [ht] at hb
    have he := be_beval (r.take 8)
    rw [ht] at he
    refine ⟨by simp [Cl.right], ⟨by show _ ≤ _; simp only; omega, by simp only; omega, by simp, by simp⟩, ?_, by omega, by simp; omega⟩
    rw [cput_2, List.take_succ_cons, show ((beval (r.take 8) : Int) - 9223372036854775808 + 9223372036854775808).toNat = beval (r.take 8) by omega, he]
  by_cases h64 : x = 64
  ·subst h64
   rw [cget_64] at h
   split at h
   ·next h0 =>
    simp only [Prod.mk.injEq] at h
    obtain ⟨rfl, rfl, _⟩ := h
    obtain ⟨h1, h2, h3, h4⟩ := vget_ok (l := r) (n := (vget r).1) (k := (vget r).2.1) (by rw [← h0])
    refine ⟨by simp [Cl.right], ⟨by simp, by simp, by simp, by simp only; omega⟩, ?_, by omega, by simp; omega⟩
    rw [cput_3, List.take_succ_cons, Int.toNat_natCast, h2]
   ·next h0 => simp only [Prod.mk.injEq] at h; exact absurd h.2.2 h0
  by_cases h80 : x = 80
  ·subst h80
   rw [cget_80] at h
   split at h
   ·next h0 =>
    simp only [Prod.mk.injEq] at h
    obtain ⟨rfl, rfl, _⟩ := h
    obtain ⟨h1, h2, h3⟩ := tget_ok r.length r (Nat.le_refl _) (tget r).1 (tget r).2.1 (by rw [← h0])
    refine ⟨by simp [Cl.right], ⟨by simp, by simp, by simp, by simp⟩, ?_, by omega, by simp; omega⟩
    rw [cput_4, List.take_succ_cons, h1]
   ·next h0 => simp only [Prod.mk.injEq] at h; exact absurd h.2.2 h0
  ·simp [cget, h16, h32, h33, h48, h64, h80] at h
def sgn (a b : Int) : Int := if a < b then -1 else if a > b then 1 else 0
def ccmp (a b : Cl) : Int := if sgn a.k b.k = 0 then (if sgn a.i b.i = 0 then (if sgn a.u b.u = 0 then lcmp a.s b.s else sgn a.u b.u) else sgn a.i b.i) else sgn a.k b.k
theorem sgn_self (a : Int) : sgn a a = 0 := by simp [sgn]
theorem sgn_zero {a b : Int} : sgn a b = 0 ↔ a = b := by unfold sgn; split <;> (try split) <;> omega
end Go.Proofs.YtimnjdgelencpaaDoor.Spec
