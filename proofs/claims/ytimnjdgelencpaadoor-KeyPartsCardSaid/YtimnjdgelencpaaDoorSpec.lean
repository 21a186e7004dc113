/- Plain words of layers 1 to 4: bytes in order, numbers as bytes, columns, keys; no program in sight. -/
import Derived.Test.YtimnjdgelencpaaDoorWords
namespace Go.Proofs.YtimnjdgelencpaaDoor.Spec
open Go
set_option linter.unusedSimpArgs false
set_option linter.unusedVariables false

abbrev Bytes := List UInt8

/-! ### 1. two texts that part at a byte -/
def Diff (s t : Bytes) : Prop := ∃ p x y s' t', s = p ++ x :: s' ∧ t = p ++ y :: t' ∧ x < y
theorem Diff.app {s t : Bytes} (h : Diff s t) (u v : Bytes) : Diff (s ++ u) (t ++ v) := by
  obtain ⟨p, x, y, s', t', rfl, rfl, hx⟩ := h
  exact ⟨p, x, y, s' ++ u, t' ++ v, by simp, by simp, hx⟩
theorem Diff.pre {s t : Bytes} (h : Diff s t) (q : Bytes) : Diff (q ++ s) (q ++ t) := by
  obtain ⟨p, x, y, s', t', rfl, rfl, hx⟩ := h
  exact ⟨q ++ p, x, y, s', t', by simp, by simp, hx⟩
theorem Diff.cons {s t : Bytes} (h : Diff s t) (c : UInt8) : Diff (c :: s) (c :: t) := h.pre [c]
theorem Diff.head {x y : UInt8} (h : x < y) (s t : Bytes) : Diff (x :: s) (y :: t) := ⟨[], x, y, s, t, rfl, rfl, h⟩
theorem less_pre (p s t : Bytes) : Op.bytesLess (p ++ s) (p ++ t) = Op.bytesLess s t := by
  induction p with
  | nil => rfl
  | cons x p ih => simp [Op.bytesLess, ih]
theorem Diff.less {s t : Bytes} (h : Diff s t) : Op.bytesLess s t = true := by
  obtain ⟨p, x, y, s', t', rfl, rfl, hx⟩ := h
  rw [less_pre]; simp [Op.bytesLess, hx]
theorem u8_asymm {x y : UInt8} (h : x < y) : ¬ y < x := UInt8.lt_asymm h
theorem u8_ne {x y : UInt8} (h : x < y) : x ≠ y := fun e => by subst e; exact UInt8.lt_irrefl _ h
theorem Diff.not_less {s t : Bytes} (h : Diff s t) : Op.bytesLess t s = false := by
  obtain ⟨p, x, y, s', t', rfl, rfl, hx⟩ := h
  rw [less_pre]
  have h1 := u8_asymm hx
  have h2 : (y == x) = false := beq_eq_false_iff_ne.mpr fun e => u8_ne hx e.symm
  simp [Op.bytesLess, h1, h2]
theorem Diff.ne {s t : Bytes} (h : Diff s t) : s ≠ t := by
  intro e; subst e
  have h1 := h.less
  rw [h.not_less] at h1
  exact absurd h1 (by decide)
theorem Diff.no_begin {s t : Bytes} (h : Diff s t) (u : Bytes) : t ≠ s ++ u := by
  intro e
  have h1 := h.app u []
  rw [List.append_nil] at h1
  exact h1.ne e.symm
theorem Diff.no_begin' {s t : Bytes} (h : Diff s t) (u : Bytes) : s ≠ t ++ u := by
  intro e
  have h1 := h.app [] u
  rw [List.append_nil] at h1
  exact h1.ne e
theorem less_irrefl (s : Bytes) : Op.bytesLess s s = false := by
  induction s with
  | nil => rfl
  | cons x s ih => simp [Op.bytesLess, UInt8.lt_irrefl, ih]
/-- c tells how s and t stand: alike, or parted. -/
def Ord3 (c : Int) (s t : Bytes) : Prop := (c = 0 ∧ s = t) ∨ (c = -1 ∧ Diff s t) ∨ (c = 1 ∧ Diff t s)
theorem Ord3.pre {c : Int} {s t : Bytes} (h : Ord3 c s t) (p : Bytes) : Ord3 c (p ++ s) (p ++ t) := by
  rcases h with ⟨h, rfl⟩ | ⟨h, d⟩ | ⟨h, d⟩
  · exact .inl ⟨h, rfl⟩
  · exact .inr (.inl ⟨h, d.pre p⟩)
  · exact .inr (.inr ⟨h, d.pre p⟩)

/-! ### 2. numbers as bytes, the highest first -/
def be : Nat → Nat → Bytes
  | 0, _ => []
  | k + 1, n => be k (n / 256) ++ [UInt8.ofNat (n % 256)]
theorem be_len : ∀ k n, (be k n).length = k
  | 0, _ => rfl
  | k + 1, n => by simp [be, be_len k]
theorem u8_of_lt {a b : Nat} (h : a < b) (hb : b < 256) : UInt8.ofNat a < UInt8.ofNat b := by
  rw [UInt8.lt_iff_toNat_lt, UInt8.toNat_ofNat', UInt8.toNat_ofNat']
  omega
theorem be_lt : ∀ k n m, n < m → m < 256 ^ k → Diff (be k n) (be k m)
  | 0, n, m, h, hm => by simp at hm; omega
  | k + 1, n, m, h, hm => by
    have hm' : m / 256 < 256 ^ k := by rw [Nat.pow_succ] at hm; omega
    by_cases e : n / 256 = m / 256
    · have h2 : n % 256 < m % 256 := by omega
      simp only [be, e]
      exact (Diff.head (u8_of_lt h2 (by omega)) [] []).pre _
    · exact (be_lt k _ _ (by omega) hm').app _ _
def beval (l : Bytes) : Nat := l.foldl (fun n b => n * 256 + b.toNat) 0
theorem beval_snoc (l : Bytes) (b : UInt8) : beval (l ++ [b]) = beval l * 256 + b.toNat := by simp [beval]
theorem beval_be : ∀ k n, n < 256 ^ k → beval (be k n) = n
  | 0, n, h => by simp at h; subst h; rfl
  | k + 1, n, h => by
    have h' : n / 256 < 256 ^ k := by rw [Nat.pow_succ] at h; omega
    simp only [be, beval_snoc, beval_be k _ h', UInt8.toNat_ofNat']
    omega
theorem snoc_ind {P : Bytes → Prop} (h0 : P []) (h1 : ∀ l b, P l → P (l ++ [b])) (l : Bytes) : P l := by
  have h : ∀ r : Bytes, P r.reverse := by
    intro r
    induction r with
    | nil => exact h0
    | cons b r ih => rw [List.reverse_cons]; exact h1 _ _ ih
  have := h l.reverse
  rwa [List.reverse_reverse] at this
theorem beval_lt (l : Bytes) : beval l < 256 ^ l.length := by
  refine snoc_ind (P := fun l => beval l < 256 ^ l.length) (by decide) (fun l b ih => ?_) l
  rw [beval_snoc, List.length_append, List.length_singleton, Nat.pow_succ]
  have := b.toNat_lt
  omega
theorem be_beval (l : Bytes) : be l.length (beval l) = l := by
  refine snoc_ind (P := fun l => be l.length (beval l) = l) rfl (fun l b ih => ?_) l
  rw [beval_snoc, List.length_append, List.length_singleton]
  have hb := b.toNat_lt
  have e1 : (beval l * 256 + b.toNat) / 256 = beval l := by omega
  have e2 : (beval l * 256 + b.toNat) % 256 = b.toNat := by omega
  simp only [be, e1, e2, ih, UInt8.ofNat_toNat]

/-! ### 3. numbers of one to nine bytes -/
def wd (n : Nat) : Nat := if n < 256 ^ 3 then 3 else if n < 256 ^ 4 then 4 else if n < 256 ^ 5 then 5 else if n < 256 ^ 6 then 6 else if n < 256 ^ 7 then 7 else 8
theorem wd_le (n : Nat) : 3 ≤ wd n ∧ wd n ≤ 8 := by unfold wd; (repeat' split) <;> omega
theorem wd_lt (n : Nat) (h : n < 256 ^ 8) : n < 256 ^ wd n := by
  unfold wd; (repeat' split) <;> assumption
theorem wd_mono {n m : Nat} (h : n < m) : wd n ≤ wd m := by unfold wd; (repeat' split) <;> omega
def vput (n : Nat) : Bytes :=
  if n ≤ 240 then [UInt8.ofNat n]
  else if n ≤ 2287 then [UInt8.ofNat (241 + (n - 240) / 256), UInt8.ofNat ((n - 240) % 256)]
  else if n ≤ 67823 then 249 :: be 2 (n - 2288)
  else UInt8.ofNat (247 + wd n) :: be (wd n) n
theorem vput_lt {n m : Nat} (h : n < m) (hm : m < 256 ^ 8) : Diff (vput n) (vput m) := by
  have hw := wd_le m
  have hn := wd_le n
  have hv : (249 : UInt8) = UInt8.ofNat 249 := rfl
  unfold vput
  by_cases a1 : n ≤ 240
  · rw [if_pos a1]
    by_cases b1 : m ≤ 240
    · rw [if_pos b1]; exact Diff.head (u8_of_lt h (by omega)) _ _
    rw [if_neg b1]
    by_cases b2 : m ≤ 2287
    · rw [if_pos b2]; exact Diff.head (u8_of_lt (by omega) (by omega)) _ _
    rw [if_neg b2]
    by_cases b3 : m ≤ 67823
    · rw [if_pos b3, hv]; exact Diff.head (u8_of_lt (by omega) (by omega)) _ _
    · rw [if_neg b3]; exact Diff.head (u8_of_lt (by omega) (by omega)) _ _
  have b1 : ¬ m ≤ 240 := by omega
  rw [if_neg a1, if_neg b1]
  by_cases a2 : n ≤ 2287
  · rw [if_pos a2]
    by_cases b2 : m ≤ 2287
    · rw [if_pos b2]
      by_cases e : (n - 240) / 256 = (m - 240) / 256
      · rw [e]; exact (Diff.head (u8_of_lt (by omega) (by omega)) _ _).cons _
      · exact Diff.head (u8_of_lt (by omega) (by omega)) _ _
    rw [if_neg b2]
    by_cases b3 : m ≤ 67823
    · rw [if_pos b3, hv]; exact Diff.head (u8_of_lt (by omega) (by omega)) _ _
    · rw [if_neg b3]; exact Diff.head (u8_of_lt (by omega) (by omega)) _ _
  have b2 : ¬ m ≤ 2287 := by omega
  rw [if_neg a2, if_neg b2]
  by_cases a3 : n ≤ 67823
  · rw [if_pos a3]
    by_cases b3 : m ≤ 67823
    · rw [if_pos b3]
      exact (be_lt 2 _ _ (by omega) (by omega)).cons _
    · rw [if_neg b3, hv]; exact Diff.head (u8_of_lt (by omega) (by omega)) _ _
  have b3 : ¬ m ≤ 67823 := by omega
  rw [if_neg a3, if_neg b3]
  have hmono := wd_mono h
  by_cases e : wd n = wd m
  · rw [e]; exact (be_lt _ _ _ h (wd_lt m hm)).cons _
  · exact Diff.head (u8_of_lt (by omega) (by omega)) _ _
/-- How many bytes follow a first one. -/
def more (c : UInt8) : Nat := if c.toNat ≤ 240 then 0 else if c.toNat ≤ 248 then 1 else if c.toNat = 249 then 2 else c.toNat - 247
def vval (c : UInt8) (r : Bytes) : Nat := if more c = 0 then c.toNat else if more c = 1 then 240 + (c.toNat - 241) * 256 + beval r else if more c = 2 then 2288 + beval r else beval r
/-- The number at the head: its value, its bytes' number, what is wrong. -/
def vget : Bytes → Nat × Nat × Nat
  | [] => (0, 0, 7)
  | c :: r => if r.length < more c then (0, 0, 7) else if vput (vval c (r.take (more c))) = c :: r.take (more c) then (vval c (r.take (more c)), 1 + more c, 0) else (0, 0, 3)
theorem more_le (c : UInt8) : more c ≤ 8 := by have := c.toNat_lt; unfold more; (repeat' split) <;> omega
theorem vval_lt (c : UInt8) (r : Bytes) (h : r.length = more c) : vval c r < 256 ^ 8 := by
  have hb := beval_lt r
  rw [h] at hb
  have hc := c.toNat_lt
  have hm := more_le c
  have hp : 256 ^ more c ≤ 256 ^ 8 := Nat.pow_le_pow_right (by decide) hm
  unfold vval
  split
  · omega
  split
  · next h1 => rw [h1] at hb; omega
  split
  · next h1 => rw [h1] at hb; omega
  · omega
theorem vput_shape (n : Nat) (h : n < 256 ^ 8) : ∃ c r, vput n = c :: r ∧ r.length = more c ∧ vval c r = n := by
  have hw := wd_le n
  have hv : (249 : UInt8) = UInt8.ofNat 249 := rfl
  unfold vput
  by_cases a1 : n ≤ 240
  · rw [if_pos a1]
    have e : (UInt8.ofNat n).toNat = n := by rw [UInt8.toNat_ofNat']; omega
    have em : more (UInt8.ofNat n) = 0 := by unfold more; rw [e, if_pos a1]
    exact ⟨_, _, rfl, em.symm, by unfold vval; rw [if_pos em, e]⟩
  rw [if_neg a1]
  by_cases a2 : n ≤ 2287
  · rw [if_pos a2]
    have e : (UInt8.ofNat (241 + (n - 240) / 256)).toNat = 241 + (n - 240) / 256 := by rw [UInt8.toNat_ofNat']; omega
    have em : more (UInt8.ofNat (241 + (n - 240) / 256)) = 1 := by unfold more; rw [e, if_neg (by omega), if_pos (by omega)]
    refine ⟨_, _, rfl, em.symm, ?_⟩
    have eb : beval [UInt8.ofNat ((n - 240) % 256)] = (n - 240) % 256 := by
      show 0 * 256 + (UInt8.ofNat ((n - 240) % 256)).toNat = _
      rw [UInt8.toNat_ofNat']; omega
    unfold vval
    rw [em, if_neg (by decide), if_pos rfl, e, eb]
    omega
  rw [if_neg a2]
  by_cases a3 : n ≤ 67823
  · rw [if_pos a3]
    have em : more 249 = 2 := rfl
    refine ⟨_, _, rfl, by rw [be_len, em], ?_⟩
    unfold vval
    rw [em, if_neg (by decide), if_neg (by decide), if_pos rfl, beval_be 2 _ (by omega)]
    omega
  rw [if_neg a3]
  have e : (UInt8.ofNat (247 + wd n)).toNat = 247 + wd n := by rw [UInt8.toNat_ofNat']; omega
  have em : more (UInt8.ofNat (247 + wd n)) = wd n := by unfold more; rw [e, if_neg (by omega), if_neg (by omega), if_neg (by omega)]; omega
  refine ⟨_, _, rfl, by rw [be_len, em], ?_⟩
  unfold vval
  rw [em, if_neg (by omega), if_neg (by omega), if_neg (by omega), beval_be _ _ (wd_lt n h)]
theorem vget_put (n : Nat) (h : n < 256 ^ 8) (rest : Bytes) : vget (vput n ++ rest) = (n, (vput n).length, 0) := by
  obtain ⟨c, r, e, hl, hv⟩ := vput_shape n h
  rw [e]
  have ht : (r ++ rest).take (more c) = r := by rw [← hl]; exact List.take_left' rfl
  have hlen : ¬ (r ++ rest).length < more c := by rw [List.length_append]; omega
  simp only [List.cons_append, vget, if_neg hlen, ht, hv, e, if_true, List.length_cons, hl]
  rw [Nat.add_comm]
theorem vget_short (n : Nat) (h : n < 256 ^ 8) (j : Nat) (hj : j < (vput n).length) : (vget ((vput n).take j)).2.2 = 7 := by
  obtain ⟨c, r, e, hl, hv⟩ := vput_shape n h
  rw [e] at hj ⊢
  cases j with
  | zero => rfl
  | succ j =>
    rw [List.take_succ_cons]
    have hlen : (r.take j).length < more c := by rw [List.length_take]; simp at hj; omega
    simp only [vget, if_pos hlen]
theorem vget_ok {l : Bytes} {n k : Nat} (h : vget l = (n, k, 0)) : n < 256 ^ 8 ∧ vput n = l.take k ∧ 0 < k ∧ k ≤ l.length := by
  cases l with
  | nil => simp [vget] at h
  | cons c r =>
    simp only [vget] at h
    split at h
    · exact absurd h (by simp)
    · next hlen =>
      split at h
      · next he =>
        simp only [Prod.mk.injEq] at h
        obtain ⟨rfl, rfl, _⟩ := h
        refine ⟨vval_lt _ _ (by rw [List.length_take]; omega), ?_, by omega, by simp; omega⟩
        rw [he, Nat.add_comm, List.take_succ_cons]
      · exact absurd h (by simp)

/-! ### 4. texts -/
def esc : Bytes → Bytes
  | [] => []
  | c :: l => if c = 0 then 0 :: 255 :: esc l else c :: esc l
/-- The text at the head, how many bytes it has there, what is wrong. -/
def tget : Bytes → Bytes × Nat × Nat
  | [] => ([], 0, 7)
  | c :: l =>
    if c = 0 then
      match l with
      | [] => ([], 0, 7)
      | d :: r => if d = 1 then ([], 2, 0) else if d = 255 then (if (tget r).2.2 = 0 then (0 :: (tget r).1, (tget r).2.1 + 2, 0) else ([], 0, (tget r).2.2)) else ([], 0, 3)
    else if (tget l).2.2 = 0 then (c :: (tget l).1, (tget l).2.1 + 1, 0) else ([], 0, (tget l).2.2)
theorem tget_nil : tget [] = ([], 0, 7) := by simp [tget]
theorem tget_0 : tget [0] = ([], 0, 7) := by simp [tget]
theorem tget_01 (r : Bytes) : tget (0 :: 1 :: r) = ([], 2, 0) := by simp [tget]
theorem tget_0ff (r : Bytes) : tget (0 :: 255 :: r) = if (tget r).2.2 = 0 then (0 :: (tget r).1, (tget r).2.1 + 2, 0) else ([], 0, (tget r).2.2) := by simp [tget]
theorem tget_0x (d : UInt8) (r : Bytes) (h1 : d ≠ 1) (h2 : d ≠ 255) : tget (0 :: d :: r) = ([], 0, 3) := by simp [tget, h1, h2]
theorem tget_c (c : UInt8) (l : Bytes) (h : c ≠ 0) : tget (c :: l) = if (tget l).2.2 = 0 then (c :: (tget l).1, (tget l).2.1 + 1, 0) else ([], 0, (tget l).2.2) := by
  cases l <;> simp [tget, h]
theorem esc_0 (l : Bytes) : esc (0 :: l) = 0 :: 255 :: esc l := by simp [esc]
theorem esc_c (c : UInt8) (l : Bytes) (h : c ≠ 0) : esc (c :: l) = c :: esc l := by simp [esc, h]
theorem esc_app (a b : Bytes) : esc (a ++ b) = esc a ++ esc b := by
  induction a with
  | nil => rfl
  | cons c a ih => simp only [List.cons_append, esc, ih]; split <;> rfl
theorem tget_put (s rest : Bytes) : tget (esc s ++ 0 :: 1 :: rest) = (s, (esc s).length + 2, 0) := by
  induction s with
  | nil => simp [esc, tget_01]
  | cons c s ih =>
    by_cases h : c = 0
    · subst h; simp only [esc_0, List.cons_append, tget_0ff, ih, if_true, List.length_cons]
    · simp only [esc_c c s h, List.cons_append, tget_c _ _ h, ih, if_true, List.length_cons]
theorem tget_short (s : Bytes) : ∀ j, j < (esc s).length + 2 → (tget ((esc s ++ [0, 1]).take j)).2.2 = 7 := by
  induction s with
  | nil =>
    intro j hj
    match j, hj with
    | 0, _ => rfl
    | 1, _ => rfl
  | cons c s ih =>
    intro j hj
    by_cases h : c = 0
    · subst h
      match j with
      | 0 => rfl
      | 1 => simp [esc_0, tget_0]
      | j + 2 =>
        have := ih j (by simp [esc_0] at hj; omega)
        simp only [esc_0, List.cons_append, List.take_succ_cons, tget_0ff, this]
        rfl
    · cases j with
      | zero => rfl
      | succ j =>
        have := ih j (by simp [esc_c c s h] at hj; omega)
        simp only [esc_c c s h, List.cons_append, List.take_succ_cons, tget_c _ _ h, this]
        rfl
theorem tget_ok : ∀ (n : Nat) (l : Bytes), l.length ≤ n → ∀ s k, tget l = (s, k, 0) → esc s ++ [0, 1] = l.take k ∧ 2 ≤ k ∧ k ≤ l.length := by
  intro n
  induction n with
  | zero =>
    intro l hl s k h
    obtain rfl : l = [] := List.eq_nil_of_length_eq_zero (by omega)
    simp [tget] at h
  | succ n ih =>
    intro l hl s k h
    cases l with
    | nil => simp [tget] at h
    | cons c l =>
      by_cases hc : c = 0
      · subst hc
        cases l with
        | nil => simp [tget] at h
        | cons d r =>
          by_cases h1 : d = 1
          · subst h1
            simp [tget] at h
            obtain ⟨rfl, rfl⟩ := h
            simp [esc]
          · by_cases h2 : d = 255
            · subst h2
              rw [tget_0ff] at h
              split at h
              · next h0 =>
                simp only [Prod.mk.injEq] at h
                obtain ⟨rfl, rfl, _⟩ := h
                have := ih r (by simp at hl; omega) (tget r).1 (tget r).2.1 (by rw [← h0])
                obtain ⟨e, h3, h4⟩ := this
                refine ⟨?_, by omega, by simp; omega⟩
                simp only [esc, if_true, List.take_succ_cons, List.cons_append, e]
              · next h0 => simp only [Prod.mk.injEq] at h; exact absurd h.2.2 h0
            · simp [tget_0x d r h1 h2] at h
      · rw [tget_c c l hc] at h
        split at h
        · next h0 =>
          simp only [Prod.mk.injEq] at h
          obtain ⟨rfl, rfl, _⟩ := h
          obtain ⟨e, h3, h4⟩ := ih l (by simp at hl; omega) (tget l).1 (tget l).2.1 (by rw [← h0])
          refine ⟨?_, by omega, by simp; omega⟩
          simp only [esc, if_neg hc, List.take_succ_cons, List.cons_append, e]
        · next h0 => simp only [Prod.mk.injEq] at h; exact absurd h.2.2 h0
/-- Which one of two texts is ahead. -/
def lcmp : Bytes → Bytes → Int
  | [], [] => 0
  | [], _ :: _ => -1
  | _ :: _, [] => 1
  | x :: a, y :: b => if x < y then -1 else if y < x then 1 else lcmp a b
theorem esc_ord : ∀ a b : Bytes, Ord3 (lcmp a b) (esc a ++ [0, 1]) (esc b ++ [0, 1])
  | [], [] => .inl ⟨rfl, rfl⟩
  | [], y :: b => by
    refine .inr (.inl ⟨rfl, ?_⟩)
    by_cases h : y = 0
    · subst h
      simp only [esc, if_true, List.nil_append, List.cons_append]
      exact (Diff.head (by decide) _ _).cons _
    · simp only [esc, if_neg h, List.nil_append, List.cons_append]
      refine Diff.head ?_ _ _
      rw [UInt8.lt_iff_toNat_lt]
      have : y.toNat ≠ 0 := fun e => h (UInt8.toNat_inj.mp e)
      show 0 < y.toNat
      omega
  | x :: a, [] => by
    refine .inr (.inr ⟨rfl, ?_⟩)
    by_cases h : x = 0
    · subst h
      simp only [esc, if_true, List.nil_append, List.cons_append]
      exact (Diff.head (by decide) _ _).cons _
    · simp only [esc, if_neg h, List.nil_append, List.cons_append]
      refine Diff.head ?_ _ _
      rw [UInt8.lt_iff_toNat_lt]
      have : x.toNat ≠ 0 := fun e => h (UInt8.toNat_inj.mp e)
      show 0 < x.toNat
      omega
  | x :: a, y :: b => by
    have ih := esc_ord a b
    have hd : ∀ {x y : UInt8} (a b : Bytes), x < y → Diff (esc (x :: a) ++ [0, 1]) (esc (y :: b) ++ [0, 1]) := by
      intro x y a b h
      have hy : y ≠ 0 := by
        intro e; subst e
        rw [UInt8.lt_iff_toNat_lt] at h
        exact absurd h (by simp)
      by_cases hx : x = 0
      · subst hx; simp only [esc, if_true, if_neg hy, List.cons_append]; exact Diff.head h _ _
      · simp only [esc, if_neg hx, if_neg hy, List.cons_append]; exact Diff.head h _ _
    by_cases h1 : x < y
    · simp only [lcmp, if_pos h1]; exact .inr (.inl ⟨rfl, hd a b h1⟩)
    · by_cases h2 : y < x
      · simp only [lcmp, if_neg h1, if_pos h2]; exact .inr (.inr ⟨rfl, hd b a h2⟩)
      · obtain rfl : x = y := UInt8.le_antisymm (UInt8.not_lt.mp h2) (UInt8.not_lt.mp h1)
        simp only [lcmp, if_neg h1]
        by_cases hx : x = 0
        · subst hx; simp only [esc, if_true, List.cons_append]; exact ih.pre [0, 255]
        · simp only [esc, if_neg hx, List.cons_append]; exact ih.pre [x]
theorem lcmp_eq : ∀ a b : Bytes, lcmp a b = 0 ↔ a = b
  | [], [] => by simp [lcmp]
  | [], _ :: _ => by simp [lcmp]
  | _ :: _, [] => by simp [lcmp]
  | x :: a, y :: b => by
    have ih := lcmp_eq a b
    by_cases h1 : x < y
    · simp [lcmp, h1]; intro e; exact absurd e (u8_ne h1)
    · by_cases h2 : y < x
      · simp [lcmp, h1, h2]; intro e; exact absurd e.symm (u8_ne h2)
      · obtain rfl : x = y := UInt8.le_antisymm (UInt8.not_lt.mp h2) (UInt8.not_lt.mp h1)
        simp [lcmp, UInt8.lt_irrefl, ih]
theorem esc_len (l : Bytes) : (esc l).length = l.length + l.count 0 := by
  induction l with
  | nil => rfl
  | cons c l ih =>
    by_cases h : c = 0
    · subst h; simp [esc, ih]; omega
    · simp [esc, h, ih]; omega

/-! ### 5. columns -/
structure Cl where
  k : Int
  i : Int
  u : Int
  s : Bytes
deriving DecidableEq
def Cl.wf (c : Cl) : Prop := -9223372036854775808 ≤ c.i ∧ c.i ≤ 9223372036854775807 ∧ 0 ≤ c.u ∧ c.u ≤ 18446744073709551615
/-- May it be? -/
def Cl.right (c : Cl) : Bool := (c.k == 0 && c.i == 0 && c.u == 0 && c.s.isEmpty) || (c.k == 1 && c.i == 0 && decide (c.u ≤ 1) && c.s.isEmpty) || (c.k == 2 && c.u == 0 && c.s.isEmpty) || (c.k == 3 && c.i == 0 && c.s.isEmpty) || (c.k == 4 && c.i == 0 && c.u == 0)
def cput (c : Cl) : Bytes :=
  if c.k = 0 then [16] else if c.k = 1 then [UInt8.ofNat (32 + c.u.toNat)] else if c.k = 2 then 48 :: be 8 (c.i + 9223372036854775808).toNat else if c.k = 3 then 64 :: vput c.u.toNat else 80 :: (esc c.s ++ [0, 1])
def cget : Bytes → Cl × Nat × Nat
  | [] => (⟨0, 0, 0, []⟩, 0, 7)
  | c :: r =>
    if c = 16 then (⟨0, 0, 0, []⟩, 1, 0)
    else if c = 32 then (⟨1, 0, 0, []⟩, 1, 0)
    else if c = 33 then (⟨1, 0, 1, []⟩, 1, 0)
    else if c = 48 then (if r.length < 8 then (⟨0, 0, 0, []⟩, 0, 7) else (⟨2, (beval (r.take 8) : Int) - 9223372036854775808, 0, []⟩, 9, 0))
    else if c = 64 then (if (vget r).2.2 = 0 then (⟨3, 0, (vget r).1, []⟩, (vget r).2.1 + 1, 0) else (⟨0, 0, 0, []⟩, 0, (vget r).2.2))
    else if c = 80 then (if (tget r).2.2 = 0 then (⟨4, 0, 0, (tget r).1⟩, (tget r).2.1 + 1, 0) else (⟨0, 0, 0, []⟩, 0, (tget r).2.2))
    else (⟨0, 0, 0, []⟩, 0, 3)
theorem right_cases {c : Cl} (h : c.right = true) : (c = ⟨0, 0, 0, []⟩) ∨ (c = ⟨1, 0, c.u, []⟩ ∧ c.u ≤ 1) ∨ (c = ⟨2, c.i, 0, []⟩) ∨ (c = ⟨3, 0, c.u, []⟩) ∨ (c = ⟨4, 0, 0, c.s⟩) := by
  obtain ⟨k, i, u, s⟩ := c
  simp only [Cl.right, Bool.or_eq_true, Bool.and_eq_true, beq_iff_eq, decide_eq_true_eq, List.isEmpty_iff] at h
  rcases h with ((((⟨⟨⟨rfl, rfl⟩, rfl⟩, rfl⟩ | ⟨⟨⟨rfl, rfl⟩, h⟩, rfl⟩) | ⟨⟨rfl, rfl⟩, rfl⟩) | ⟨⟨rfl, rfl⟩, rfl⟩) | ⟨⟨rfl, rfl⟩, rfl⟩)
  · exact .inl rfl
  · exact .inr (.inl ⟨rfl, h⟩)
  · exact .inr (.inr (.inl rfl))
  · exact .inr (.inr (.inr (.inl rfl)))
  · exact .inr (.inr (.inr (.inr rfl)))
theorem cget_48 (r : Bytes) : cget (48 :: r) = if r.length < 8 then (⟨0, 0, 0, []⟩, 0, 7) else (⟨2, (beval (r.take 8) : Int) - 9223372036854775808, 0, []⟩, 9, 0) := by simp [cget]
theorem cget_64 (r : Bytes) : cget (64 :: r) = if (vget r).2.2 = 0 then (⟨3, 0, (vget r).1, []⟩, (vget r).2.1 + 1, 0) else (⟨0, 0, 0, []⟩, 0, (vget r).2.2) := by simp [cget]
theorem cget_80 (r : Bytes) : cget (80 :: r) = if (tget r).2.2 = 0 then (⟨4, 0, 0, (tget r).1⟩, (tget r).2.1 + 1, 0) else (⟨0, 0, 0, []⟩, 0, (tget r).2.2) := by simp [cget]
theorem cput_2 (i u : Int) (s : Bytes) : cput ⟨2, i, u, s⟩ = 48 :: be 8 (i + 9223372036854775808).toNat := by simp [cput]
theorem cput_3 (i u : Int) (s : Bytes) : cput ⟨3, i, u, s⟩ = 64 :: vput u.toNat := by simp [cput]
theorem cput_4 (i u : Int) (s : Bytes) : cput ⟨4, i, u, s⟩ = 80 :: (esc s ++ [0, 1]) := by simp [cput]
theorem cget_put {c : Cl} (h : c.right = true) (hw : c.wf) (rest : Bytes) : cget (cput c ++ rest) = (c, (cput c).length, 0) := by
  rcases right_cases h with e | ⟨e, h1⟩ | e | e | e
  · rw [e]; rfl
  · have hu : c.u = 0 ∨ c.u = 1 := by have := hw.2.2.1; omega
    rcases hu with hu | hu <;> rw [hu] at e <;> rw [e] <;> rfl
  · rw [e]
    have h8 : (c.i + 9223372036854775808).toNat < 256 ^ 8 := by have := hw.1; have := hw.2.1; omega
    have hl := be_len 8 (c.i + 9223372036854775808).toNat
    rw [cput_2, List.cons_append, cget_48, if_neg (by rw [List.length_append, hl]; omega), List.take_left' hl, beval_be 8 _ h8]
    have := hw.1
    simp only [List.length_cons, hl, Prod.mk.injEq, Cl.mk.injEq, true_and, and_true]
    omega
  · rw [e]
    have hu : c.u.toNat < 256 ^ 8 := by have := hw.2.2; omega
    rw [cput_3, List.cons_append, cget_64, vget_put _ hu]
    have := hw.2.2.1
    simp only [List.length_cons, if_true, Prod.mk.injEq, Cl.mk.injEq, true_and, and_true]
    omega
  · rw [e]
    have ht := tget_put c.s rest
    rw [cput_4, List.cons_append, List.append_assoc, cget_80]
    simp only [List.cons_append, List.nil_append, ht]
    simp
theorem cput_pos (c : Cl) : 0 < (cput c).length := by unfold cput; (repeat' split) <;> simp
theorem cget_short {c : Cl} (h : c.right = true) (hw : c.wf) (j : Nat) (hj : j < (cput c).length) : (cget ((cput c).take j)).2.2 = 7 := by
  cases j with
  | zero => rfl
  | succ j =>
    rcases right_cases h with e | ⟨e, h1⟩ | e | e | e
    · rw [e] at hj; simp [cput] at hj
    · rw [e] at hj; simp [cput] at hj
    · rw [e] at hj ⊢
      rw [cput_2] at hj ⊢
      simp only [List.length_cons, be_len] at hj
      rw [List.take_succ_cons, cget_48, if_pos (by rw [List.length_take, be_len]; omega)]
    · rw [e] at hj ⊢
      rw [cput_3] at hj ⊢
      have hu : c.u.toNat < 256 ^ 8 := by have := hw.2.2; omega
      have := vget_short _ hu j (by simpa using hj)
      rw [List.take_succ_cons, cget_64, this]; rfl
    · rw [e] at hj ⊢
      rw [cput_4] at hj ⊢
      have := tget_short c.s j (by simpa using hj)
      rw [List.take_succ_cons, cget_80, this]; rfl
theorem cget_ok {l : Bytes} {c : Cl} {n : Nat} (h : cget l = (c, n, 0)) : c.right = true ∧ c.wf ∧ cput c = l.take n ∧ 0 < n ∧ n ≤ l.length := by
  cases l with
  | nil => simp [cget] at h
  | cons x r =>
    by_cases h16 : x = 16
    · subst h16; simp [cget] at h; obtain ⟨rfl, rfl⟩ := h; refine ⟨by decide, by unfold Cl.wf; decide, by simp [cput], by omega, by simp⟩
    by_cases h32 : x = 32
    · subst h32; simp [cget] at h; obtain ⟨rfl, rfl⟩ := h; refine ⟨by decide, by unfold Cl.wf; decide, by simp [cput], by omega, by simp⟩
    by_cases h33 : x = 33
    · subst h33; simp [cget] at h; obtain ⟨rfl, rfl⟩ := h; refine ⟨by decide, by unfold Cl.wf; decide, by simp [cput], by omega, by simp⟩
    by_cases h48 : x = 48
    · subst h48
      rw [cget_48] at h
      split at h
      · simp at h
      · next hl =>
        simp only [Prod.mk.injEq] at h
        obtain ⟨rfl, rfl, _⟩ := h
        have ht : (r.take 8).length = 8 := by rw [List.length_take]; omega
        have hb := beval_lt (r.take 8)
        rw [ht] at hb
        have he := be_beval (r.take 8)
        rw [ht] at he
        refine ⟨by simp [Cl.right], ⟨by show _ ≤ _; simp only; omega, by simp only; omega, by simp, by simp⟩, ?_, by omega, by simp; omega⟩
        rw [cput_2, List.take_succ_cons, show ((beval (r.take 8) : Int) - 9223372036854775808 + 9223372036854775808).toNat = beval (r.take 8) by omega, he]
    by_cases h64 : x = 64
    · subst h64
      rw [cget_64] at h
      split at h
      · next h0 =>
        simp only [Prod.mk.injEq] at h
        obtain ⟨rfl, rfl, _⟩ := h
        obtain ⟨h1, h2, h3, h4⟩ := vget_ok (l := r) (n := (vget r).1) (k := (vget r).2.1) (by rw [← h0])
        refine ⟨by simp [Cl.right], ⟨by simp, by simp, by simp, by simp only; omega⟩, ?_, by omega, by simp; omega⟩
        rw [cput_3, List.take_succ_cons, Int.toNat_natCast, h2]
      · next h0 => simp only [Prod.mk.injEq] at h; exact absurd h.2.2 h0
    by_cases h80 : x = 80
    · subst h80
      rw [cget_80] at h
      split at h
      · next h0 =>
        simp only [Prod.mk.injEq] at h
        obtain ⟨rfl, rfl, _⟩ := h
        obtain ⟨h1, h2, h3⟩ := tget_ok r.length r (Nat.le_refl _) (tget r).1 (tget r).2.1 (by rw [← h0])
        refine ⟨by simp [Cl.right], ⟨by simp, by simp, by simp, by simp⟩, ?_, by omega, by simp; omega⟩
        rw [cput_4, List.take_succ_cons, h1]
      · next h0 => simp only [Prod.mk.injEq] at h; exact absurd h.2.2 h0
    · simp [cget, h16, h32, h33, h48, h64, h80] at h
/-- Which one of two columns is ahead, as the code tells it. -/
def sgn (a b : Int) : Int := if a < b then -1 else if a > b then 1 else 0
def ccmp (a b : Cl) : Int := if sgn a.k b.k = 0 then (if sgn a.i b.i = 0 then (if sgn a.u b.u = 0 then lcmp a.s b.s else sgn a.u b.u) else sgn a.i b.i) else sgn a.k b.k
theorem sgn_self (a : Int) : sgn a a = 0 := by simp [sgn]
theorem sgn_zero {a b : Int} : sgn a b = 0 ↔ a = b := by unfold sgn; split <;> (try split) <;> omega
theorem first_byte {c : Cl} (h : c.right = true) (hw : c.wf) : ∃ x r, cput c = x :: r ∧ 16 * (c.k + 1) ≤ (x.toNat : Int) ∧ (x.toNat : Int) < 16 * (c.k + 2) := by
  rcases right_cases h with e | ⟨e, h1⟩ | e | e | e
  · rw [e]; exact ⟨16, [], rfl, by decide, by decide⟩
  · have hu : c.u = 0 ∨ c.u = 1 := by have := hw.2.2.1; omega
    rcases hu with hu | hu <;> rw [hu] at e <;> rw [e]
    · exact ⟨32, [], rfl, by decide, by decide⟩
    · exact ⟨33, [], rfl, by decide, by decide⟩
  · rw [e, cput_2]; exact ⟨48, _, rfl, by show (16:Int) * (2 + 1) ≤ 48; decide, by show (48:Int) < 16 * (2 + 2); decide⟩
  · rw [e, cput_3]; exact ⟨64, _, rfl, by show (16:Int) * (3 + 1) ≤ 64; decide, by show (64:Int) < 16 * (3 + 2); decide⟩
  · rw [e, cput_4]; exact ⟨80, _, rfl, by show (16:Int) * (4 + 1) ≤ 80; decide, by show (80:Int) < 16 * (4 + 2); decide⟩
theorem col_ord {a b : Cl} (ha : a.right = true) (hb : b.right = true) (wa : a.wf) (wb : b.wf) : Ord3 (ccmp a b) (cput a) (cput b) ∧ (ccmp a b = 0 ↔ a = b) := by
  by_cases hk : a.k = b.k
  · have hk0 : sgn a.k b.k = 0 := sgn_zero.2 hk
    unfold ccmp
    rw [if_pos hk0]
    rcases right_cases ha with ea | ⟨ea, h1⟩ | ea | ea | ea <;> rcases right_cases hb with eb | ⟨eb, h2⟩ | eb | eb | eb <;>
      first | (exfalso; have hka := congrArg Cl.k ea; have hkb := congrArg Cl.k eb; simp only at hka hkb; omega) | skip
    · rw [ea, eb]; simp [sgn_self, lcmp]; exact .inl ⟨rfl, rfl⟩
    · have hu : a.u = 0 ∨ a.u = 1 := by have := wa.2.2.1; omega
      have hv : b.u = 0 ∨ b.u = 1 := by have := wb.2.2.1; omega
      rcases hu with hu | hu <;> rcases hv with hv | hv <;> rw [hu] at ea <;> rw [hv] at eb <;> rw [ea, eb]
      · exact ⟨.inl ⟨rfl, rfl⟩, by decide⟩
      · exact ⟨.inr (.inl ⟨rfl, Diff.head (by decide) _ _⟩), by decide⟩
      · exact ⟨.inr (.inr ⟨rfl, Diff.head (by decide) _ _⟩), by decide⟩
      · exact ⟨.inl ⟨rfl, rfl⟩, by decide⟩
    · rw [ea, eb]
      simp only [sgn_self, if_true, lcmp, cput_2]
      have hx := wa.1; have hx' := wa.2.1; have hy := wb.1; have hy' := wb.2.1
      by_cases hi : a.i < b.i
      · have e : sgn a.i b.i = -1 := by simp [sgn, hi]
        rw [e]
        refine ⟨.inr (.inl ⟨rfl, (be_lt 8 _ _ (by omega) (by omega)).cons _⟩), ?_⟩
        simp; omega
      · by_cases hi2 : a.i > b.i
        · have e : sgn a.i b.i = 1 := by simp [sgn, hi, hi2]
          rw [e]
          refine ⟨.inr (.inr ⟨rfl, (be_lt 8 _ _ (by omega) (by omega)).cons _⟩), ?_⟩
          simp; omega
        · have e : a.i = b.i := by omega
          rw [e]; simp [sgn_self]; exact .inl ⟨rfl, rfl⟩
    · rw [ea, eb]
      simp only [sgn_self, if_true, lcmp, cput_3]
      have hx := wa.2.2.1; have hx' := wa.2.2.2; have hy := wb.2.2.1; have hy' := wb.2.2.2
      by_cases hi : a.u < b.u
      · have e : sgn a.u b.u = -1 := by simp [sgn, hi]
        rw [e]
        refine ⟨.inr (.inl ⟨rfl, (vput_lt (by omega) (by omega)).cons _⟩), ?_⟩
        simp; omega
      · by_cases hi2 : a.u > b.u
        · have e : sgn a.u b.u = 1 := by simp [sgn, hi, hi2]
          rw [e]
          refine ⟨.inr (.inr ⟨rfl, (vput_lt (by omega) (by omega)).cons _⟩), ?_⟩
          simp; omega
        · have e : a.u = b.u := by omega
          rw [e]; simp [sgn_self]; exact .inl ⟨rfl, rfl⟩
    · rw [ea, eb]
      simp only [sgn_self, if_true, cput_4]
      refine ⟨(esc_ord a.s b.s).pre [80], ?_⟩
      rw [lcmp_eq]; simp
  · obtain ⟨x, r, e1, h1, h2⟩ := first_byte ha wa
    obtain ⟨y, t, e2, h3, h4⟩ := first_byte hb wb
    have hne : sgn a.k b.k ≠ 0 := fun e => hk (sgn_zero.1 e)
    unfold ccmp
    rw [if_neg hne, e1, e2]
    refine ⟨?_, fun e => absurd e hne, fun e => absurd (by rw [e]) hk⟩
    by_cases hi : a.k < b.k
    · exact .inr (.inl ⟨by simp [sgn, hi], Diff.head (by rw [UInt8.lt_iff_toNat_lt]; omega) _ _⟩)
    · exact .inr (.inr ⟨by simp [sgn, hi]; omega, Diff.head (by rw [UInt8.lt_iff_toNat_lt]; omega) _ _⟩)
end Go.Proofs.YtimnjdgelencpaaDoor.Spec
