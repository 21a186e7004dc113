/- The print's functions of numbers and texts (word.Put, word.Get, col.text, col.integer) say what the plain words say. Condition: the bytes are at most a million. -/
import Derived.Test.YtimnjdgelencpaaDoorSpec
import Derived.Test.YtimnjdgelencpaaDoorAG1
import Derived.Laws.Bits64b
namespace Go.Proofs.YtimnjdgelencpaaDoor.A
open Go Go.RowKit Go.Proofs Go.Proofs.YtimnjdgelencpaaDoorW Go.Proofs.YtimnjdgelencpaaDoorW.PrintWords Go.Proofs.YtimnjdgelencpaaDoor.Spec
set_option linter.unusedSimpArgs false
set_option linter.unusedVariables false
theorem evpos {α : Type} {c : Prop} [Decidable c] {g h : Nat → Option α} {r : α} (hc : c) (k : Ev g r) : Ev (fun n => if c then g n else h n) r := Ev.congr (fun _ => if_pos hc) k
theorem evneg {α : Type} {c : Prop} [Decidable c] {g h : Nat → Option α} {r : α} (hc : ¬ c) (k : Ev h r) : Ev (fun n => if c then g n else h n) r := Ev.congr (fun _ => if_neg hc) k
theorem evbind {α β : Type} {g : Nat → Option α} {f : Nat → α → Option β} {a : α} {r : β} (h : Ev g a) (k : Ev (fun n => f n a) r) : Ev (fun n => (g n).bind (f n)) r := Ev.bind h k
theorem evsome {α β : Type} {f : Nat → α → Option β} {a : α} {r : β} (k : Ev (fun n => f n a) r) : Ev (fun n => (some a).bind (f n)) r := k
theorem evof {α : Type} {g : Nat → Option α} {r r' : α} (h : Ev g r) (e : r = r') : Ev g r' := e ▸ h
abbrev B (s : ByteArray) : Bytes := s.data.toList
theorem B_len (s : ByteArray) : (B s).length = s.size := data_length s
theorem B_toList (s : ByteArray) : s.toList = B s := ByteArray.toList_eq s
theorem ba_ext {a b : ByteArray} (h : B a = B b) : a = b := by
 obtain ⟨⟨a⟩⟩ := a; obtain ⟨⟨b⟩⟩ := b
 simp only [B] at h; rw [h]
theorem B_mk (l : Bytes) : B ⟨l.toArray⟩ = l := rfl
theorem B_append (a b : ByteArray) : B (a ++ b) = B a ++ B b := by simp [B, ByteArray.data_append]
theorem B_extract (s : ByteArray) (i j : Nat) : B (s.extract i j) = ((B s).drop i).take (j - i) := by
 simp [B, ByteArray.data_extract, Array.toList_extract, List.extract_eq_take_drop]
theorem B_take (s : ByteArray) (j : Nat) : B (s.extract 0 j) = (B s).take j := by rw [B_extract]; simp
theorem dn {s : ByteArray} {i : Nat} (h : i < s.size) : ∃ c r, (B s).drop i = c :: r ∧ bt s i = (c.toNat : Int) ∧ (B s).drop (i + 1) = r ∧ r.length = s.size - i - 1 := by
 have hl := B_len s
 refine ⟨(B s)[i]'(by omega), (B s).drop (i + 1), List.drop_eq_getElem_cons (by omega), ?_, rfl, by rw [List.length_drop]; omega⟩
 have h2 : ((i : Int).toNat) < s.size := by omega
 unfold bt
 rw [dif_pos h2]
 rfl
theorem dn_end {s : ByteArray} {i : Nat} (h : s.size ≤ i) : (B s).drop i = [] := List.drop_eq_nil_of_le (by rw [B_len]; exact h)
theorem w64 {n : Int} (h : -9223372036854775808 ≤ n ∧ n ≤ 9223372036854775807) : wrap64 n = n := Go.IntWalk.wrap64_in n h
theorem wu64 {n : Int} (h : 0 ≤ n ∧ n ≤ 18446744073709551615) : IntKind.u64.wrap n = n := Go.IntWalk.u64_in n h
theorem or_byte (a b : Nat) (ha : a < 72057594037927936) (hb : b < 256) : Go.bits .or .u64 (IntKind.u64.wrap ((a : Int) * 256)) (IntKind.u64.wrap (b : Int)) = ((a * 256 + b : Nat) : Int) := by
 rw [wu64 (by omega), wu64 (by omega), show ((a : Int) * 256) = ((a * 256 : Nat) : Int) by omega, bits_or_u64_nat _ _ (by omega) (by omega)]
 have h := Nat.two_pow_add_eq_or_of_lt (i := 8) (b := b) (by omega) a
 rw [show a * 256 + b = 2 ^ 8 * a + b by omega, h, show a * 256 = 2 ^ 8 * a by omega]
theorem xor63 (y : Nat) (h : y < 9223372036854775808) : y ^^^ 9223372036854775808 = y + 9223372036854775808 := by
 have e : y + 9223372036854775808 = 9223372036854775808 ||| y := by
  have h2 := Nat.two_pow_add_eq_or_of_lt (i := 63) (b := y) (by omega) 1
  rw [Nat.add_comm]
  exact h2
 rw [e]
 apply Nat.eq_of_testBit_eq
 intro j
 rw [Nat.testBit_xor, Nat.testBit_or, show (9223372036854775808:Nat) = 2^63 from rfl, Nat.testBit_two_pow]
 by_cases hj : 63 = j
 ·subst hj; simp [Nat.testBit_lt_two_pow (show y < 2^63 from h)]
 ·simp [hj]
theorem xor63' (y : Nat) (h : y < 9223372036854775808) : (y + 9223372036854775808) ^^^ 9223372036854775808 = y := by
 rw [← xor63 y h, Nat.xor_assoc, Nat.xor_self, Nat.xor_zero]
theorem bits_xor_nat (a b : Nat) (ha : a < 18446744073709551616) (hb : b < 18446744073709551616) : Go.bits .xor .u64 (a : Int) (b : Int) = ((a ^^^ b : Nat) : Int) := by
 have hx : a ^^^ b < 2 ^ 64 := Nat.xor_lt_two_pow (by omega) (by omega)
 have h1 : (BitVec.ofInt 64 (a : Int)).toNat = a := by
  rw [BitVec.ofInt_natCast, BitVec.toNat_ofNat]; exact Nat.mod_eq_of_lt (by omega)
 have h2 : (BitVec.ofInt 64 (b : Int)).toNat = b := by
  rw [BitVec.ofInt_natCast, BitVec.toNat_ofNat]; exact Nat.mod_eq_of_lt (by omega)
 show IntKind.u64.wrap ((BitVec.ofInt 64 (a : Int) ^^^ BitVec.ofInt 64 (b : Int)).toNat : Int) = _
 rw [BitVec.toNat_xor, h1, h2, wu64 (by omega)]
theorem xor_put (i : Int) (h : -9223372036854775808 ≤ i ∧ i ≤ 9223372036854775807) : Go.bits .xor .u64 (IntKind.u64.wrap i) 9223372036854775808 = i + 9223372036854775808 := by
 by_cases h0 : 0 ≤ i
 ·obtain ⟨n, rfl⟩ := Int.eq_ofNat_of_zero_le h0
  rw [wu64 (by omega)]
  have := bits_xor_nat n 9223372036854775808 (by omega) (by omega)
  rw [xor63 n (by omega)] at this
  exact this.trans (by omega)
 ·have hw : IntKind.u64.wrap i = i + 18446744073709551616 := by rw [IntKind.wrap_u64]; omega
  obtain ⟨n, hn⟩ := Int.eq_ofNat_of_zero_le (show 0 ≤ i + 9223372036854775808 by omega)
  rw [hw, show i + 18446744073709551616 = ((n + 9223372036854775808 : Nat) : Int) by omega]
  have := bits_xor_nat (n + 9223372036854775808) 9223372036854775808 (by omega) (by omega)
  rw [xor63' n (by omega)] at this
  exact this.trans (by omega)
theorem xor_get (n : Nat) (h : n < 18446744073709551616) : wrap64 (Go.bits .xor .u64 (n : Int) 9223372036854775808) = (n : Int) - 9223372036854775808 := by
 have := bits_xor_nat n 9223372036854775808 h (by omega)
 by_cases h0 : n < 9223372036854775808
 ·rw [xor63 n h0] at this
  rw [show ((9223372036854775808 : Nat) : Int) = 9223372036854775808 from rfl] at this
  rw [this]; unfold wrap64; omega
 ·obtain ⟨m, rfl⟩ : ∃ m, n = m + 9223372036854775808 := ⟨n - 9223372036854775808, by omega⟩
  rw [xor63' m (by omega)] at this
  rw [show ((9223372036854775808 : Nat) : Int) = 9223372036854775808 from rfl] at this
  rw [this]; unfold wrap64; omega
theorem shr8 (n m : Nat) (h : m ≤ 8) : shr .u64 (n : Int) (8 * (m : Int)) = ((n / 256 ^ m : Nat) : Int) := by
 unfold shr
 have e : min ((8 * (m : Int)).toNat) IntKind.u64.bits = 8 * m := by
  show min ((8 * (m : Int)).toNat) 64 = 8 * m
  omega
 have e2 : ((256 ^ m : Nat) : Int) = 2 ^ (8 * m) := by rw [show (256 : Nat) ^ m = 2 ^ (8 * m) from (Nat.pow_mul 2 8 m).symm, Int.natCast_pow]; rfl
 rw [e, ← e2]
 rfl
theorem be_head : ∀ k n, be (k + 1) n = UInt8.ofNat (n / 256 ^ k % 256) :: be k n
 | 0, n => by simp [be]
 | k + 1, n => by
  have ih := be_head k (n / 256)
  rw [be, ih, be, List.cons_append, Nat.div_div_eq_div_mul, Nat.pow_succ, Nat.mul_comm]
abbrev sn (xs : List Int) : Bytes := xs.map fun n => UInt8.ofNat n.toNat
theorem sn_eq (xs : List Int) : strOfNums xs = ⟨(sn xs).toArray⟩ := rfl
theorem word_Put.l1_ev (n w : Nat) (hw : w ≤ 8) : ∀ (d i : Nat) (x4 : List Int), i + d = w → x4.length ≤ 100 + i → Ev (fun k => word_Put.l1 k (n : Int) (w : Int) x4 (w : Int) (i : Int)) (⟨(sn x4 ++ be d n).toArray⟩ : ByteArray)
 | 0, i, x4, hi, hl => by
  refine Ev.step (fun k => word_Put.l1.eq_2 ..) ?_
  refine evneg (by omega) ?_
  exact evof (Ev.now _) (by simp [sn_eq, be])
 | d + 1, i, x4, hi, hl => by
  have e : wrap64 (8 * (wrap64 ((wrap64 ((w : Int) - 1)) - (i : Int)))) = 8 * (d : Int) := by
   have e1 : wrap64 ((w : Int) - 1) = (w : Int) - 1 := w64 (by omega)
   have e2 : wrap64 ((w : Int) - 1 - (i : Int)) = d := by rw [w64 (by omega)]; omega
   rw [e1, e2, w64 (by omega)]
  refine Ev.step (fun k => word_Put.l1.eq_2 ..) ?_
  refine evpos (by omega) ?_
  rw [e]
  refine evpos (by omega) ?_
  refine evpos (by omega) ?_
  rw [shr8 n d (by omega), w64 (by omega)]
  have ih := word_Put.l1_ev n w hw d (i + 1) (x4 ++ [((n / 256 ^ d : Nat) : Int) % 256]) (by omega) (by simp; omega)
  refine evof ih ?_
  rw [be_head]
  have h2 : (((n / 256 ^ d : Nat) : Int) % 256).toNat = n / 256 ^ d % 256 := by omega
  simp only [sn, List.map_append, List.map_cons, List.map_nil, h2, List.append_assoc, List.cons_append, List.nil_append]
theorem word_Put.j1_ev (n w : Nat) (hw : w ≤ 8) : Ev (fun k => word_Put.j1 k (n : Int) (w : Int)) (⟨(UInt8.ofNat (247 + w) :: be w n).toArray⟩ : ByteArray) := by
 refine Ev.step (fun k => word_Put.j1.eq_2 ..) ?_
 refine evof (word_Put.l1_ev n w hw w 0 _ (by omega) (by simp)) ?_
 have h2 : ((wrap64 (247 + (w : Int))) % 256).toNat = 247 + w := by rw [w64 (by omega)]; omega
 simp only [sn, List.map_cons, List.map_nil, h2, List.cons_append, List.nil_append]
theorem word_Put.l0_ev (n : Nat) (hn : n < 256 ^ 8) : ∀ (d w : Nat), w + d = 8 → (∀ v, 3 ≤ v → v < w → ¬ n < 256 ^ v) → 3 ≤ w → Ev (fun k => word_Put.l0 k (n : Int) (w : Int)) (⟨(UInt8.ofNat (247 + wd n) :: be (wd n) n).toArray⟩ : ByteArray)
 | 0, w, hd, hv, h3 => by
  refine Ev.step (fun k => word_Put.l0.eq_2 ..) ?_
  refine evneg (by omega) ?_
  have e : wd n = w := by
   obtain rfl : w = 8 := by omega
   unfold wd
   rw [if_neg (hv 3 (by omega) (by omega)), if_neg (hv 4 (by omega) (by omega)), if_neg (hv 5 (by omega) (by omega)), if_neg (hv 6 (by omega) (by omega)), if_neg (hv 7 (by omega) (by omega))]
  rw [e]
  exact word_Put.j1_ev n w (by omega)
 | d + 1, w, hd, hv, h3 => by
  refine Ev.step (fun k => word_Put.l0.eq_2 ..) ?_
  refine evpos (by omega) ?_
  have e8 : wrap64 (8 * (w : Int)) = 8 * (w : Int) := w64 (by omega)
  rw [e8]
  refine evpos (by omega) ?_
  rw [shr8 n w (by omega)]
  by_cases h : n < 256 ^ w
  ·have h0 : n / 256 ^ w = 0 := Nat.div_eq_of_lt h
   refine evneg (by omega) ?_
   have e : wd n = w := by
    have : w = 3 ∨ w = 4 ∨ w = 5 ∨ w = 6 ∨ w = 7 := by omega
    unfold wd
    rcases this with rfl | rfl | rfl | rfl | rfl
    ·rw [if_pos h]
    ·rw [if_neg (hv 3 (by omega) (by omega)), if_pos h]
    ·rw [if_neg (hv 3 (by omega) (by omega)), if_neg (hv 4 (by omega) (by omega)), if_pos h]
    ·rw [if_neg (hv 3 (by omega) (by omega)), if_neg (hv 4 (by omega) (by omega)), if_neg (hv 5 (by omega) (by omega)), if_pos h]
    ·rw [if_neg (hv 3 (by omega) (by omega)), if_neg (hv 4 (by omega) (by omega)), if_neg (hv 5 (by omega) (by omega)), if_neg (hv 6 (by omega) (by omega)), if_pos h]
   rw [e]
   exact word_Put.j1_ev n w (by omega)
  ·have h0 : 0 < n / 256 ^ w := Nat.div_pos (by omega) (Nat.pow_pos (by decide))
   refine evpos (by omega) ?_
   rw [w64 (by omega)]
   exact word_Put.l0_ev n hn d (w + 1) (by omega) (fun v h1 h2 => by
    by_cases e : v = w
    ·rw [e]; exact h
    ·exact hv v h1 (by omega)) (by omega)
theorem word_Put.ev (n : Nat) (hn : n < 256 ^ 8) : Ev (fun k => word_Put.f k (n : Int)) (⟨(vput n).toArray⟩ : ByteArray) := by
 unfold word_Put.f
 unfold vput
 by_cases a1 : n ≤ 240
 ·rw [if_pos a1]
  refine evpos (by omega) (evof (Ev.now _) ?_)
  have h2 : ((n : Int) % 256).toNat = n := by omega
  simp [sn_eq, sn, h2]
 rw [if_neg a1]
 refine evneg (by omega) ?_
 by_cases a2 : n ≤ 2287
 ·rw [if_pos a2]
  refine evpos (by omega) (evof (Ev.now _) ?_)
  rw [wu64 (n := (n : Int) - 240) (by omega), wu64 (by omega)]
  have h2 : ((241 + ((n : Int) - 240) / 256) % 256).toNat = 241 + (n - 240) / 256 := by omega
  have h3 : (((n : Int) - 240) % 256).toNat = (n - 240) % 256 := by omega
  simp only [sn_eq, sn, List.map_cons, List.map_nil, h2, h3]
 rw [if_neg a2]
 refine evneg (by omega) ?_
 by_cases a3 : n ≤ 67823
 ·rw [if_pos a3]
  refine evpos (by omega) (evof (Ev.now _) ?_)
  rw [wu64 (n := (n : Int) - 2287) (by omega), wu64 (by omega)]
  have h2 : ((((n : Int) - 2287 - 1) / 256) % 256).toNat = (n - 2288) / 256 % 256 := by omega
  have h3 : (((n : Int) - 2287 - 1) % 256).toNat = (n - 2288) % 256 := by omega
  have h4 : UInt8.ofNat (Int.toNat 249) = 249 := rfl
  simp only [sn_eq, sn, List.map_cons, List.map_nil, h2, h3, h4, be, List.nil_append, List.cons_append]
 rw [if_neg a3]
 refine evneg (by omega) ?_
 exact word_Put.l0_ev n hn 5 3 (by omega) (fun v h1 h2 => by omega) (by omega)
end Go.Proofs.YtimnjdgelencpaaDoor.A
