/- What a page's bytes are, and what is read of them: plain words, no program in sight. -/
import Derived.Test.YtlagllfbomaehaaGreatDoorPBase
import Derived.Test.YtlagllfbomaehaaGreatDoorCrc
import Derived.Lib.TrimByte
namespace Go.Proofs.YtlagllfbomaehaaGreatDoor.A
open Go Go.RowKit Go.Proofs Go.Proofs.YtlagllfbomaehaaGreatDoorW Go.Proofs.YtlagllfbomaehaaGreatDoorW.PrintWords
set_option linter.unusedSimpArgs false
set_option linter.unusedVariables false

def zeros (n : Nat) : Bytes := List.replicate n 0
def le4 (n : Nat) : Bytes := [UInt8.ofNat (n % 256), UInt8.ofNat (n / 256 % 256), UInt8.ofNat (n / 65536 % 256), UInt8.ofNat (n / 16777216)]
def rd4 : Bytes → Nat
  | a :: b :: c :: d :: _ => a.toNat + 256 * b.toNat + 65536 * c.toNat + 16777216 * d.toNat
  | _ => 0
theorem ofNat_toNat {n : Nat} (h : n < 256) : (UInt8.ofNat n).toNat = n := by rw [UInt8.toNat_ofNat']; exact Nat.mod_eq_of_lt h
theorem rd4_le4 (n : Nat) (h : n < 4294967296) (r : Bytes) : rd4 (le4 n ++ r) = n := by
  show (UInt8.ofNat (n % 256)).toNat + 256 * (UInt8.ofNat (n / 256 % 256)).toNat + 65536 * (UInt8.ofNat (n / 65536 % 256)).toNat + 16777216 * (UInt8.ofNat (n / 16777216)).toNat = n
  rw [ofNat_toNat (by omega), ofNat_toNat (by omega), ofNat_toNat (by omega), ofNat_toNat (by omega)]
  omega
theorem le4_len (n : Nat) : (le4 n).length = 4 := rfl
/-- A page: its head, its sum, its body, zeros. -/
def frontL (k lv ct rt sf : Nat) : Bytes := [UInt8.ofNat k, UInt8.ofNat lv, UInt8.ofNat (ct % 256), UInt8.ofNat (ct / 256)] ++ le4 rt ++ le4 sf
def pageL (k lv ct rt sf : Nat) (body : Bytes) (p : Nat) : Bytes :=
  frontL k lv ct rt sf ++ (le4 (Crc.sum (frontL k lv ct rt sf ++ [0, 0, 0, 0] ++ (body ++ zeros (p - 16 - body.length)))) ++ (body ++ zeros (p - 16 - body.length)))
theorem frontL_len (k lv ct rt sf : Nat) : (frontL k lv ct rt sf).length = 12 := rfl
theorem pageL_len (k lv ct rt sf : Nat) (body : Bytes) (p : Nat) (h : body.length + 16 ≤ p) : (pageL k lv ct rt sf body p).length = p := by
  unfold pageL zeros
  simp only [List.length_append, frontL_len, le4_len, List.length_replicate]
  omega
theorem pageL_drop (k lv ct rt sf : Nat) (body : Bytes) (p : Nat) : (pageL k lv ct rt sf body p).drop 16 = body ++ zeros (p - 16 - body.length) := by
  have e : ∀ (a b c : Bytes), a.length = 12 → b.length = 4 → (a ++ (b ++ c)).drop 16 = c := fun a b c h1 h2 => by
    rw [← List.append_assoc, List.drop_left' (by simp [h1, h2])]
  exact e _ _ _ rfl rfl
/-- The body's zeros may be told or not. -/
theorem pageL_pad (k lv ct rt sf : Nat) (body : Bytes) (p : Nat) (h : body.length + 16 ≤ p) : pageL k lv ct rt sf (body ++ zeros (p - 16 - body.length)) p = pageL k lv ct rt sf body p := by
  unfold pageL
  have e : (body ++ zeros (p - 16 - body.length)) ++ zeros (p - 16 - (body ++ zeros (p - 16 - body.length)).length) = body ++ zeros (p - 16 - body.length) := by
    have : p - 16 - (body ++ zeros (p - 16 - body.length)).length = 0 := by unfold zeros; rw [List.length_append, List.length_replicate]; omega
    rw [this]; unfold zeros; simp
  rw [e]
theorem page_at (k lv ct rt sf : Nat) (body : Bytes) (p : Nat) (i : Nat) (hi : i < 12) : (pageL k lv ct rt sf body p).drop i = (frontL k lv ct rt sf).drop i ++ (le4 (Crc.sum (frontL k lv ct rt sf ++ [0, 0, 0, 0] ++ (body ++ zeros (p - 16 - body.length)))) ++ (body ++ zeros (p - 16 - body.length))) := by
  unfold pageL
  rw [List.drop_append_of_le_length (by rw [frontL_len]; omega)]
theorem dw_idem (p : UInt8 → Bool) : ∀ l : Bytes, (l.dropWhile p).dropWhile p = l.dropWhile p
  | [] => rfl
  | a :: l => by
    by_cases h : p a = true
    · rw [List.dropWhile_cons_of_pos h]; exact dw_idem p l
    · rw [List.dropWhile_cons_of_neg h, List.dropWhile_cons_of_neg h]
theorem dw_nil (p : UInt8 → Bool) : ∀ l : Bytes, l.dropWhile p = [] ↔ ∀ a ∈ l, p a = true
  | [] => by simp
  | a :: l => by
    by_cases h : p a = true
    · rw [List.dropWhile_cons_of_pos h, dw_nil p l]; simp [h]
    · rw [List.dropWhile_cons_of_neg h]; simp [h]
theorem trimB_nil (l : Bytes) : Lib.trimB l 0 = [] ↔ l = zeros l.length := by
  unfold Lib.trimB Lib.trimLeftB Lib.trimRightB zeros
  constructor
  · intro h
    have h1 : ∀ a ∈ l.reverse.dropWhile (· == (0 : UInt8)), (a == (0 : UInt8)) = true := fun a ha => (dw_nil _ _).1 h a (List.mem_reverse.2 ha)
    have h2 : (l.reverse.dropWhile (· == (0 : UInt8))) = [] := by rw [← dw_idem]; exact (dw_nil _ _).2 h1
    have h3 := (dw_nil _ _).1 h2
    exact List.eq_replicate_iff.2 ⟨rfl, fun b hb => by simpa using h3 b (List.mem_reverse.2 hb)⟩
  · intro h
    have h3 := (List.eq_replicate_iff.1 h).2
    have h2 : (l.reverse.dropWhile (· == (0 : UInt8))) = [] := (dw_nil _ _).2 fun a ha => by simpa using h3 a (List.mem_reverse.1 ha)
    rw [h2]; rfl
end Go.Proofs.YtlagllfbomaehaaGreatDoor.A
