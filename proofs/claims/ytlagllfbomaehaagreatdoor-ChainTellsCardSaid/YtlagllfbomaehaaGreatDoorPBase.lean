/- Small words for what the print's functions come to: bytes of a text, steps of a reckoning. No condition. -/
import Derived.Test.YtlagllfbomaehaaGreatDoorAx0
namespace Go.Proofs.YtlagllfbomaehaaGreatDoor.A
open Go Go.RowKit Go.Proofs Go.Proofs.YtlagllfbomaehaaGreatDoorW Go.Proofs.YtlagllfbomaehaaGreatDoorW.PrintWords
set_option linter.unusedSimpArgs false
set_option linter.unusedVariables false
abbrev Bytes := List UInt8
theorem evpos {α : Type} {c : Prop} [Decidable c] {g h : Nat → Option α} {r : α} (hc : c) (k : Ev g r) : Ev (fun n => if c then g n else h n) r := Ev.congr (fun _ => if_pos hc) k
theorem evneg {α : Type} {c : Prop} [Decidable c] {g h : Nat → Option α} {r : α} (hc : ¬ c) (k : Ev h r) : Ev (fun n => if c then g n else h n) r := Ev.congr (fun _ => if_neg hc) k
theorem evbind {α β : Type} {g : Nat → Option α} {f : Nat → α → Option β} {a : α} {r : β} (h : Ev g a) (k : Ev (fun n => f n a) r) : Ev (fun n => (g n).bind (f n)) r := Ev.bind h k
theorem evsome {α β : Type} {f : Nat → α → Option β} {a : α} {r : β} (k : Ev (fun n => f n a) r) : Ev (fun n => (some a).bind (f n)) r := k
theorem evof {α : Type} {g : Nat → Option α} {r r' : α} (h : Ev g r) (e : r = r') : Ev g r' := e ▸ h
abbrev B (s : ByteArray) : Bytes := s.data.toList
theorem B_len (s : ByteArray) : (B s).length = s.size := data_length s
theorem B_toList (s : ByteArray) : s.toList = B s := ByteArray.toList_eq s
theorem ba_ext {a b : ByteArray} (h : B a = B b) : a = b := by
  obtain ⟨⟨a⟩⟩ := a; obtain ⟨⟨b⟩⟩ := b
  simp only [B] at h; rw [h]
theorem B_mk (l : Bytes) : B ⟨l.toArray⟩ = l := rfl
theorem B_append (a b : ByteArray) : B (a ++ b) = B a ++ B b := by simp [B, ByteArray.data_append]
theorem B_extract (s : ByteArray) (i j : Nat) : B (s.extract i j) = ((B s).drop i).take (j - i) := by
  simp [B, ByteArray.data_extract, Array.toList_extract, List.extract_eq_take_drop]
theorem B_take (s : ByteArray) (j : Nat) : B (s.extract 0 j) = (B s).take j := by rw [B_extract]; simp
theorem dn {s : ByteArray} {i : Nat} (h : i < s.size) : ∃ c r, (B s).drop i = c :: r ∧ bt s i = (c.toNat : Int) ∧ (B s).drop (i + 1) = r ∧ r.length = s.size - i - 1 := by
  have hl := B_len s
  refine ⟨(B s)[i]'(by omega), (B s).drop (i + 1), List.drop_eq_getElem_cons (by omega), ?_, rfl, by rw [List.length_drop]; omega⟩
  have h2 : ((i : Int).toNat) < s.size := by omega
  unfold bt
  rw [dif_pos h2]
  rfl
theorem dn_end {s : ByteArray} {i : Nat} (h : s.size ≤ i) : (B s).drop i = [] := List.drop_eq_nil_of_le (by rw [B_len]; exact h)
theorem w64 {n : Int} (h : -9223372036854775808 ≤ n ∧ n ≤ 9223372036854775807) : wrap64 n = n := Go.IntWalk.wrap64_in n h
theorem ev_const {α : Type} {o : Option α} {r : α} (h : o = some r) : Ev (fun _ => o) r := Ev.congr (fun _ => h) (Ev.now r)
abbrev sn (xs : List Int) : Bytes := xs.map fun n => UInt8.ofNat n.toNat
theorem sn_eq (xs : List Int) : strOfNums xs = ⟨(sn xs).toArray⟩ := rfl
theorem mn_le (a b : Int) (h : 0 ≤ a) (hb : 0 ≤ b) : 0 ≤ mn a b ∧ mn a b ≤ a ∧ mn a b ≤ b := by unfold mn; split <;> omega
theorem ext_size (s : ByteArray) (n : Nat) (h : n ≤ s.size) : (s.extract 0 n).size = n := by rw [ByteArray.size_extract]; omega
theorem eq_toList {a b : ByteArray} : a.toList = b.toList ↔ a = b := ⟨fun h => ba_ext (by rw [← B_toList, ← B_toList, h]), fun h => by rw [h]⟩
end Go.Proofs.YtlagllfbomaehaaGreatDoor.A
