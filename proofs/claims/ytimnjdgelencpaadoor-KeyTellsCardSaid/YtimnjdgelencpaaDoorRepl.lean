/- strings.ReplaceAll of a byte 0 by the bytes 0, 255: what it returns, whatever world (no variable of the library's is read). Conditions: the text has at most 1000000 bytes. -/
import Derived.Test.YtimnjdgelencpaaDoorShelf
import Derived.Test.YtimnjdgelencpaaDoorWords
import Derived.Lib.Hide
import Derived.Lib.SlicesS
namespace Go.Proofs.YtimnjdgelencpaaDoor.Hand
open Go.RowKit Go.Shelf
def esc0 (l : List UInt8) : List UInt8 := l.flatMap fun c => if c = 0 then [0, 255] else [c]
theorem esc0_append (a b : List UInt8) : esc0 (a ++ b) = esc0 a ++ esc0 b := by simp [esc0]
theorem esc0_none : ∀ l : List UInt8, (∀ x ∈ l, x ≠ 0) → esc0 l = l
 | [], _ => rfl
 | x :: l, h => by
  have ih := esc0_none l fun y hy => h y (List.mem_cons_of_mem _ hy)
  have hx := h x (List.mem_cons_self ..)
  simp only [esc0, List.flatMap_cons, if_neg hx] at ih ⊢
  rw [ih]
  rfl
theorem esc0_len (l : List UInt8) : (esc0 l).length = l.length + Lib.countByte l 0 := by
 unfold Lib.countByte
 induction l with
 | nil => rfl
 | cons x l ih =>
  simp only [esc0, List.flatMap_cons, List.length_append, List.count_cons, List.length_cons] at ih ⊢
  by_cases h : x = 0
  ·subst h; simp [ih]; omega
  ·simp [h, ih]; omega
theorem count_zero {l : List UInt8} (h : Lib.countByte l 0 = 0) : ∀ x ∈ l, x ≠ 0 := by
 intro x hx e
 subst e
 exact List.count_eq_zero.1 h hx
theorem index_split {l : List UInt8} (h : Lib.countByte l 0 ≠ 0) : ∃ j : Nat, Lib.indexByte l 0 = (j : Int) ∧ j < l.length ∧ (∀ x ∈ l.take j, x ≠ 0) ∧ l.drop j = 0 :: l.drop (j + 1) := by
 induction l with
 | nil => exact absurd rfl h
 | cons x l ih =>
  by_cases hx : x = 0
  ·subst hx; exact ⟨0, by simp [Lib.indexByte], by simp, by simp, by simp⟩
  ·have hc : Lib.countByte l 0 ≠ 0 := by
    intro e; apply h; unfold Lib.countByte at e ⊢; rw [List.count_cons, e]; simpa using hx
   obtain ⟨j, h1, h2, h3, h4⟩ := ih hc
   refine ⟨j + 1, ?_, by simpa using h2, ?_, by simpa using h4⟩
   ·have : (x == 0) = false := by simpa using hx
    simp only [Lib.indexByte, this, h1]
    have : ((j : Int) == -1) = false := beq_eq_false_iff_ne.2 (by omega)
    simp [this]
   ·intro y hy
    rw [List.take_succ_cons] at hy
    rcases List.mem_cons.1 hy with rfl | hy
    ·exact hx
    ·exact h3 y hy
theorem count_le (l : List UInt8) : Lib.countByte l 0 ≤ l.length := List.count_le_length
theorem count_drop {l : List UInt8} {j : Nat} (h1 : ∀ x ∈ l.take j, x ≠ 0) (h2 : l.drop j = 0 :: l.drop (j + 1)) : Lib.countByte l 0 = Lib.countByte (l.drop (j + 1)) 0 + 1 := by
 unfold Lib.countByte
 have e : l = l.take j ++ 0 :: l.drop (j + 1) := by rw [← h2, List.take_append_drop]
 have e0 : (l.take j).count 0 = 0 := List.count_eq_zero.2 fun hm => h1 0 hm rfl
 calc l.count 0 = (l.take j ++ 0 :: l.drop (j + 1)).count 0 := by rw [← e]
  _ = (l.drop (j + 1)).count 0 + 1 := by rw [List.count_append, List.count_cons, e0]; simp
theorem count_one (s : ByteArray) (c : UInt8) (w : World) : Calls Tryd.prog 68 #[.string s, .string ⟨#[c]⟩] w fun e w' => e = .returned (.int .i64 (Lib.countByte s.data.toList c)) ∧ w' = w := Any.strings_Count_one { Tryd.lays155 with } s c w
theorem index_one (s : ByteArray) (c : UInt8) (w : World) : Calls Tryd.prog 70 #[.string s, .string ⟨#[c]⟩] w fun e w' => e = .returned (.int .i64 (Lib.indexByte s.data.toList c)) ∧ w' = w := Any.strings_Index_one { Tryd.lays155 with } s c w
theorem grow (B b n : Nat) (w : World) (hB : B ≤ b) (hbk : w.heap[b]? = some (.cells #[.pointer none, .slice none 0 0] 109 (0, 0))) (hBw : B ≤ w.heap.size) (hn : n ≤ 281474976710656) :
  Calls Tryd.prog 69 #[.pointer (some ⟨b, 0, none⟩), .int .i64 n] w fun e w' => e = .returned (.tuple #[]) ∧ (Lib.BuilderAt 109 5 B b (.pointer (some ⟨b, 0, none⟩)) [] w' ∧ Below B w w') := Any.Builder_Grow_fresh { Tryd.lays155 with } Tryd.Builder_Extra_155 B b n w hB hbk hBw hn
theorem write (B b : Nat) (bs : List Value) (s : ByteArray) (w : World) (h : Lib.IsBuilder 109 5 B b bs w) (hlen : bs.length + s.size ≤ 140737488355328) (hBw : B ≤ w.heap.size) :
  Calls Tryd.prog 71 #[.pointer (some ⟨b, 0, none⟩), .string s] w fun e w' => e = .returned (.tuple #[.int .i64 s.size, .nilIface]) ∧ (Lib.BuilderAt 109 5 B b (.pointer (some ⟨b, 0, none⟩)) (bs ++ Lib.strCells s) w' ∧ Below B w w') := Any.Builder_WriteString { Tryd.lays155 with } Tryd.Builder_Extra_155 B b bs s w h hlen hBw
theorem told (B b : Nat) (l : List UInt8) (w : World) (h : Lib.IsBuilder 109 5 B b (Lib.byteCells l) w) (hBw : B ≤ w.heap.size) :
  Calls Tryd.prog 73 #[.pointer (some ⟨b, 0, none⟩)] w fun e w' => e = .returned (.string ⟨l.toArray⟩) ∧ Below B w w' := Any.Builder_String_any { Tryd.lays155 with } Tryd.Builder_Extra_155 B b l w h hBw
theorem mk_list (s : ByteArray) : (⟨s.data.toList.toArray⟩ : ByteArray) = s := by cases s; rfl
set_option maxHeartbeats 4000000 in
set_option maxRecDepth 100000 in
theorem replace0 (s : ByteArray) (w : World) (hs : s.size ≤ 1000000) :
  Calls Tryd.prog 57 #[.string s, .string ⟨#[0]⟩, .string ⟨#[0, 255]⟩, .int .i64 (-1)] w fun e w' =>
   e = .returned (.string ⟨(esc0 s.data.toList).toArray⟩) ∧ Below w.heap.size w w' := by
 have hl : s.data.toList.length = s.size := (Lib.size_eq s).symm
 have hcl := count_le s.data.toList
 obtain ⟨K, hK⟩ : ∃ K : Nat, Lib.countByte s.data.toList 0 = K := ⟨_, rfl⟩
 have hC := count_one s 0
 rw [hK] at hC hcl
 have hlen := esc0_len s.data.toList
 rw [hK] at hlen
 by_cases hz : K = 0
 ·subst hz
  have hC0 : ∀ w, Calls Tryd.prog 68 #[.string s, .string ⟨#[0]⟩] w fun e w' => e = .returned (.int .i64 0) ∧ w' = w := fun w => hC w
  clear hC
  have hnone := esc0_none s.data.toList (count_zero hK)
  have HF := Lib.hid hnone
  clear hnone hK hlen hl
  go_enter Tryd.func57, Tryd.ntmps57
  go_wp2_with (go_at_call 68; refine (hC0 _).mono ?_; rintro e w' ⟨rfl, rfl⟩)
  go_ret
  exact ⟨by rw [HF.out, mk_list]; rfl, Below.refl _ _⟩
 ·have hcz : ((K : Int) == 0) = false := beq_eq_false_iff_ne.2 (by omega)
  have HK := Lib.hid hK
  have HL := Lib.hid hl
  have HE := Lib.hid hlen
  have hKs : K ≤ s.size := by omega
  clear hK hl hlen
  go_enter Tryd.func57, Tryd.ntmps57
  go_wp2_with (go_at_call 68; refine (hC _).mono ?_; rintro e w' ⟨rfl, hw⟩; obtain rfl := hw.symm)
  refine (grow w.heap.size w.heap.size (s.size + K) _ (Nat.le_refl _) (heap_alloc_new w _) (by simp) (by omega)).mono ?_
  rintro e w1 ⟨rfl, hb0, hb1⟩
  have H1 := Lib.hid (Or.inr hb0 : Lib.IsBuilder 109 5 w.heap.size w.heap.size (Lib.byteCells []) w1)
  have Hb1 := Lib.hid (((Below.refl w.heap.size w).alloc (Nat.le_refl _) _).trans hb1)
  clear hb0 hb1
  go_wp2_with fail
  go_loopg [11, 53] K (fun g s11 s53 wx => ∃ (i start : Nat), s53 = .int .i64 i ∧ s11 = .int .i64 start ∧ i + g = K ∧ start ≤ s.size ∧
   Hid (Lib.IsBuilder 109 5 w.heap.size w.heap.size (Lib.byteCells (esc0 (s.data.toList.take start))) wx) ∧ Hid (Below w.heap.size w wx) ∧ Hid (Lib.countByte (s.data.toList.drop start) 0 = g) ∧ (esc0 (s.data.toList.take start)).length + (s.size - start) + g = s.size + K)
  case atStart => exact ⟨0, 0, rfl, rfl, by omega, Nat.zero_le _, H1, Hb1, Lib.hid (by simpa using HK.out), by simp [esc0]⟩
  case round =>
   obtain ⟨i, start, rfl, rfl, hig, hst, HB, HW, HC, hbd⟩ := hrel
   have hBw : w.heap.size ≤ wr.heap.size := HW.out.size
   have c1 : (0 : Int) ≤ (start : Int) := by omega
   have c2 : (start : Int) ≤ (s.size : Int) := by omega
   cases gk with
   | zero =>
    have hiK : ¬ ((i : Int) < (K : Int)) := by omega
    have hfin : esc0 (s.data.toList.take start) ++ s.data.toList.drop start = esc0 s.data.toList := by
     have h := esc0_append (s.data.toList.take start) (s.data.toList.drop start)
     rw [List.take_append_drop, esc0_none _ (count_zero HC.out)] at h
     exact h.symm
    have HF := Lib.hid hfin
    clear hfin
    go_wp2_with fail
    refine (write w.heap.size w.heap.size _ _ wr HB.out (by rw [Lib.byteCells_length, ByteArray.size_extract]; omega) hBw).mono ?_
    rintro e w3 ⟨rfl, h3, hb3⟩
    rw [Lib.strCells_eq, Lib.extract_to_end, ← Lib.byteCells_append, HF.out] at h3
    have H3 := Lib.hid (Or.inr h3 : Lib.IsBuilder 109 5 w.heap.size w.heap.size _ w3)
    have Hb3 := Lib.hid (HW.out.trans hb3)
    have hBw3 : w.heap.size ≤ w3.heap.size := Hb3.out.size
    clear h3 hb3
    go_wp2_with fail
    refine (told w.heap.size w.heap.size _ w3 H3.out hBw3).mono ?_
    rintro e w5 ⟨rfl, hb5⟩
    have Hb5 := Lib.hid (Hb3.out.trans hb5)
    clear hb5
    go_wp2
    go_ret
    exact ⟨rfl, Hb5.out⟩
   | succ g =>
    have hiK : (i : Int) < (K : Int) := by omega
    have hne : Lib.countByte (s.data.toList.drop start) 0 ≠ 0 := by rw [HC.out]; omega
    obtain ⟨j, hj, hjl, hj1, hj2⟩ := index_split hne
    have hjs : start + j < s.size := by rw [List.length_drop, HL.out] at hjl; omega
    have hcd := count_drop hj1 hj2
    rw [HC.out] at hcd
    rw [List.drop_drop] at hcd hj2
    have e1 : s.data.toList.take (start + (j + 1)) = s.data.toList.take start ++ (s.data.toList.drop start).take (j + 1) := List.take_add
    have e2 : (s.data.toList.drop start).take (j + 1) = (s.data.toList.drop start).take j ++ [0] := by
     rw [List.take_add_one, show (s.data.toList.drop start)[j]? = some 0 from by
      have := congrArg (fun l => l[0]?) hj2
      simpa [List.getElem?_drop] using this]
     rfl
    have e3 : esc0 (s.data.toList.take (start + (j + 1))) = esc0 (s.data.toList.take start) ++ (s.data.toList.drop start).take j ++ [0, 255] := by
     rw [e1, e2, esc0_append, esc0_append, esc0_none _ hj1, List.append_assoc]
     rfl
    have hlen2 : (esc0 (s.data.toList.take (start + (j + 1)))).length = (esc0 (s.data.toList.take start)).length + j + 2 := by
     rw [e3]; simp only [List.length_append, List.length_take, List.length_drop, HL.out]; simp; omega
    have hn : Lib.byteCells (esc0 (s.data.toList.take start)) ++ Lib.strCells (s.extract start (start + j)) ++ Lib.strCells ⟨#[0, 255]⟩ = Lib.byteCells (esc0 (s.data.toList.take (start + (j + 1)))) := by
     rw [Lib.strCells_eq, Lib.strCells_eq, Lib.extract_data, Nat.add_sub_cancel_left, ← Lib.byteCells_append, ← Lib.byteCells_append, e3]
    have Hn := Lib.hid hn
    have HJ := Lib.hid hj
    have HCD := Lib.hid hcd
    have c3 : (start : Int) ≤ (start : Int) + (j : Int) := by omega
    have c4 : (start : Int) + (j : Int) ≤ (s.size : Int) := by omega
    clear hn hj hcd e1 e2 e3 hj1 hj2 hne
    go_wp2_with fail
    refine (index_one _ 0 _).mono ?_
    rintro e w2 ⟨rfl, hw⟩
    obtain rfl := hw.symm
    rw [Lib.extract_to_end, HJ.out]
    go_wp2_with fail
    refine (write w.heap.size w.heap.size _ (s.extract start (start + j)) wr HB.out (by rw [Lib.byteCells_length, ByteArray.size_extract]; omega) hBw).mono ?_
    rintro e w3 ⟨rfl, h3, hb3⟩
    have hBw3 : w.heap.size ≤ w3.heap.size := Nat.le_trans hBw hb3.size
    have H3 := Lib.hid h3
    have Hb3 := Lib.hid hb3
    clear h3 hb3
    go_wp2_with fail
    refine (write w.heap.size w.heap.size _ ⟨#[0, 255]⟩ w3 (Or.inr H3.out) (by rw [List.length_append, Lib.byteCells_length, Lib.strCells_length, ByteArray.size_extract]; show _ + 2 ≤ _; omega) hBw3).mono ?_
    rintro e w4 ⟨rfl, h4, hb4⟩
    rw [Hn.out] at h4
    have H4 := Lib.hid (Or.inr h4 : Lib.IsBuilder 109 5 w.heap.size w.heap.size _ w4)
    have Hb4 := Lib.hid ((HW.out.trans Hb3.out).trans hb4)
    clear h4 hb4
    go_wp2
    go_roundg g
    case measure => omega
    case rel => exact ⟨i + 1, start + (j + 1), by go_num, by go_num, by omega, by omega, H4, Hb4, Lib.hid (by have := HCD.out; omega), by omega⟩
set_option maxHeartbeats 1000000 in
theorem replaceAll0 (s : ByteArray) (w : World) (hs : s.size ≤ 1000000) :
  Calls Tryd.prog 40 #[.string s, .string ⟨#[0]⟩, .string ⟨#[0, 255]⟩] w fun e w' =>
   e = .returned (.string ⟨(esc0 s.data.toList).toArray⟩) ∧ Below w.heap.size w w' := by
 go_enter Tryd.func40, Tryd.ntmps40
 go_wp2_with (go_at_call 57; refine (replace0 s _ hs).mono ?_; rintro e w' ⟨rfl, hb⟩)
 go_ret
 exact ⟨rfl, hb⟩
end Go.Proofs.YtimnjdgelencpaaDoor.Hand
