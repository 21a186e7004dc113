/- head.Open, withyref01.Repeat, withyref06.Size, of what the print says they compute, in plain words. Condition: texts of at most a million bytes. -/
import Derived.Test.YtlagllfbomaehaaGreatDoorPHead
namespace Go.Proofs.YtlagllfbomaehaaGreatDoor.A
open Go Go.RowKit Go.Proofs Go.Proofs.YtlagllfbomaehaaGreatDoorW Go.Proofs.YtlagllfbomaehaaGreatDoorW.PrintWords Go.Proofs.YtlagllfbomaehaaGreatDoorW.PrintMore Go.Proofs.YtlagllfbomaehaaGreatDoor.Hand
set_option linter.unusedSimpArgs false
set_option linter.unusedVariables false
theorem rd4_lt (l : Bytes) : rd4 l < 4294967296 := by
  unfold rd4
  split
  · rename_i a b c d _
    have := a.toNat_lt; have := b.toNat_lt; have := c.toNat_lt; have := d.toNat_lt
    omega
  · decide
def rdKind (s : ByteArray) : Int := bt s 0
def rdLevel (s : ByteArray) : Int := bt s 1
def rdCount (s : ByteArray) : Int := bt s 2 + 256 * bt s 3
def rdRight (s : ByteArray) : Int := (rd4 ((B s).drop 4) : Nat)
def rdSelf (s : ByteArray) : Int := (rd4 ((B s).drop 8) : Nat)
def openB (s : ByteArray) : Bool := sizeB s.size && (sealOk (rdKind s) (rdLevel s) (rdCount s) (rdRight s) (rdSelf s) && decide (pageL (rdKind s).toNat (rdLevel s).toNat (rdCount s).toNat (rdRight s).toNat (rdSelf s).toNat ((B s).drop 16) s.size = B s))
def openS (s : ByteArray) : Int × Int × Int × Int × Int × ByteArray × Int :=
  if openB s = true then (rdKind s, rdLevel s, rdCount s, rdRight s, rdSelf s, s.extract 16 s.size, 0) else (0, 0, 0, 0, 0, ⟨#[]⟩, 3)
theorem head_Open.ev (s : ByteArray) (hs : s.size ≤ 1000000) : Ev (fun n => head_Open.f n s) (openS s) := by
  unfold head_Open.f openS openB
  by_cases hp : sizeB s.size = true
  · have hp2 := sizeB_le hp
    rw [hp, Bool.true_and]
    refine evbind (ev_const (show disk_Size.f (s.size : Int) = some true from by unfold disk_Size.f; rw [hp])) (evpos rfl ?_)
    refine evbind (word_Read.ev s hs 4 (by omega)) (evbind (word_Read.ev s hs 8 (by omega)) ?_)
    refine evpos (by omega) (evpos (by omega) (evpos (by omega) (evpos (by omega) (evpos (by omega) ?_))))
    have b0 := bt_range s 0
    have b1 := bt_range s 1
    have b2 := bt_range s 2
    have b3 := bt_range s 3
    have r4 := rd4_lt ((B s).drop 4)
    have r8 := rd4_lt ((B s).drop 8)
    have e0 : wrap64 (bt s 0) = rdKind s := w64 (by omega)
    have e1 : wrap64 (bt s 1) = rdLevel s := w64 (by omega)
    have e2 : wrap64 ((wrap64 (bt s 2)) + (wrap64 (256 * (wrap64 (bt s 3))))) = rdCount s := by
      rw [w64 (n := bt s 2) (by omega), w64 (n := bt s 3) (by omega), w64 (n := 256 * bt s 3) (by omega), w64 (by omega)]; rfl
    have e3 : wrap64 ((rd4 ((B s).drop 4) : Nat) : Int) = rdRight s := w64 (by omega)
    have e4 : wrap64 ((rd4 ((B s).drop 8) : Nat) : Int) = rdSelf s := w64 (by omega)
    simp only [e0, e1, e2, e3, e4]
    have hz : (s.extract 16 s.size).size = s.size - 16 := by rw [ByteArray.size_extract]; omega
    have hB16 : B (s.extract 16 s.size) = (B s).drop 16 := by
      rw [B_extract]; apply List.take_of_length_le; rw [List.length_drop, B_len]; omega
    have hSl := head_Seal.ev (rdKind s) (rdLevel s) (rdCount s) (rdRight s) (rdSelf s) (s.extract 16 s.size) (s.size : Int) (by rw [hz]; omega)
    cases hok : sealOk (rdKind s) (rdLevel s) (rdCount s) (rdRight s) (rdSelf s) with
    | false =>
      have hS : sealS (rdKind s) (rdLevel s) (rdCount s) (rdRight s) (rdSelf s) (s.extract 16 s.size) (s.size : Int) = (⟨#[]⟩, 3) := by unfold sealS; rw [if_pos hp, hok]; rfl
      rw [hS] at hSl
      exact evbind hSl (evneg (by decide) (Ev.now _))
    | true =>
      have hS : sealS (rdKind s) (rdLevel s) (rdCount s) (rdRight s) (rdSelf s) (s.extract 16 s.size) (s.size : Int) = (⟨(pageL (rdKind s).toNat (rdLevel s).toNat (rdCount s).toNat (rdRight s).toNat (rdSelf s).toNat ((B s).drop 16) s.size).toArray⟩, 0) := by
        unfold sealS; rw [if_pos hp, if_pos hok, if_neg (by rw [hz]; omega), hB16]; rfl
      rw [hS] at hSl
      refine evbind hSl (evpos rfl ?_)
      by_cases hq : pageL (rdKind s).toNat (rdLevel s).toNat (rdCount s).toNat (rdRight s).toNat (rdSelf s).toNat ((B s).drop 16) s.size = B s
      · rw [decide_eq_true hq]
        exact evpos (by rw [B_toList, B_toList]; exact hq) (Ev.now _)
      · rw [decide_eq_false hq]
        exact evneg (by rw [B_toList, B_toList]; exact hq) (Ev.now _)
  · have hp : sizeB s.size = false := by simpa using hp
    rw [hp, Bool.false_and, if_neg (by decide)]
    exact evbind (ev_const (show disk_Size.f (s.size : Int) = some false from by unfold disk_Size.f; rw [hp])) (evneg (by decide) (Ev.now _))
theorem rep_l0 (c n : Int) (hn : n ≤ 1000000) : ∀ (d : Nat) (i : Nat) (x : List Int), (i : Int) + d = max n i → x.length = i → Ev (fun k => withyref01_Repeat.l0 k c n x (i : Int)) (strOfNums (x ++ List.replicate d c))
  | 0, i, x, hi, hx => by
    refine Ev.step (fun k => withyref01_Repeat.l0.eq_2 ..) ?_
    exact evneg (by omega) (evof (Ev.now _) (by simp))
  | d + 1, i, x, hi, hx => by
    refine Ev.step (fun k => withyref01_Repeat.l0.eq_2 ..) ?_
    have e : wrap64 ((i : Int) + 1) = ((i + 1 : Nat) : Int) := by rw [w64 (by omega)]; omega
    refine evpos (by omega) (evpos (by omega) ?_)
    rw [e]
    exact evof (rep_l0 c n hn d (i + 1) (x ++ [c]) (by omega) (by simp [hx])) (by rw [List.append_assoc, List.singleton_append, List.replicate_succ])
theorem withyref01_Repeat.ev (c n : Int) (hn : n ≤ 1000000) : Ev (fun k => withyref01_Repeat.f k c n) (strOfNums (List.replicate n.toNat c)) := by
  unfold withyref01_Repeat.f
  exact evof (rep_l0 c n hn n.toNat 0 [] (by omega) rfl) (by simp)
theorem rep_size (c : Int) (n : Nat) : (strOfNums (List.replicate n c)).size = n := by rw [strOfNums_size]; simp
theorem ref_Size (p : Int) : withyref06_Size.f p = some (sizeB p) := by
  unfold withyref06_Size.f sizeB
  by_cases c0 : p = 128
  · rw [if_pos c0]; simp [c0]
  · rw [if_neg c0]
    by_cases c1 : p = 256
    · rw [if_pos c1]; simp [c1]
    · rw [if_neg c1]
      by_cases c2 : p = 512
      · rw [if_pos c2]; simp [c2]
      · rw [if_neg c2]; congr 1; rw [Bool.eq_iff_iff]; simp [c0, c1, c2]
end Go.Proofs.YtlagllfbomaehaaGreatDoor.A
