/- withyref07.Open, of what the print says it computes: the plain words' own. Condition: texts of at most a million bytes. -/
import Derived.Test.YtlagllfbomaehaaGreatDoorRefHead
namespace Go.Proofs.YtlagllfbomaehaaGreatDoor.A
open Go Go.RowKit Go.Proofs Go.Proofs.YtlagllfbomaehaaGreatDoorW Go.Proofs.YtlagllfbomaehaaGreatDoorW.PrintWords Go.Proofs.YtlagllfbomaehaaGreatDoorW.PrintMore Go.Proofs.YtlagllfbomaehaaGreatDoor.Hand
set_option linter.unusedSimpArgs false
set_option linter.unusedVariables false
def leV : Bytes → Nat
  | [] => 0
  | c :: l => c.toNat + 256 * leV l
theorem leV_lt : ∀ l : Bytes, leV l < 256 ^ l.length
  | [] => by decide
  | c :: l => by
    have := leV_lt l
    have := c.toNat_lt
    show c.toNat + 256 * leV l < 256 ^ (l.length + 1)
    rw [Nat.pow_succ]; omega
theorem num_l0 (s : ByteArray) (hs : s.size ≤ 4) : ∀ (i : Nat), i ≤ s.size → Ev (fun n => withyref07_number.l0 n s ((leV ((B s).drop i) : Nat) : Int) ((i : Int) - 1)) ((leV (B s) : Nat) : Int)
  | 0, hi => by
    refine Ev.step (fun k => withyref07_number.l0.eq_2 ..) ?_
    exact evneg (by omega) (Ev.now _)
  | i + 1, hi => by
    obtain ⟨c, t, h1, h2, h3, h4⟩ := dn (s := s) (i := i) (by omega)
    have hv := leV_lt ((B s).drop (i + 1))
    have hl : 256 ^ ((B s).drop (i + 1)).length ≤ 256 ^ 4 := Nat.pow_le_pow_right (by decide) (by rw [List.length_drop, B_len]; omega)
    have hc := c.toNat_lt
    have hb : bt s ((i : Int) + 1 - 1) = (c.toNat : Int) := by rw [show (i : Int) + 1 - 1 = (i : Int) by omega]; exact h2
    refine Ev.step (fun k => withyref07_number.l0.eq_2 ..) ?_
    rw [show (((i + 1 : Nat) : Int) - 1) = (i : Int) + 1 - 1 by omega, hb]
    refine evpos (by omega) (evpos (by omega) (evpos (by omega) ?_))
    rw [w64 (n := ((leV ((B s).drop (i + 1)) : Nat) : Int) * 256) (by omega), w64 (n := (c.toNat : Int)) (by omega), w64 (n := ((leV ((B s).drop (i + 1)) : Nat) : Int) * 256 + (c.toNat : Int)) (by omega), w64 (n := (i : Int) + 1 - 1 - 1) (by omega)]
    have ih := num_l0 s hs i (by omega)
    rw [h1] at ih
    have e : ((leV (c :: t) : Nat) : Int) = ((leV ((B s).drop (i + 1)) : Nat) : Int) * 256 + (c.toNat : Int) := by
      rw [h3]; show ((c.toNat + 256 * leV t : Nat) : Int) = _; omega
    rw [e] at ih
    rw [show (i : Int) + 1 - 1 - 1 = (i : Int) - 1 by omega]
    exact ih
theorem withyref07_number.ev (s : ByteArray) (hs : s.size ≤ 4) : Ev (fun n => withyref07_number.f n s) ((leV (B s) : Nat) : Int) := by
  unfold withyref07_number.f
  rw [w64 (by omega)]
  have := num_l0 s hs s.size (Nat.le_refl _)
  rw [dn_end (Nat.le_refl _)] at this
  exact this
theorem withyref07_Open.ev (s : ByteArray) (hs : s.size ≤ 1000000) : Ev (fun n => withyref07_Open.f n s) (openS s) := by
  unfold withyref07_Open.f openS openB
  refine evbind (ev_const (ref_Size (s.size : Int))) ?_
  by_cases hp : sizeB s.size = true
  · have hp2 := sizeB_le hp
    rw [hp, Bool.true_and]
    refine evpos rfl (evpos (by omega) (evpos (by omega) (evpos (by omega) ?_)))
    have b0 := bt_range s 0
    have b1 := bt_range s 1
    have e0 : wrap64 (bt s 0) = rdKind s := w64 (by omega)
    have e1 : wrap64 (bt s 1) = rdLevel s := w64 (by omega)
    have n2 : ((leV (B (s.extract 2 4)) : Nat) : Int) = rdCount s := by
      obtain ⟨c2, t2, h1, h2, h3, _⟩ := dn (s := s) (i := 2) (by omega)
      obtain ⟨c3, t3, k1, k2, k3, _⟩ := dn (s := s) (i := 3) (by omega)
      rw [B_extract, h1, ← h3, k1]
      unfold rdCount
      rw [show (2 : Int) = ((2 : Nat) : Int) from rfl, show (3 : Int) = ((3 : Nat) : Int) from rfl, h2, k2]
      show ((c2.toNat + 256 * (c3.toNat + 256 * 0) : Nat) : Int) = _
      omega
    have four : ∀ i : Nat, i + 4 ≤ s.size → leV (B (s.extract i (i + 4))) = rd4 ((B s).drop i) := fun i hi => by
      obtain ⟨c0, r0, d0, _, f0, _⟩ := dn (s := s) (i := i) (by omega)
      obtain ⟨c1, r1, d1, _, f1, _⟩ := dn (s := s) (i := i + 1) (by omega)
      obtain ⟨c2, r2, d2, _, f2, _⟩ := dn (s := s) (i := i + 1 + 1) (by omega)
      obtain ⟨c3, r3, d3, _, f3, _⟩ := dn (s := s) (i := i + 1 + 1 + 1) (by omega)
      have hd : (B s).drop i = c0 :: c1 :: c2 :: c3 :: r3 := by rw [d0, ← f0, d1, ← f1, d2, ← f2, d3]
      rw [B_extract, hd, show i + 4 - i = 4 by omega]
      show c0.toNat + 256 * (c1.toNat + 256 * (c2.toNat + 256 * (c3.toNat + 256 * 0))) = c0.toNat + 256 * c1.toNat + 65536 * c2.toNat + 16777216 * c3.toNat
      omega
    have n4 : ((leV (B (s.extract 4 8)) : Nat) : Int) = rdRight s := by rw [four 4 (by omega)]; rfl
    have n8 : ((leV (B (s.extract 8 12)) : Nat) : Int) = rdSelf s := by rw [four 8 (by omega)]; rfl
    have x2 : (s.extract 2 4).size ≤ 4 := by rw [ByteArray.size_extract]; omega
    have x4 : (s.extract 4 8).size ≤ 4 := by rw [ByteArray.size_extract]; omega
    have x8 : (s.extract 8 12).size ≤ 4 := by rw [ByteArray.size_extract]; omega
    have v2 := withyref07_number.ev _ x2
    have v4 := withyref07_number.ev _ x4
    have v8 := withyref07_number.ev _ x8
    rw [n2] at v2
    rw [n4] at v4
    rw [n8] at v8
    rw [e0, e1]
    refine evbind v2 (evpos (by omega) (evbind v4 (evpos (by omega) (evbind v8 (evpos (by omega) ?_)))))
    have hz : (s.extract 16 s.size).size = s.size - 16 := by rw [ByteArray.size_extract]; omega
    have hB16 : B (s.extract 16 s.size) = (B s).drop 16 := by
      rw [B_extract]; apply List.take_of_length_le; rw [List.length_drop, B_len]; omega
    have hSl := withyref07_Seal.ev (rdKind s) (rdLevel s) (rdCount s) (rdRight s) (rdSelf s) (s.extract 16 s.size) (s.size : Int) (by rw [hz]; omega)
    cases hok : sealOk (rdKind s) (rdLevel s) (rdCount s) (rdRight s) (rdSelf s) with
    | false =>
      have hS : sealS (rdKind s) (rdLevel s) (rdCount s) (rdRight s) (rdSelf s) (s.extract 16 s.size) (s.size : Int) = (⟨#[]⟩, 3) := by unfold sealS; rw [if_pos hp, hok]; rfl
      rw [hS] at hSl
      exact evbind hSl (evneg (by decide) (Ev.now _))
    | true =>
      have hS : sealS (rdKind s) (rdLevel s) (rdCount s) (rdRight s) (rdSelf s) (s.extract 16 s.size) (s.size : Int) = (⟨(pageL (rdKind s).toNat (rdLevel s).toNat (rdCount s).toNat (rdRight s).toNat (rdSelf s).toNat ((B s).drop 16) s.size).toArray⟩, 0) := by
        unfold sealS; rw [if_pos hp, if_pos hok, if_neg (by rw [hz]; omega), hB16]; rfl
      rw [hS] at hSl
      refine evbind hSl (evpos rfl ?_)
      by_cases hq : pageL (rdKind s).toNat (rdLevel s).toNat (rdCount s).toNat (rdRight s).toNat (rdSelf s).toNat ((B s).drop 16) s.size = B s
      · rw [decide_eq_true hq]
        exact evpos (by rw [B_toList, B_toList]; exact hq) (Ev.now _)
      · rw [decide_eq_false hq]
        exact evneg (by rw [B_toList, B_toList]; exact hq) (Ev.now _)
  · have hp : sizeB s.size = false := by simpa using hp
    rw [hp, Bool.false_and, if_neg (by decide)]
    exact evneg (by decide) (Ev.now _)
end Go.Proofs.YtlagllfbomaehaaGreatDoor.A
