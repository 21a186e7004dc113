/- withyref12's May, Encode, Decode, Parts, Pages and withyref01.Words, of what the print says they compute: the plain words' own. Condition: texts of at most a million bytes. -/
import Derived.Test.YtlagllfbomaehaaGreatDoorRefOpen
import Derived.Test.YtlagllfbomaehaaGreatDoorPFixed
import Derived.Test.YtlagllfbomaehaaGreatDoorAWithyref12Decode
import Derived.Test.YtlagllfbomaehaaGreatDoorAM2
namespace Go.Proofs.YtlagllfbomaehaaGreatDoor.A
open Go Go.RowKit Go.Proofs Go.Proofs.YtlagllfbomaehaaGreatDoorW Go.Proofs.YtlagllfbomaehaaGreatDoorW.PrintWords Go.Proofs.YtlagllfbomaehaaGreatDoorW.PrintMore Go.Proofs.YtlagllfbomaehaaGreatDoor.Hand
set_option linter.unusedSimpArgs false
set_option linter.unusedVariables false
theorem ref_May (a b : Int) (d : ByteArray) (p : Int) : withyref12_May.f a b d p = some (mayB a b d.size p) := by
  unfold withyref12_May.f
  rw [ref_Size]
  show (if sizeB p = true then _ else _) = _
  by_cases hp : sizeB p = true
  · have hp2 := sizeB_le hp
    rw [if_pos hp, w64 (n := p - 16) (by omega)]
    have no : ∀ q : ¬ (1 ≤ a ∧ a < 4096 ∧ 0 ≤ b ∧ b < 4096 ∧ b ≠ a ∧ ((b ≠ 0 ∧ (d.size : Int) = p - 16) ∨ (b = 0 ∧ 1 ≤ (d.size : Int) ∧ (d.size : Int) ≤ p - 16))), mayB a b d.size p = false := fun q => by
      rw [Bool.eq_false_iff]; intro h; exact q (mayB_iff.1 h).2
    by_cases c0 : a < 1
    · rw [if_pos c0, no (by omega)]
    · rw [if_neg c0]
      by_cases c1 : a > 4095
      · rw [if_pos c1, no (by omega)]
      · rw [if_neg c1]
        by_cases c2 : b < 0
        · rw [if_pos c2, no (by omega)]
        · rw [if_neg c2]
          by_cases c3 : b > 4095
          · rw [if_pos c3, no (by omega)]
          · rw [if_neg c3]
            by_cases c4 : b = a
            · rw [if_pos c4, no (by omega)]
            · rw [if_neg c4]
              by_cases c5 : (d.size : Int) ≥ 1
              · rw [if_pos c5]
                by_cases c6 : (d.size : Int) ≤ p - 16
                · rw [if_pos c6]
                  by_cases c7 : b = 0
                  · rw [if_pos c7, mayB_iff.2 ⟨hp, by omega⟩]
                  · rw [if_neg c7]
                    congr 1
                    rw [Bool.eq_iff_iff, beq_iff_eq, mayB_iff]
                    constructor
                    · intro h; exact ⟨hp, by omega⟩
                    · intro h; omega
                · rw [if_neg c6, no (by omega)]
              · rw [if_neg c5, no (by omega)]
  · rw [if_neg hp]
    have : mayB a b d.size p = false := by rw [Bool.eq_false_iff]; intro h; exact hp (mayB_iff.1 h).1
    rw [this]
theorem withyref12_Encode.ev (self next : Int) (data : ByteArray) (p : Int) (hd : data.size ≤ 1000000) : Ev (fun n => withyref12_Encode.f n self next data p) (encS self next data p) := by
  unfold withyref12_Encode.f encS
  refine evbind (ev_const (ref_Size p)) ?_
  by_cases hp : sizeB p = true
  · rw [if_pos hp]
    refine evpos hp (evbind (ev_const (ref_May self next data p)) ?_)
    by_cases hm : mayB self next data.size p = true
    · rw [if_pos hm]
      refine evpos hm ?_
      have hm2 := mayB_iff.1 hm
      have hp2 := sizeB_le hp
      have hok : sealOk 4 0 (data.size : Int) next self = true := decide_eq_true (by omega)
      have hS : sealS 4 0 (data.size : Int) next self data p = (⟨(chainPage self next (B data) p).toArray⟩, 0) := by
        unfold sealS chainPage
        rw [if_pos hp, if_pos hok, if_neg (by omega), B_len]; rfl
      have h := withyref07_Seal.ev 4 0 (data.size : Int) next self data p hd
      rw [hS] at h
      exact evbind h (Ev.now _)
    · rw [if_neg hm]; exact evneg hm (Ev.now _)
  · rw [if_neg hp]; exact evneg hp (Ev.now _)
theorem dec_iff (s : ByteArray) (ho : openB s = true) (h4 : rdKind s = 4) (hc : rdCount s ≤ (s.size : Int) - 16) :
    decB s = true ↔ encS (rdSelf s) (rdRight s) ((s.extract 16 s.size).extract 0 (rdCount s).toNat) s.size = (s, 0) := by
  have hp : sizeB s.size = true := by unfold openB at ho; simp only [Bool.and_eq_true] at ho; exact ho.1
  have hp2 := sizeB_le hp
  have hc0 := rdCount_nonneg s
  obtain ⟨c, hcc⟩ := Int.eq_ofNat_of_zero_le hc0
  have hct : (rdCount s).toNat = c := by omega
  rw [hct]
  have hzs : (s.extract 16 s.size).size = s.size - 16 := by rw [ByteArray.size_extract]; omega
  have hdz : ((s.extract 16 s.size).extract 0 c).size = c := ext_size _ _ (by rw [hzs]; omega)
  have hB16 : B (s.extract 16 s.size) = (B s).drop 16 := by
    rw [B_extract]; apply List.take_of_length_le; rw [List.length_drop, B_len]; omega
  have hBd : B ((s.extract 16 s.size).extract 0 c) = ((B s).drop 16).take c := by rw [B_take, hB16]
  constructor
  · intro hD
    have hd : decS s = (rdSelf s, rdRight s, (s.extract 16 s.size).extract 0 c, 0) := by unfold decS; rw [if_pos hD, hct]
    obtain ⟨hm, hpg⟩ := enc_dec hd
    unfold encS
    rw [if_pos hp, if_pos hm, hpg]
  · intro hE
    unfold encS at hE
    rw [if_pos hp] at hE
    by_cases hm : mayB (rdSelf s) (rdRight s) ((s.extract 16 s.size).extract 0 c).size s.size = true
    · rw [if_pos hm] at hE
      have hs : B s = chainPage (rdSelf s) (rdRight s) (B ((s.extract 16 s.size).extract 0 c)) s.size := by
        exact (congrArg B (Prod.mk.inj hE).1).symm
      have hm' : mayB (rdSelf s) (rdRight s) (B ((s.extract 16 s.size).extract 0 c)).length s.size = true := by rw [B_len]; exact hm
      obtain ⟨z, k0, k1, k2, k3, k4⟩ := chain_reads _ _ _ _ hm' s hs
      have hdrop : (B s).drop (16 + c) = zeros (s.size - 16 - c) := by
        rw [hs]; unfold chainPage
        rw [← List.drop_drop, pageL_drop, List.drop_left' (by rw [B_len, hdz]), B_len, hdz]; rfl
      unfold decB
      rw [hdz, ← hcc] at hm
      simp only [Bool.and_eq_true, decide_eq_true_eq]
      exact ⟨ho, h4, k1, hc, hm, by rw [hct]; exact hdrop⟩
    · rw [if_neg hm] at hE
      exact absurd (Prod.mk.inj hE).2 (by decide)
theorem withyref12_Decode.ev (s : ByteArray) (hs : s.size ≤ 1000000) : Ev (fun n => withyref12_Decode.f n s) (decS s) := by
  unfold withyref12_Decode.f
  refine evbind (withyref07_Open.ev s hs) ?_
  have no : ¬ decB s = true → decS s = (0, 0, ⟨#[]⟩, 3) := fun h => by unfold decS; rw [if_neg h]
  have bad : ∀ (a b : ByteArray) (c d e f g : Int), Ev (fun n => withyref12_Decode.j0 n a b true c d e f g) ((0, 0, ⟨#[]⟩, 3) : Int × Int × ByteArray × Int) := fun a b c d e f g => by
    refine Ev.step (fun k => withyref12_Decode.j0.eq_2 ..) ?_
    exact evpos rfl (Ev.now _)
  unfold openS
  by_cases ho : openB s = true
  · have hp : sizeB s.size = true := by have := ho; unfold openB at this; simp only [Bool.and_eq_true] at this; exact this.1
    have hp2 := sizeB_le hp
    have hc0 := rdCount_nonneg s
    have hz : (s.extract 16 s.size).size = s.size - 16 := by rw [ByteArray.size_extract]; omega
    rw [if_pos ho]
    refine evpos rfl ?_
    by_cases h4 : rdKind s = 4
    · refine evpos h4 ?_
      by_cases hc : rdCount s ≤ (s.size : Int) - 16
      · show Ev (fun n => withyref12_Decode.j0 n s (s.extract 16 s.size) (decide (rdCount s > ((s.extract 16 s.size).size : Int))) _ _ _ _ _) _
        rw [show decide (rdCount s > ((s.extract 16 s.size).size : Int)) = false from decide_eq_false (by rw [hz]; omega)]
        refine Ev.step (fun k => withyref12_Decode.j0.eq_2 ..) ?_
        refine evneg (by decide) (evpos hc0 (evpos (by show rdCount s ≤ _; rw [hz]; omega) ?_))
        have hzd : ((s.extract 16 s.size).extract 0 (rdCount s).toNat).size ≤ 1000000 := by rw [ByteArray.size_extract]; omega
        refine evbind (withyref12_Encode.ev (rdSelf s) (rdRight s) _ (s.size : Int) hzd) ?_
        have key := dec_iff s ho h4 hc
        by_cases hD : decB s = true
        · rw [key.1 hD]
          refine evpos rfl (evpos rfl (evof (Ev.now _) ?_))
          unfold decS; rw [if_pos hD]
        · rw [no hD]
          by_cases e0 : (encS (rdSelf s) (rdRight s) ((s.extract 16 s.size).extract 0 (rdCount s).toNat) s.size).2 = 0
          · refine evpos e0 (evneg (fun q => hD (key.2 ?_)) (Ev.now _))
            rw [eq_toList] at q
            exact Prod.ext q e0
          · exact evneg e0 (Ev.now _)
      · rw [no (fun h => hc (by unfold decB at h; simp only [Bool.and_eq_true, decide_eq_true_eq] at h; exact h.2.2.2.1))]
        show Ev (fun n => withyref12_Decode.j0 n s (s.extract 16 s.size) (decide (rdCount s > ((s.extract 16 s.size).size : Int))) _ _ _ _ _) _
        rw [show decide (rdCount s > ((s.extract 16 s.size).size : Int)) = true from decide_eq_true (by rw [hz]; omega)]
        exact bad _ _ _ _ _ _ _
    · rw [no (fun h => h4 (by unfold decB at h; simp only [Bool.and_eq_true, decide_eq_true_eq] at h; exact h.2.1))]
      exact evneg h4 (bad _ _ _ _ _ _ _)
  · rw [if_neg ho, no (fun h => ho (by unfold decB at h; simp only [Bool.and_eq_true] at h; exact h.1))]
    exact evneg (by decide) (bad _ _ _ _ _ _ _)
theorem words_l0 (l : List ByteArray) (hl : l.length ≤ 1000000) : ∀ d i : Nat, i + d = l.length → Ev (fun n => withyref01_Words.l0 n l l (i : Int)) true
  | 0, i, hi => by
    refine Ev.step (fun k => withyref01_Words.l0.eq_2 ..) ?_
    exact evneg (by omega) (Ev.now _)
  | d + 1, i, hi => by
    refine Ev.step (fun k => withyref01_Words.l0.eq_2 ..) ?_
    rw [show wrap64 ((i : Int) + 1) = ((i + 1 : Nat) : Int) from by (rw [w64 (by omega)]; omega)]
    exact evpos (by omega) (evpos (by omega) (evpos (by omega) (evpos rfl (words_l0 l hl d (i + 1) (by omega)))))
theorem withyref01_Words.same (l : List ByteArray) (hl : l.length ≤ 1000000) : Ev (fun n => withyref01_Words.f n l l) true := by
  unfold withyref01_Words.f
  exact evpos rfl (words_l0 l hl l.length 0 (by omega))
theorem refparts_l0 (v : ByteArray) (hv : v.size ≤ 3000) (r : Nat) (hr : 84 ≤ r) (hr1 : r ≤ 2000) : ∀ (n i : Nat) (acc : List ByteArray), acc.length + n ≤ 4000 → v.size - i ≤ n → i ≤ v.size + r →
    Ev (fun k => withyref12_Parts.l0 k v ((r : Int) + 16) acc (i : Int)) (acc ++ cutsL r n (v.extract i v.size)) := by
  intro n
  induction n with
  | zero =>
    intro i acc hl hn hi
    refine Ev.step (fun k => withyref12_Parts.l0.eq_2 ..) ?_
    exact evneg (by omega) (evof (Ev.now _) (by simp [cutsL]))
  | succ n IH =>
    intro i acc hl hn hi
    refine Ev.step (fun k => withyref12_Parts.l0.eq_2 ..) ?_
    by_cases h : i < v.size
    · have hz : (v.extract i v.size).size = v.size - i := by rw [ByteArray.size_extract]; omega
      have e1 : wrap64 (wrap64 ((i : Int) + ((r : Int) + 16)) - 16) = ((i + r : Nat) : Int) := by rw [w64 (n := (i : Int) + ((r : Int) + 16)) (by omega), w64 (by omega)]; omega
      have e2 : mn ((i + r : Nat) : Int) (v.size : Int) = ((min (i + r) v.size : Nat) : Int) := by unfold mn; split <;> omega
      rw [e1, e2]
      refine evpos (by omega) (evpos (by omega) (evpos (by omega) (evpos (by omega) (evpos (by omega) ?_))))
      have ih := IH (i + r) (acc ++ [v.extract i (min (i + r) v.size)]) (by simp; omega) (by omega) (by omega)
      refine evof ih ?_
      rw [List.append_assoc]
      congr 1
      rw [cutsL, if_neg (by rw [hz]; omega), hz, List.singleton_append]
      have x1 : (v.extract i v.size).extract 0 (min r (v.size - i)) = v.extract i (min (i + r) v.size) := by
        apply ba_ext
        rw [B_take, B_extract, B_extract, List.take_take]
        congr 1; omega
      have x2 : (v.extract i v.size).extract (min r (v.size - i)) (v.size - i) = v.extract (i + r) v.size := by
        apply ba_ext
        rw [B_extract, B_extract, B_extract]
        have t1 : ((B v).drop i).take (v.size - i) = (B v).drop i := List.take_of_length_le (by rw [List.length_drop, B_len]; omega)
        rw [t1, List.drop_drop]
        rcases (show i + r ≤ v.size ∨ v.size < i + r by omega) with q | q
        · rw [show i + min r (v.size - i) = i + r by omega]; congr 1; omega
        · rw [show i + min r (v.size - i) = v.size by omega, dn_end (Nat.le_refl _), dn_end (by omega)]; simp
      rw [x1, x2]
    · refine evneg (by omega) (evof (Ev.now _) ?_)
      have hz : (v.extract i v.size).size = 0 := by rw [ByteArray.size_extract]; omega
      rw [cutsL, if_pos hz, List.append_nil]
theorem withyref12_Parts.ev (v : ByteArray) (hv : v.size ≤ 3000) (r : Nat) (hr : 84 ≤ r) (hr1 : r ≤ 2000) : Ev (fun k => withyref12_Parts.f k v ((r : Int) + 16)) (cutsL r v.size v) := by
  unfold withyref12_Parts.f
  have h := refparts_l0 v hv r hr hr1 v.size 0 [] (by simp; omega) (by omega) (by omega)
  refine evof h ?_
  rw [List.nil_append]
  congr 1
  exact ByteArray.extract_zero_size
theorem ref_Pages (n p : Int) (hn : -9223372036854775808 ≤ n ∧ n ≤ 9223372036854775807) (hp : 100 ≤ p) (hp1 : p ≤ 2000) : withyref12_Pages.f n p = some (pagesI n p) := by
  unfold withyref12_Pages.f
  by_cases h : n < 1
  · rw [if_pos h]
    have e : maxI n = 0 := by unfold maxI; split <;> omega
    unfold pagesI; rw [e]; simp [minI]
  · rw [if_neg h, w64 (n := p - 16) (by omega), w64 (n := n - 1) (by omega), if_neg (by omega), Int.tdiv_eq_ediv_of_nonneg (by omega)]
    have r0 : 0 < p - 16 := by omega
    have e : maxI n = n := by unfold maxI; rw [if_neg (by omega)]
    unfold pagesI
    rw [e]
    generalize hr : p - 16 = r at r0
    have q0 := Int.ediv_nonneg (show 0 ≤ n - 1 by omega) (show 0 ≤ r by omega)
    have qm := Int.mul_ediv_add_emod (n - 1) r
    have m0 := Int.emod_nonneg (n - 1) (show r ≠ 0 by omega)
    have m1 := Int.emod_lt_of_pos (n - 1) r0
    have ql : (n - 1) / r * 1 ≤ r * ((n - 1) / r) := by rw [Int.mul_comm r]; exact Int.mul_le_mul_of_nonneg_left (by omega) q0
    have ql2 : (n - 1) / r * 84 ≤ r * ((n - 1) / r) := by rw [Int.mul_comm r]; exact Int.mul_le_mul_of_nonneg_left (by omega) q0
    rw [w64 (n := (n - 1) / r) (by omega), w64 (n := (n - 1) / r + 1) (by omega)]
    congr 1
    by_cases c : (n - 1) % r = r - 1
    · have hn2 : n = r * ((n - 1) / r + 1) := by rw [Int.mul_add]; omega
      have d : n / r = (n - 1) / r + 1 := by
        conv => lhs; rw [hn2]
        exact Int.mul_ediv_cancel_left _ (by omega)
      have m : n % r = 0 := by
        conv => lhs; rw [hn2]
        exact Int.mul_emod_right _ _
      rw [d, m]; simp [minI]
    · have hn2 : n = r * ((n - 1) / r) + ((n - 1) % r + 1) := by omega
      have d : n / r = (n - 1) / r := by
        conv => lhs; rw [hn2]
        have z : ((n - 1) % r + 1) / r = 0 := Int.ediv_eq_zero_of_lt (by omega) (by omega)
        rw [Int.mul_add_ediv_left _ _ (by omega), z, Int.add_zero]
      have m : n % r = (n - 1) % r + 1 := by
        conv => lhs; rw [hn2]
        rw [Int.mul_add_emod_self_left, Int.emod_eq_of_lt (by omega) (by omega)]
      rw [d, m]
      unfold minI
      split <;> omega
end Go.Proofs.YtlagllfbomaehaaGreatDoor.A
