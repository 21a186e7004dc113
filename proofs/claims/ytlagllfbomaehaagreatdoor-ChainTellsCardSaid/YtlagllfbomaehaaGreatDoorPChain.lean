/- chain.Encode, chain.Decode, of what the print says they compute, in plain words; a page is decoded as it was encoded, and encoded as it was decoded. Condition: texts of at most a million bytes. -/
import Derived.Test.YtlagllfbomaehaaGreatDoorPOpen
import Derived.Test.YtlagllfbomaehaaGreatDoorAChainEncode
import Derived.Test.YtlagllfbomaehaaGreatDoorAChainDecode
namespace Go.Proofs.YtlagllfbomaehaaGreatDoor.A
open Go Go.RowKit Go.Proofs Go.Proofs.YtlagllfbomaehaaGreatDoorW Go.Proofs.YtlagllfbomaehaaGreatDoorW.PrintWords Go.Proofs.YtlagllfbomaehaaGreatDoorW.PrintMore Go.Proofs.YtlagllfbomaehaaGreatDoor.Hand
set_option linter.unusedSimpArgs false
set_option linter.unusedVariables false
def chainPage (self next : Int) (data : Bytes) (p : Int) : Bytes := pageL 4 0 data.length next.toNat self.toNat data p.toNat
def encS (self next : Int) (data : ByteArray) (p : Int) : ByteArray × Int :=
  if sizeB p = true then (if mayB self next data.size p = true then (⟨(chainPage self next (B data) p).toArray⟩, 0) else (⟨#[]⟩, 3)) else (⟨#[]⟩, 4)
theorem mayB_iff {self next n p : Int} : mayB self next n p = true ↔ sizeB p = true ∧ 1 ≤ self ∧ self < 4096 ∧ 0 ≤ next ∧ next < 4096 ∧ next ≠ self ∧ ((next ≠ 0 ∧ n = p - 16) ∨ (next = 0 ∧ 1 ≤ n ∧ n ≤ p - 16)) := by
  unfold mayB fullB
  by_cases h : next = 0
  · subst h
    simp only [Bool.and_eq_true, decide_eq_true_eq, bne_iff_ne]
    rw [if_neg (by decide)]
    simp
    constructor <;> intro q <;> (try omega) <;> simp_all
  · rw [if_pos h]
    simp only [Bool.and_eq_true, decide_eq_true_eq, bne_iff_ne]
    simp [h, and_assoc]
theorem chain_May.ev (self next : Int) (data : ByteArray) (p : Int) (hd : data.size ≤ 1000000) : chain_May.f self next data p = some (mayB self next data.size p) := by
  unfold chain_May.f; rw [if_pos (by omega)]
theorem chain_Encode.ev (self next : Int) (data : ByteArray) (p : Int) (hd : data.size ≤ 1000000) : Ev (fun n => chain_Encode.f n self next data p) (encS self next data p) := by
  unfold chain_Encode.f encS
  refine evbind (ev_const (show disk_Size.f p = some (sizeB p) from rfl)) ?_
  by_cases hp : sizeB p = true
  · rw [if_pos hp]
    refine evpos hp (evbind (ev_const (chain_May.ev self next data p hd)) ?_)
    by_cases hm : mayB self next data.size p = true
    · rw [if_pos hm]
      refine evpos hm ?_
      have hm2 := mayB_iff.1 hm
      have hp2 := sizeB_le hp
      have hok : sealOk 4 0 (data.size : Int) next self = true := decide_eq_true (by omega)
      have hS : sealS 4 0 (data.size : Int) next self data p = (⟨(chainPage self next (B data) p).toArray⟩, 0) := by
        unfold sealS chainPage
        rw [if_pos hp, if_pos hok, if_neg (by omega), B_len]; rfl
      have h := head_Seal.ev 4 0 (data.size : Int) next self data p hd
      rw [hS] at h
      exact evbind h (Ev.now _)
    · rw [if_neg hm]; exact evneg hm (Ev.now _)
  · rw [if_neg hp]; exact evneg hp (Ev.now _)
def decB (s : ByteArray) : Bool := openB s && (decide (rdKind s = 4) && (decide (rdLevel s = 0) && (decide (rdCount s ≤ (s.size : Int) - 16) && (mayB (rdSelf s) (rdRight s) (rdCount s) s.size && decide (((B s).drop (16 + (rdCount s).toNat)) = zeros (s.size - 16 - (rdCount s).toNat))))))
def decS (s : ByteArray) : Int × Int × ByteArray × Int := if decB s = true then (rdSelf s, rdRight s, (s.extract 16 s.size).extract 0 (rdCount s).toNat, 0) else (0, 0, ⟨#[]⟩, 3)
theorem rdCount_nonneg (s : ByteArray) : 0 ≤ rdCount s := by
  have := bt_range s 2; have := bt_range s 3
  unfold rdCount; omega
theorem chain_Decode.ev (s : ByteArray) (hs : s.size ≤ 1000000) : Ev (fun n => chain_Decode.f n s) (decS s) := by
  unfold chain_Decode.f
  refine evbind (head_Open.ev s hs) ?_
  unfold openS decS decB
  cases ho : openB s with
  | false =>
    rw [if_neg (by decide), Bool.false_and, if_neg (by decide)]
    refine evneg (by show ¬ (3 : Int) = 0; decide) ?_
    refine Ev.step (fun k => chain_Decode.j0.eq_2 ..) ?_
    exact evpos rfl (Ev.now _)
  | true =>
    have hp : sizeB s.size = true := by unfold openB at ho; simp only [Bool.and_eq_true] at ho; exact ho.1
    have hp2 := sizeB_le hp
    have hc0 := rdCount_nonneg s
    rw [if_pos rfl, Bool.true_and]
    refine evpos rfl ?_
    have bad : ∀ (a b : ByteArray) (c d e f g : Int), Ev (fun n => chain_Decode.j0 n a b true c d e f g) ((0, 0, ⟨#[]⟩, 3) : Int × Int × ByteArray × Int) := fun a b c d e f g => by
      refine Ev.step (fun k => chain_Decode.j0.eq_2 ..) ?_
      exact evpos rfl (Ev.now _)
    by_cases h4 : rdKind s = 4
    · refine evpos h4 ?_
      by_cases h0 : rdLevel s = 0
      · refine evpos h0 ?_
        have hz : (s.extract 16 s.size).size = s.size - 16 := by rw [ByteArray.size_extract]; omega
        by_cases hc : rdCount s ≤ (s.size : Int) - 16
        · rw [decide_eq_true h4, decide_eq_true h0, decide_eq_true hc, Bool.true_and, Bool.true_and, Bool.true_and]
          show Ev (fun n => chain_Decode.j0 n s (s.extract 16 s.size) (decide (rdCount s > ((s.extract 16 s.size).size : Int))) _ _ _ _ _) _
          rw [show decide (rdCount s > ((s.extract 16 s.size).size : Int)) = false from decide_eq_false (by rw [hz]; omega)]
          refine Ev.step (fun k => chain_Decode.j0.eq_2 ..) ?_
          refine evneg (by decide) (evpos hc0 (evpos (by show rdCount s ≤ _; rw [hz]; omega) ?_))
          obtain ⟨c, hcc⟩ := Int.eq_ofNat_of_zero_le hc0
          have hct : (rdCount s).toNat = c := by omega
          have hz2 : ((s.extract 16 s.size).extract 0 c).size = c := ext_size _ _ (by rw [hz]; omega)
          have hB16 : B (s.extract 16 s.size) = (B s).drop 16 := by
            rw [B_extract]; apply List.take_of_length_le; rw [List.length_drop, B_len]; omega
          have hBt : B ((s.extract 16 s.size).extract c (s.extract 16 s.size).size) = (B s).drop (16 + c) := by
            rw [B_extract, hB16, List.drop_drop]; apply List.take_of_length_le; rw [List.length_drop, B_len, hz]; omega
          have hzt : ((s.extract 16 s.size).extract c (s.extract 16 s.size).size).size = s.size - 16 - c := by rw [ByteArray.size_extract, hz]; omega
          have hM : chain_May.f (rdSelf s) (rdRight s) ((s.extract 16 s.size).extract 0 c) (s.size : Int) = some (mayB (rdSelf s) (rdRight s) (rdCount s) s.size) := by
            rw [chain_May.ev _ _ _ _ (by rw [hz2]; omega), hz2, hcc]
          have hT : strings_Trim.f ((s.extract 16 s.size).extract c (s.extract 16 s.size).size) ⟨#[0]⟩ = some ⟨(Lib.trimB ((B s).drop (16 + c)) 0).toArray⟩ := by
            unfold strings_Trim.f
            rw [if_pos (by rw [hzt]; omega), if_pos rfl]
            congr 3
            show Lib.trimB (B _) 0 = _
            rw [hBt]
          rw [hct]
          refine evbind (ev_const hM) ?_
          cases mayB (rdSelf s) (rdRight s) (rdCount s) s.size with
          | false => exact evneg (show ¬ (false = true) by decide) (Ev.now _)
          | true =>
            rw [Bool.true_and]
            refine evpos rfl (evbind (ev_const hT) ?_)
            have hl : ((B s).drop (16 + c)).length = s.size - 16 - c := by rw [List.length_drop, B_len]; omega
            have key : (⟨(Lib.trimB ((B s).drop (16 + c)) 0).toArray⟩ : ByteArray).toList = [] ↔ (B s).drop (16 + c) = zeros (s.size - 16 - c) := by
              rw [B_toList]
              refine (trimB_nil _).trans ?_
              rw [hl]
            by_cases hq : (B s).drop (16 + c) = zeros (s.size - 16 - c)
            · rw [decide_eq_true hq]
              exact evpos (key.2 hq) (Ev.now _)
            · rw [decide_eq_false hq]
              exact evneg (fun q => hq (key.1 q)) (Ev.now _)
        · rw [decide_eq_false hc, Bool.false_and, Bool.and_false, Bool.and_false, if_neg (by decide)]
          have : decide (rdCount s > ((s.extract 16 s.size).size : Int)) = true := decide_eq_true (by rw [hz]; omega)
          show Ev (fun n => chain_Decode.j0 n s (s.extract 16 s.size) (decide (rdCount s > ((s.extract 16 s.size).size : Int))) _ _ _ _ _) _
          rw [this]
          exact bad _ _ _ _ _ _ _
      · rw [decide_eq_false h0, Bool.false_and, Bool.and_false, if_neg (by decide)]
        exact evneg h0 (bad _ _ _ _ _ _ _)
    · rw [decide_eq_false h4, Bool.false_and, if_neg (by decide)]
      exact evneg h4 (bad _ _ _ _ _ _ _)
theorem u8n (n : Nat) (h : n < 256) : ((UInt8.ofNat n).toNat : Int) = n := by rw [ofNat_toNat h]
theorem chain_reads (self next : Int) (data : Bytes) (p : Int) (h : mayB self next data.length p = true) (s : ByteArray) (hs : B s = chainPage self next data p) :
    s.size = p.toNat ∧ rdKind s = 4 ∧ rdLevel s = 0 ∧ rdCount s = data.length ∧ rdRight s = next ∧ rdSelf s = self := by
  have hm := mayB_iff.1 h
  have hp2 := sizeB_le hm.1
  have hl : s.size = p.toNat := by rw [← B_len, hs]; exact pageL_len _ _ _ _ _ _ _ (by omega)
  obtain ⟨c0, r0, d0, b0, e0, l0⟩ := dn (s := s) (i := 0) (by omega)
  obtain ⟨c1, r1, d1, b1, e1, l1⟩ := dn (s := s) (i := 1) (by omega)
  obtain ⟨c2, r2, d2, b2, e2, l2⟩ := dn (s := s) (i := 2) (by omega)
  obtain ⟨c3, r3, d3, b3, e3, l3⟩ := dn (s := s) (i := 3) (by omega)
  have pa := fun i hi => page_at 4 0 data.length next.toNat self.toNat data p.toNat i hi
  rw [hs] at d0 d1 d2 d3
  unfold chainPage at d0 d1 d2 d3
  rw [pa 0 (by decide)] at d0
  rw [pa 1 (by decide)] at d1
  rw [pa 2 (by decide)] at d2
  rw [pa 3 (by decide)] at d3
  have i0 := (List.cons.inj d0).1
  have i1 := (List.cons.inj d1).1
  have i2 := (List.cons.inj d2).1
  have i3 := (List.cons.inj d3).1
  refine ⟨hl, ?_, ?_, ?_, ?_, ?_⟩
  · unfold rdKind; rw [show (0 : Int) = ((0 : Nat) : Int) from rfl, b0, ← i0]; rfl
  · unfold rdLevel; rw [show (1 : Int) = ((1 : Nat) : Int) from rfl, b1, ← i1]; rfl
  · unfold rdCount
    rw [show (2 : Int) = ((2 : Nat) : Int) from rfl, show (3 : Int) = ((3 : Nat) : Int) from rfl, b2, b3, ← i2, ← i3, u8n _ (by omega), u8n _ (by omega)]
    omega
  · unfold rdRight
    rw [hs]; unfold chainPage
    rw [pa 4 (by decide), show (frontL 4 0 data.length next.toNat self.toNat).drop 4 = le4 next.toNat ++ le4 self.toNat from rfl, List.append_assoc, rd4_le4 _ (by omega)]
    omega
  · unfold rdSelf
    rw [hs]; unfold chainPage
    rw [pa 8 (by decide), show (frontL 4 0 data.length next.toNat self.toNat).drop 8 = le4 self.toNat from rfl, rd4_le4 _ (by omega)]
    omega
theorem enc_dec {s : ByteArray} {a b : Int} {d : ByteArray} (hd : decS s = (a, b, d, 0)) : mayB a b d.size s.size = true ∧ chainPage a b (B d) s.size = B s := by
  unfold decS at hd
  by_cases hD : decB s = true
  · rw [if_pos hD] at hd
    injection hd with h1 hd
    injection hd with h2 hd
    injection hd with h3 _
    unfold decB at hD
    simp only [Bool.and_eq_true, decide_eq_true_eq] at hD
    obtain ⟨ho, k0, k1, k2, hm, hz⟩ := hD
    unfold openB at ho
    simp only [Bool.and_eq_true, decide_eq_true_eq] at ho
    obtain ⟨hp, hok, hpg⟩ := ho
    have hp2 := sizeB_le hp
    have hc0 := rdCount_nonneg s
    obtain ⟨c, hcc⟩ := Int.eq_ofNat_of_zero_le hc0
    have hct : (rdCount s).toNat = c := by omega
    rw [hct] at hz h3
    have hzs : (s.extract 16 s.size).size = s.size - 16 := by rw [ByteArray.size_extract]; omega
    have hdz : d.size = c := by rw [← h3]; exact ext_size _ _ (by rw [hzs]; omega)
    have hB16 : B (s.extract 16 s.size) = (B s).drop 16 := by
      rw [B_extract]; apply List.take_of_length_le; rw [List.length_drop, B_len]; omega
    have hBd : B d = ((B s).drop 16).take c := by rw [← h3, B_take, hB16]
    have hl : (B d).length = c := by rw [B_len]; exact hdz
    have hbody : (B s).drop 16 = B d ++ zeros (s.size - 16 - (B d).length) := by
      rw [hl, ← hz, hBd, ← List.drop_drop]; exact (List.take_append_drop c _).symm
    subst h1; subst h2
    refine ⟨by rw [hdz, ← hcc]; exact hm, ?_⟩
    unfold chainPage
    rw [k0, k1, hct, hbody] at hpg
    rw [← hpg, show ((s.size : Int)).toNat = s.size from rfl, hl]
    have := pageL_pad (4 : Int).toNat (0 : Int).toNat c (rdRight s).toNat (rdSelf s).toNat (B d) s.size (by omega)
    rw [hl] at this
    rw [← hl] at this ⊢
    exact this.symm
  · rw [if_neg hD] at hd
    injection hd with _ hd
    injection hd with _ hd
    injection hd with _ hd
    exact absurd hd (by decide)
end Go.Proofs.YtlagllfbomaehaaGreatDoor.A
