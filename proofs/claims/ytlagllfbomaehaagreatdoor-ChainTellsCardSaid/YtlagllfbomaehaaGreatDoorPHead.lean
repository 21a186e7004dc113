/- head.Right, head.bytes, word.Read, head.Seal, head.Open, of what the print says they compute, in plain words. Condition: texts of at most a million bytes. -/
import Derived.Test.YtlagllfbomaehaaGreatDoorPPage
import Derived.Test.YtlagllfbomaehaaGreatDoorAHeadOpen
import Derived.Test.YtlagllfbomaehaaGreatDoorAM1
import Derived.Laws.Bits64b
import Derived.Lib.Repeat
import Derived.Laws.BitsLemmas
namespace Go.Proofs.YtlagllfbomaehaaGreatDoor.A
open Go Go.RowKit Go.Proofs Go.Proofs.YtlagllfbomaehaaGreatDoorW Go.Proofs.YtlagllfbomaehaaGreatDoorW.PrintWords Go.Proofs.YtlagllfbomaehaaGreatDoorW.PrintMore Go.Proofs.YtlagllfbomaehaaGreatDoor.Hand
set_option linter.unusedSimpArgs false
set_option linter.unusedVariables false
theorem within1 (a x : Int) : Ev (fun n => head_within.f n a [x]) (decide (0 ≤ x ∧ x < a)) := by
  unfold head_within.f
  refine Ev.step (fun k => head_within.l0.eq_2 ..) ?_
  refine evpos (by simp) (evpos (by simp) (evpos (by simp) ?_))
  have hr : rd [x] 0 = x := rfl
  rw [hr]
  by_cases h1 : x < 0
  · exact evpos h1 (evof (Ev.now _) (decide_eq_false (by omega)).symm)
  · refine evneg h1 ?_
    by_cases h2 : x ≥ a
    · exact evpos h2 (evof (Ev.now _) (decide_eq_false (by omega)).symm)
    · refine evneg h2 ?_
      rw [show wrap64 (0 + 1) = 1 from w64 (by decide)]
      refine Ev.step (fun k => head_within.l0.eq_2 ..) ?_
      exact evneg (by simp) (evof (Ev.now _) (decide_eq_true (by omega)).symm)
theorem within2 (a x y : Int) : Ev (fun n => head_within.f n a [x, y]) (decide ((0 ≤ x ∧ x < a) ∧ 0 ≤ y ∧ y < a)) := by
  unfold head_within.f
  refine Ev.step (fun k => head_within.l0.eq_2 ..) ?_
  refine evpos (by simp) (evpos (by simp) (evpos (by simp) ?_))
  have hr : rd [x, y] 0 = x := rfl
  rw [hr]
  by_cases h1 : x < 0
  · exact evpos h1 (evof (Ev.now _) (decide_eq_false (by omega)).symm)
  · refine evneg h1 ?_
    by_cases h2 : x ≥ a
    · exact evpos h2 (evof (Ev.now _) (decide_eq_false (by omega)).symm)
    · refine evneg h2 ?_
      rw [show wrap64 (0 + 1) = 1 from w64 (by decide)]
      refine Ev.step (fun k => head_within.l0.eq_2 ..) ?_
      refine evpos (by simp) (evpos (by simp) (evpos (by simp) ?_))
      have hr : rd [x, y] 1 = y := rfl
      rw [hr]
      by_cases h3 : y < 0
      · exact evpos h3 (evof (Ev.now _) (decide_eq_false (by omega)).symm)
      · refine evneg h3 ?_
        by_cases h4 : y ≥ a
        · exact evpos h4 (evof (Ev.now _) (decide_eq_false (by omega)).symm)
        · refine evneg h4 ?_
          rw [show wrap64 (1 + 1) = 2 from w64 (by decide)]
          refine Ev.step (fun k => head_within.l0.eq_2 ..) ?_
          exact evneg (by simp) (evof (Ev.now _) (decide_eq_true (by omega)).symm)
theorem head_Right.ev (h0 h1 h2 h3 h4 : Int) : Ev (fun n => head_Right.f n h0 h1 h2 h3 h4) (sealOk h0 h1 h2 h3 h4) := by
  unfold head_Right.f sealOk
  by_cases c0 : h0 ≥ 1
  · refine evpos c0 ?_
    by_cases c1 : h0 < 5
    · refine evpos c1 (evbind (within1 256 h1) ?_)
      by_cases c2 : 0 ≤ h1 ∧ h1 < 256
      · refine evpos (decide_eq_true c2) (evbind (within1 65536 h2) ?_)
        by_cases c3 : 0 ≤ h2 ∧ h2 < 65536
        · refine evpos (decide_eq_true c3) (evbind (within2 4096 h3 h4) ?_)
          exact evof (Ev.now _) (decide_eq_decide.2 (by omega))
        · exact evneg (by rw [decide_eq_false c3]; decide) (evof (Ev.now _) (decide_eq_false (by omega)).symm)
      · exact evneg (by rw [decide_eq_false c2]; decide) (evof (Ev.now _) (decide_eq_false (by omega)).symm)
    · exact evneg c1 (evof (Ev.now _) (decide_eq_false (by omega)).symm)
  · exact evneg c0 (evof (Ev.now _) (decide_eq_false (by omega)).symm)
theorem bytes4 (a b c d : Int) : Ev (fun n => head_bytes.f n [a, b, c, d]) (strOfNums [a % 256, b % 256, c % 256, d % 256]) := by
  unfold head_bytes.f
  refine Ev.step (fun k => head_bytes.l0.eq_2 ..) ?_
  refine evpos (by simp) (evpos (by simp) (evpos (by simp) (evpos (by simp) ?_)))
  rw [show wrap64 (0 + 1) = 1 from w64 (by decide)]
  refine Ev.step (fun k => head_bytes.l0.eq_2 ..) ?_
  refine evpos (by simp) (evpos (by simp) (evpos (by simp) (evpos (by simp) ?_)))
  rw [show wrap64 (1 + 1) = 2 from w64 (by decide)]
  refine Ev.step (fun k => head_bytes.l0.eq_2 ..) ?_
  refine evpos (by simp) (evpos (by simp) (evpos (by simp) (evpos (by simp) ?_)))
  rw [show wrap64 (2 + 1) = 3 from w64 (by decide)]
  refine Ev.step (fun k => head_bytes.l0.eq_2 ..) ?_
  refine evpos (by simp) (evpos (by simp) (evpos (by simp) (evpos (by simp) ?_)))
  rw [show wrap64 (3 + 1) = 4 from w64 (by decide)]
  refine Ev.step (fun k => head_bytes.l0.eq_2 ..) ?_
  exact evneg (by simp) (Ev.now _)
theorem or32 (a b i : Nat) (hi : i ≤ 32) (ha : a < 2 ^ i) (hb : 2 ^ i * b < 4294967296) : Go.bits .or .u32 (a : Int) ((2 ^ i * b : Nat) : Int) = ((a + 2 ^ i * b : Nat) : Int) := by
  have ha2 : a < 2 ^ 32 := Nat.lt_of_lt_of_le ha (Nat.pow_le_pow_right (by decide) hi)
  rw [(bits_nat .u32 32 (by decide) (fun n h0 h1 => by rw [IntKind.wrap_u32]; omega) a (2 ^ i * b) ha2 hb).2]
  rw [Nat.or_comm, ← Nat.two_pow_add_eq_or_of_lt ha b, Nat.add_comm]
theorem rd_step (a : Nat) (c : UInt8) (j : Nat) (hj : j < 4) (ha : a < 256 ^ j) : Go.bits .or .u32 (a : Int) (shl .u32 ((c.toNat : Int) % 4294967296) (wrap64 (8 * (j : Int)))) = ((a + 256 ^ j * c.toNat : Nat) : Int) := by
  have hc := c.toNat_lt
  rw [w64 (by omega)]
  unfold shl
  match j, hj with
  | 0, _ =>
    rw [show IntKind.u32.wrap ((c.toNat : Int) % 4294967296 * 2 ^ min (8 * ((0 : Nat) : Int)).toNat IntKind.u32.bits) = ((2 ^ 0 * c.toNat : Nat) : Int) from by rw [IntKind.wrap_u32]; show (_ * 2 ^ 0) % _ = _; omega]
    exact or32 a c.toNat 0 (by decide) (by simpa using ha) (by omega)
  | 1, _ =>
    rw [show IntKind.u32.wrap ((c.toNat : Int) % 4294967296 * 2 ^ min (8 * ((1 : Nat) : Int)).toNat IntKind.u32.bits) = ((2 ^ 8 * c.toNat : Nat) : Int) from by rw [IntKind.wrap_u32]; show (_ * 2 ^ 8) % _ = _; omega]
    exact or32 a c.toNat 8 (by decide) (by simpa using ha) (by omega)
  | 2, _ =>
    rw [show IntKind.u32.wrap ((c.toNat : Int) % 4294967296 * 2 ^ min (8 * ((2 : Nat) : Int)).toNat IntKind.u32.bits) = ((2 ^ 16 * c.toNat : Nat) : Int) from by rw [IntKind.wrap_u32]; show (_ * 2 ^ 16) % _ = _; omega]
    exact or32 a c.toNat 16 (by decide) (by simpa using ha) (by omega)
  | 3, _ =>
    rw [show IntKind.u32.wrap ((c.toNat : Int) % 4294967296 * 2 ^ min (8 * ((3 : Nat) : Int)).toNat IntKind.u32.bits) = ((2 ^ 24 * c.toNat : Nat) : Int) from by rw [IntKind.wrap_u32]; show (_ * 2 ^ 24) % _ = _; omega]
    exact or32 a c.toNat 24 (by decide) (by simpa using ha) (by omega)
theorem rd_l0 {s : ByteArray} (hs : s.size ≤ 1000000) {i j a : Nat} {c : UInt8} {r : Int × Int} (hj : j < 4) (hi : i + j < s.size) (ha : a < 256 ^ j) (hb : bt s ((i + j : Nat) : Int) = (c.toNat : Int))
    (k : Ev (fun n => word_Read.l0 n s (i : Int) ((a + 256 ^ j * c.toNat : Nat) : Int) ((j + 1 : Nat) : Int)) r) : Ev (fun n => word_Read.l0 n s (i : Int) (a : Int) (j : Int)) r := by
  refine Ev.step (fun k => word_Read.l0.eq_2 ..) ?_
  have e1 : wrap64 ((i : Int) + (j : Int)) = ((i + j : Nat) : Int) := by rw [w64 (by omega)]; omega
  have e2 : wrap64 ((j : Int) + 1) = ((j + 1 : Nat) : Int) := by rw [w64 (by omega)]; omega
  rw [e1, e2, hb, rd_step a c j hj ha]
  refine evpos (by omega) (evpos (by omega) (evpos (by omega) (evpos (by rw [w64 (by omega)]; omega) k)))
theorem word_Read.ev (s : ByteArray) (hs : s.size ≤ 1000000) (i : Nat) (hi : i + 4 ≤ s.size) : Ev (fun n => word_Read.f n s (i : Int)) ((rd4 ((B s).drop i) : Nat), 0) := by
  obtain ⟨c0, r0, d0, b0, e0, l0⟩ := dn (s := s) (i := i) (by omega)
  obtain ⟨c1, r1, d1, b1, e1, l1⟩ := dn (s := s) (i := i + 1) (by omega)
  obtain ⟨c2, r2, d2, b2, e2, l2⟩ := dn (s := s) (i := i + 1 + 1) (by omega)
  obtain ⟨c3, r3, d3, b3, e3, l3⟩ := dn (s := s) (i := i + 1 + 1 + 1) (by omega)
  have hd : (B s).drop i = c0 :: c1 :: c2 :: c3 :: r3 := by rw [d0, ← e0, d1, ← e1, d2, ← e2, d3]
  have h0 := c0.toNat_lt
  have h1 := c1.toNat_lt
  have h2 := c2.toNat_lt
  have h3 := c3.toNat_lt
  rw [hd]
  unfold word_Read.f
  refine evneg (by omega) ?_
  refine Ev.step (fun k => word_Read.j0.eq_2 ..) ?_
  refine evneg (by rw [decide_eq_false (by omega)]; decide) (evneg (by rw [w64 (by omega)]; omega) ?_)
  refine rd_l0 hs (j := 0) (a := 0) (c := c0) (by omega) (by omega) (by decide) b0 ?_
  refine rd_l0 hs (j := 1) (c := c1) (by omega) (by omega) (by omega) b1 ?_
  refine rd_l0 hs (j := 2) (c := c2) (by omega) (by omega) (by omega) b2 ?_
  refine rd_l0 hs (j := 3) (c := c3) (by omega) (by omega) (by omega) b3 ?_
  refine Ev.step (fun k => word_Read.l0.eq_2 ..) ?_
  refine evneg (by decide) (evof (Ev.now _) ?_)
  rw [show rd4 (c0 :: c1 :: c2 :: c3 :: r3) = c0.toNat + 256 * c1.toNat + 65536 * c2.toNat + 16777216 * c3.toNat from rfl]
  congr 2
  omega
def sealS (h0 h1 h2 h3 h4 : Int) (body : ByteArray) (p : Int) : ByteArray × Int :=
  if sizeB p = true then (if sealOk h0 h1 h2 h3 h4 = true then (if (body.size : Int) > p - 16 then (⟨#[]⟩, 8) else (⟨(pageL h0.toNat h1.toNat h2.toNat h3.toNat h4.toNat (B body) p.toNat).toArray⟩, 0)) else (⟨#[]⟩, 3)) else (⟨#[]⟩, 4)
theorem repeat0 (n : Nat) : Lib.repeatL [0] n = zeros n := by
  have := Lib.repeatL_replicate 0 1 n
  unfold zeros
  rw [show [(0 : UInt8)] = List.replicate 1 0 from rfl, this, Nat.mul_one]
theorem four_le4 (n : Int) (h0 : 0 ≤ n) (h1 : n < 4294967296) : B (strOfNums (fourL n)) = le4 n.toNat := by
  obtain ⟨m, rfl⟩ := Int.eq_ofNat_of_zero_le h0
  rw [sn_eq, B_mk]
  show [_, _, _, _] = [_, _, _, _]
  dsimp only
  have e1 : ((m : Int) % 256).toNat = (m : Int).toNat % 256 := by omega
  have e2 : ((m : Int) / 256 % 256).toNat = (m : Int).toNat / 256 % 256 := by omega
  have e3 : ((m : Int) / 65536 % 256).toNat = (m : Int).toNat / 65536 % 256 := by omega
  have e4 : ((m : Int) / 16777216).toNat = (m : Int).toNat / 16777216 := by omega
  rw [e1, e2, e3, e4]
theorem seal_page (h0 h1 h2 h3 h4 : Int) (body : ByteArray) (p : Int) (hok : sealOk h0 h1 h2 h3 h4 = true) (hp : sizeB p = true) (hb : ¬ (body.size : Int) > p - 16) :
    sealPage (sealWhole (sealFront (strOfNums [h0 % 256, h1 % 256, h2 % 256, h2 / 256 % 256]) body h3 h4) p) = ⟨(pageL h0.toNat h1.toNat h2.toNat h3.toNat h4.toNat (B body) p.toNat).toArray⟩ := by
  have hok := of_decide_eq_true hok
  obtain ⟨g1, g2, g3, g4, g5, g6, g7, g8, g9, g10⟩ := hok
  have hp2 := sizeB_le hp
  have hz := B_len body
  have e1 : B (strOfNums [h0 % 256, h1 % 256, h2 % 256, h2 / 256 % 256]) = [UInt8.ofNat h0.toNat, UInt8.ofNat h1.toNat, UInt8.ofNat (h2.toNat % 256), UInt8.ofNat (h2.toNat / 256)] := by
    rw [sn_eq, B_mk]
    show [_, _, _, _] = [_, _, _, _]
    dsimp only
    have k1 : (h0 % 256).toNat = h0.toNat := by omega
    have k2 : (h1 % 256).toNat = h1.toNat := by omega
    have k3 : (h2 % 256).toNat = h2.toNat % 256 := by omega
    have k4 : (h2 / 256 % 256).toNat = h2.toNat / 256 := by omega
    rw [k1, k2, k3, k4]
  have e2 : B (sealFront (strOfNums [h0 % 256, h1 % 256, h2 % 256, h2 / 256 % 256]) body h3 h4) = frontL h0.toNat h1.toNat h2.toNat h3.toNat h4.toNat ++ [0, 0, 0, 0] ++ B body := by
    unfold sealFront
    rw [B_append, B_append, B_append, B_append, e1, four_le4 h3 g7 (by omega), four_le4 h4 g9 (by omega)]
    rfl
  have e3 : B (sealWhole (sealFront (strOfNums [h0 % 256, h1 % 256, h2 % 256, h2 / 256 % 256]) body h3 h4) p) = frontL h0.toNat h1.toNat h2.toNat h3.toNat h4.toNat ++ [0, 0, 0, 0] ++ (B body ++ zeros (p.toNat - 16 - (B body).length)) := by
    rw [show B (sealWhole (sealFront (strOfNums [h0 % 256, h1 % 256, h2 % 256, h2 / 256 % 256]) body h3 h4) p) = B (sealFront (strOfNums [h0 % 256, h1 % 256, h2 % 256, h2 / 256 % 256]) body h3 h4) ++ B ⟨(Lib.repeatL [0] (p - ((sealFront (strOfNums [h0 % 256, h1 % 256, h2 % 256, h2 / 256 % 256]) body h3 h4).size : Int)).toNat).toArray⟩ from B_append _ _, e2, B_mk, repeat0]
    have : (p - ((sealFront (strOfNums [h0 % 256, h1 % 256, h2 % 256, h2 / 256 % 256]) body h3 h4).size : Int)).toNat = p.toNat - 16 - (B body).length := by
      rw [← B_len, e2]; simp only [List.length_append, frontL_len]; show (p - ((12 + 4 + _ : Nat) : Int)).toNat = _; omega
    rw [this, List.append_assoc _ (B body)]
  apply ba_ext
  rw [B_mk]
  unfold sealPage
  show B (_ ++ _ ++ _) = _
  rw [B_append, B_append, four_le4 _ (by omega) (by have := Crc.sum_lt (sealWhole (sealFront (strOfNums [h0 % 256, h1 % 256, h2 % 256, h2 / 256 % 256]) body h3 h4) p).data.toList; omega)]
  rw [B_take, B_extract]
  rw [show (((Crc.sum (sealWhole (sealFront (strOfNums [h0 % 256, h1 % 256, h2 % 256, h2 / 256 % 256]) body h3 h4) p).data.toList : Nat) : Int)).toNat = Crc.sum (B (sealWhole (sealFront (strOfNums [h0 % 256, h1 % 256, h2 % 256, h2 / 256 % 256]) body h3 h4) p)) from rfl]
  rw [← B_len, e3]
  have f1 : ∀ (a b c : Bytes), a.length = 12 → (a ++ b ++ c).take 12 = a := fun a b c h => by rw [List.append_assoc, List.take_left' h]
  have f2 : ∀ (a b c : Bytes), a.length = 12 → b.length = 4 → ((a ++ b ++ c).drop 16).take ((a ++ b ++ c).length - 16) = c := fun a b c h h' => by
    rw [List.drop_left' (by simp [h, h'])]; apply List.take_of_length_le; simp [h, h']; omega
  rw [f1 _ _ _ rfl, f2 _ _ _ rfl rfl]
  unfold pageL
  rw [List.append_assoc]
theorem head_Seal.ev (h0 h1 h2 h3 h4 : Int) (body : ByteArray) (p : Int) (hb : body.size ≤ 1000000) : Ev (fun n => head_Seal.f n h0 h1 h2 h3 h4 body p) (sealS h0 h1 h2 h3 h4 body p) := by
  unfold head_Seal.f sealF sealS
  refine evpos hb ?_
  by_cases hp : sizeB p = true
  · refine evpos hp (evof (evbind (head_Right.ev h0 h1 h2 h3 h4) ?_) (if_pos hp).symm)
    by_cases hok : sealOk h0 h1 h2 h3 h4 = true
    · refine evpos hok ?_
      rw [if_pos hok]
      by_cases hbig : (body.size : Int) > p - 16
      · rw [if_pos hbig]; exact evpos hbig (Ev.now _)
      · rw [if_neg hbig]
        refine evneg hbig (evpos hok (evbind (bytes4 h0 h1 h2 (h2 / 256)) (evpos rfl (evof (Ev.now _) ?_))))
        rw [seal_page h0 h1 h2 h3 h4 body p hok hp hbig]
    · rw [if_neg hok]; exact evneg hok (Ev.now _)
  · rw [if_neg hp]; exact evneg hp (Ev.now _)
end Go.Proofs.YtlagllfbomaehaaGreatDoor.A
