/- The document's answers for a page's head (withyref01.Four, withyref02.Sum, withyref07.Seal, .Open), of what the print says they compute: the plain words' own. Condition: texts of at most a million bytes. -/
import Derived.Test.YtlagllfbomaehaaGreatDoorPOpen
import Derived.Test.YtlagllfbomaehaaGreatDoorAWithyref07Open
namespace Go.Proofs.YtlagllfbomaehaaGreatDoor.A
open Go Go.RowKit Go.Proofs Go.Proofs.YtlagllfbomaehaaGreatDoorW Go.Proofs.YtlagllfbomaehaaGreatDoorW.PrintWords Go.Proofs.YtlagllfbomaehaaGreatDoorW.PrintMore Go.Proofs.YtlagllfbomaehaaGreatDoor.Hand
set_option linter.unusedSimpArgs false
set_option linter.unusedVariables false
theorem ref_Four (n : Int) (h0 : 0 ≤ n) (h1 : n < 4294967296) : withyref01_Four.f n = some (strOfNums (fourL n)) := by
  unfold withyref01_Four.f fourL
  rw [Int.tmod_eq_emod_of_nonneg h0, Int.tdiv_eq_ediv_of_nonneg h0, Int.tdiv_eq_ediv_of_nonneg h0, Int.tdiv_eq_ediv_of_nonneg h0]
  rw [show n % 256 % 256 = n % 256 by omega, show n / 256 % 4294967296 % 256 = n / 256 % 256 by omega, show n / 65536 % 4294967296 % 256 = n / 65536 % 256 by omega, show n / 16777216 % 4294967296 % 256 = n / 16777216 by omega]
theorem ref_step {r : Nat} (h : r < 4294967296) {j : Nat} (hj : j < 8) {q : Int} (k : Ev (fun n => withyref02_one.l0 n (Crc.s1 r : Nat) ((j + 1 : Nat) : Int)) q) : Ev (fun n => withyref02_one.l0 n (r : Nat) (j : Int)) q := by
  refine Ev.step (fun k => withyref02_one.l0.eq_2 ..) ?_
  have e : wrap64 ((j : Int) + 1) = ((j + 1 : Nat) : Int) := by rw [w64 (by omega)]; omega
  have d : Int.tdiv (r : Int) 2 % 4294967296 = ((r / 2 : Nat) : Int) := by rw [Int.tdiv_eq_ediv_of_nonneg (by omega)]; omega
  have hx : Go.bits .xor .u32 ((r / 2 : Nat) : Int) 2197175160 = ((r / 2 ^^^ 2197175160 : Nat) : Int) := xor_u32 (r / 2) 2197175160 (by omega) (by decide)
  rw [Int.tmod_eq_emod_of_nonneg (by omega), d, e, hx]
  refine evpos (by omega) ?_
  unfold Crc.s1 at k
  by_cases c : r % 2 = 1
  · rw [if_pos c] at k; exact evpos (by omega) k
  · rw [if_neg c] at k; exact evneg (by omega) k
theorem ref_one (r c : Nat) (h : r < 4294967296) (hc : c < 256) : Ev (fun n => withyref02_one.f n (r : Nat) (c : Nat)) (Crc.one r c : Nat) := by
  unfold withyref02_one.f
  rw [show ((c : Int)) % 4294967296 = (c : Int) by omega, xor_u32 r c h (by omega), Crc.one_plain]
  have h0 : r ^^^ c < 4294967296 := Nat.xor_lt_two_pow (n := 32) h (by omega)
  generalize r ^^^ c = x at h0 ⊢
  have h1 := Crc.s1_lt h0
  have h2 := Crc.s1_lt h1
  have h3 := Crc.s1_lt h2
  have h4 := Crc.s1_lt h3
  have h5 := Crc.s1_lt h4
  have h6 := Crc.s1_lt h5
  have h7 := Crc.s1_lt h6
  refine ref_step h0 (j := 0) (by decide) (ref_step h1 (j := 1) (by decide) (ref_step h2 (j := 2) (by decide) (ref_step h3 (j := 3) (by decide) (ref_step h4 (j := 4) (by decide) (ref_step h5 (j := 5) (by decide) (ref_step h6 (j := 6) (by decide) (ref_step h7 (j := 7) (by decide) ?_)))))))
  refine Ev.step (fun k => withyref02_one.l0.eq_2 ..) ?_
  exact evneg (by decide) (Ev.now _)
theorem ref_more (s : ByteArray) (hs : s.size ≤ 2000000) : ∀ (d i : Nat) (r : Nat), i + d = s.size → r < 4294967296 → Ev (fun n => withyref02_More.l0 n s (r : Nat) (i : Int)) ((4294967295 - Crc.run r ((B s).drop i) : Nat) : Int)
  | 0, i, r, hi, hr => by
    refine Ev.step (fun k => withyref02_More.l0.eq_2 ..) ?_
    refine evneg (by omega) (evof (Ev.now _) ?_)
    rw [dn_end (by omega)]
    show (4294967295 - (r : Int)) % 4294967296 = ((4294967295 - r : Nat) : Int)
    omega
  | d + 1, i, r, hi, hr => by
    obtain ⟨c, t, h1, h2, h3, h4⟩ := dn (s := s) (i := i) (by omega)
    refine Ev.step (fun k => withyref02_More.l0.eq_2 ..) ?_
    rw [h2]
    refine evpos (by omega) (evpos (by omega) (evbind (ref_one r c.toNat hr c.toNat_lt) ?_))
    rw [show wrap64 ((i : Int) + 1) = ((i + 1 : Nat) : Int) from by (rw [w64 (by omega)]; omega)]
    refine evof (ref_more s hs d (i + 1) (Crc.one r c.toNat) (by omega) (Crc.one_lt hr c.toNat_lt)) ?_
    rw [h1, h3]; rfl
theorem withyref02_Sum.ev (s : ByteArray) (hs : s.size ≤ 2000000) : Ev (fun n => withyref02_Sum.f n s) ((Crc.sum (B s) : Nat) : Int) := by
  unfold withyref02_Sum.f withyref02_More.f
  exact evbind (ref_more s hs s.size 0 4294967295 (by omega) (by decide)) (Ev.now _)
theorem ref_Right (a b c d e : Int) : withyref07_Right.f a b c d e = some (sealOk a b c d e) := by
  unfold withyref07_Right.f sealOk
  by_cases c0 : a ≥ 1
  · rw [if_pos c0]
    by_cases c1 : a ≤ 4
    · rw [if_pos c1]
      by_cases c2 : b ≥ 0
      · rw [if_pos c2]
        by_cases c3 : b ≤ 255
        · rw [if_pos c3]
          by_cases c4 : c ≥ 0
          · rw [if_pos c4]
            by_cases c5 : c ≤ 65535
            · rw [if_pos c5]
              by_cases c6 : d ≥ 0
              · rw [if_pos c6]
                by_cases c7 : d ≤ 4095
                · rw [if_pos c7]
                  by_cases c8 : e ≥ 0
                  · rw [if_pos c8]; congr 1; rw [decide_eq_decide]; omega
                  · rw [if_neg c8, decide_eq_false (by omega)]
                · rw [if_neg c7, decide_eq_false (by omega)]
              · rw [if_neg c6, decide_eq_false (by omega)]
            · rw [if_neg c5, decide_eq_false (by omega)]
          · rw [if_neg c4, decide_eq_false (by omega)]
        · rw [if_neg c3, decide_eq_false (by omega)]
      · rw [if_neg c2, decide_eq_false (by omega)]
    · rw [if_neg c1, decide_eq_false (by omega)]
  · rw [if_neg c0, decide_eq_false (by omega)]
theorem sn_rep (n : Nat) : B (strOfNums (List.replicate n (0 : Int))) = zeros n := by
  rw [sn_eq, B_mk]; unfold sn zeros; rw [List.map_replicate]; rfl
theorem withyref07_Seal.ev (h0 h1 h2 h3 h4 : Int) (body : ByteArray) (p : Int) (hb : body.size ≤ 1000000) : Ev (fun n => withyref07_Seal.f n h0 h1 h2 h3 h4 body p) (sealS h0 h1 h2 h3 h4 body p) := by
  unfold withyref07_Seal.f sealS
  refine evbind (ev_const (ref_Size p)) ?_
  by_cases hp : sizeB p = true
  · have hp2 := sizeB_le hp
    rw [if_pos hp]
    refine evpos hp (evbind (ev_const (ref_Right h0 h1 h2 h3 h4)) ?_)
    by_cases hok : sealOk h0 h1 h2 h3 h4 = true
    · rw [if_pos hok]
      refine evpos hok ?_
      rw [w64 (n := p - 16) (by omega)]
      by_cases hbig : (body.size : Int) > p - 16
      · rw [if_pos hbig]; exact evpos hbig (Ev.now _)
      · rw [if_neg hbig]
        refine evneg hbig (evsome ?_)
        have hpage := seal_page h0 h1 h2 h3 h4 body p hok hp hbig
        have hok2 := of_decide_eq_true hok
        obtain ⟨g1, g2, g3, g4, g5, g6, g7, g8, g9, g10⟩ := hok2
        have z3 : (strOfNums (fourL h3)).size = 4 := fourL_size h3
        have z4 : (strOfNums (fourL h4)).size = 4 := fourL_size h4
        rw [show h3 % 4294967296 = h3 by omega, show h4 % 4294967296 = h4 by omega, Int.tmod_eq_emod_of_nonneg g5, Int.tdiv_eq_ediv_of_nonneg g5, w64 (n := h2 / 256) (by omega), show h2 % 256 % 256 = h2 % 256 by omega, w64 (n := p - 16 - (body.size : Int)) (by omega)]
        have hF : (strOfNums [h0 % 256, h1 % 256, h2 % 256, h2 / 256 % 256]).size = 4 := rfl
        rw [← hpage]
        generalize strOfNums [h0 % 256, h1 % 256, h2 % 256, h2 / 256 % 256] = F at hF
        refine evbind (ev_const (ref_Four h3 (by omega) (by omega))) (evpos (by omega) ?_)
        refine evbind (ev_const (ref_Four h4 (by omega) (by omega))) (evpos (by rw [ByteArray.size_append]; omega) ?_)
        refine evbind (withyref01_Repeat.ev 0 (p - 16 - (body.size : Int)) (by omega)) ?_
        have hZ := rep_size 0 (p - 16 - (body.size : Int)).toNat
        have hZB := sn_rep (p - 16 - (body.size : Int)).toNat
        generalize strOfNums (List.replicate (p - 16 - (body.size : Int)).toNat 0) = Z at hZ hZB ⊢
        have hq : (⟨#[0, 0, 0, 0]⟩ : ByteArray).size = 4 := rfl
        refine evpos (by omega) (evpos (by simp only [ByteArray.size_append]; omega) (evpos (by simp only [ByteArray.size_append]; omega) ?_))
        have hwhole : F ++ strOfNums (fourL h3) ++ strOfNums (fourL h4) ++ (⟨#[0, 0, 0, 0]⟩ : ByteArray) ++ (body ++ Z) = sealWhole (sealFront F body h3 h4) p := by
          apply ba_ext
          unfold sealWhole sealFront
          simp only [B_append]
          rw [hZB, B_mk, repeat0]
          have : (p - ((F ++ strOfNums (fourL h3) ++ strOfNums (fourL h4) ++ (⟨#[0, 0, 0, 0]⟩ : ByteArray) ++ body).size : Int)).toNat = (p - 16 - (body.size : Int)).toNat := by
            simp only [ByteArray.size_append]; omega
          rw [this]
          simp only [List.append_assoc]
        rw [hwhole]
        have hwz : (sealWhole (sealFront F body h3 h4) p).size ≤ 2000000 := by rw [← hwhole]; simp only [ByteArray.size_append]; omega
        refine evbind (withyref02_Sum.ev _ hwz) ?_
        have hsl := Crc.sum_lt (B (sealWhole (sealFront F body h3 h4) p))
        refine evbind (ev_const (ref_Four _ (by omega) (by omega))) ?_
        have zs := fourL_size ((Crc.sum (B (sealWhole (sealFront F body h3 h4) p)) : Nat) : Int)
        refine evpos (by simp only [ByteArray.size_append]; omega) (evpos (by simp only [ByteArray.size_append]; omega) (evof (Ev.now _) ?_))
        refine congrArg (fun x => (x, (0 : Int))) ?_
        have e12 : (sealWhole (sealFront F body h3 h4) p).extract 0 12 = F ++ strOfNums (fourL h3) ++ strOfNums (fourL h4) := by
          apply ba_ext
          rw [B_take, ← hwhole]
          simp only [B_append, List.append_assoc]
          rw [← List.append_assoc (B (strOfNums (fourL h3))), ← List.append_assoc (B F)]
          rw [List.take_left' (by simp only [List.length_append, B_len]; omega)]
        have e16 : (sealWhole (sealFront F body h3 h4) p).extract 16 (sealWhole (sealFront F body h3 h4) p).size = body ++ Z := by
          apply ba_ext
          rw [B_extract, ← hwhole]
          simp only [B_append, ByteArray.size_append]
          rw [List.drop_left' (by simp only [List.length_append, B_len]; omega)]
          exact List.take_of_length_le (by simp only [List.length_append, B_len]; omega)
        unfold sealPage
        rw [e12, e16]
    · rw [if_neg hok]; exact evneg hok (Ev.now _)
  · rw [if_neg hp]; exact evneg hp (Ev.now _)
end Go.Proofs.YtlagllfbomaehaaGreatDoor.A
