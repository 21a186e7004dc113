/- withylaw12.ChainParts, of what the print says it computes, answers true. Condition: whole numbers in their kinds' ranges. -/
import Derived.Test.YtlagllfbomaehaaDoorPFixed
import Derived.Test.YtlagllfbomaehaaDoorLawChainLast
import Derived.Test.YtlagllfbomaehaaDoorLawChainPages
import Derived.Test.YtlagllfbomaehaaDoorAWithylaw12ChainParts
namespace Go.Proofs.YtlagllfbomaehaaDoor.A
open Go Go.RowKit Go.Proofs Go.Proofs.YtlagllfbomaehaaDoorW Go.Proofs.YtlagllfbomaehaaDoorW.PrintWords Go.Proofs.YtlagllfbomaehaaDoorW.PrintMore Go.Proofs.YtlagllfbomaehaaDoor.Hand
set_option linter.unusedSimpArgs false
set_option linter.unusedVariables false
theorem cuts_many (r : Nat) (hr : 1 ≤ r) : ∀ (n : Nat) (s : ByteArray), s.size ≤ n → s.size ≤ (cutsL r n s).length * r ∧ (0 < s.size → 1 ≤ (cutsL r n s).length ∧ ((cutsL r n s).length - 1) * r < s.size) ∧ (s.size = 0 → cutsL r n s = [])
  | 0, s, h => ⟨by omega, fun q => by omega, fun _ => rfl⟩
  | n + 1, s, h => by
    unfold cutsL
    by_cases hz : s.size = 0
    · rw [if_pos hz]; exact ⟨by omega, fun q => by omega, fun _ => rfl⟩
    · rw [if_neg hz]
      have hq : (s.extract (min r s.size) s.size).size = s.size - min r s.size := by rw [ByteArray.size_extract]; omega
      obtain ⟨h1, h2, h3⟩ := cuts_many r hr n (s.extract (min r s.size) s.size) (by omega)
      rw [hq] at h1 h2 h3
      generalize hL : cutsL r n (s.extract (min r s.size) s.size) = L at h1 h2 h3 ⊢
      refine ⟨?_, fun _ => ⟨by simp, ?_⟩, fun q => absurd q hz⟩
      · rw [List.length_cons, Nat.add_mul]; omega
      · rw [List.length_cons, Nat.add_sub_cancel]
        by_cases hm : s.size ≤ r
        · rw [h3 (by omega)]; show 0 * r < _; omega
        · obtain ⟨h4, h5⟩ := h2 (by omega)
          have e : L.length * r = (L.length - 1) * r + r := by
            obtain ⟨m, hm⟩ : ∃ m, L.length = m + 1 := ⟨L.length - 1, by omega⟩
            rw [hm, Nat.add_sub_cancel, Nat.add_mul]; omega
          omega
theorem cuts_pages (r : Nat) (hr : 84 ≤ r) (s : ByteArray) : ((cutsL r s.size s).length : Int) = pagesI s.size ((r : Int) + 16) := by
  obtain ⟨h1, h2, h3⟩ := cuts_many r (by omega) s.size s (Nat.le_refl _)
  rcases (show s.size = 0 ∨ 0 < s.size by omega) with h | h
  · rw [h3 h]
    have := (pages_char (s.size : Int) ((r : Int) + 16) (by omega) (by omega)).2.2.1 (by omega)
    rw [this]; rfl
  · obtain ⟨h4, h5⟩ := h2 h
    refine (pages_eq (by omega) (by omega) ?_ ?_).symm
    · rw [show (r : Int) + 16 - 16 = (r : Int) by omega]; exact_mod_cast h1
    · rw [show (r : Int) + 16 - 16 = (r : Int) by omega, show ((cutsL r s.size s).length : Int) - 1 = (((cutsL r s.size s).length - 1 : Nat) : Int) by omega]; exact_mod_cast h5
theorem parts_l0 (v : ByteArray) (hv : v.size ≤ 3000) (r : Nat) (hp : sizeB ((r : Int) + 16) = true) (L : List ByteArray) (hL : (L.length : Int) = pagesI v.size ((r : Int) + 16)) (hl : L.length ≤ 3000) :
    ∀ (n : Nat) (s acc : ByteArray) (i : Nat), s.size ≤ n → L.drop i = cutsL r n s → i ≤ L.length → acc ++ s = v → Ev (fun k => withylaw12_ChainParts.l0 k v ((r : Int) + 16) L acc (i : Int)) true := by
  intro n
  induction n with
  | zero =>
    intro s acc i hs hd hi ha
    have hp2 := sizeB_le hp
    refine Ev.step (fun k => withylaw12_ChainParts.l0.eq_2 ..) ?_
    have hnil : L.drop i = [] := hd
    have hlen : i = L.length := by have := congrArg List.length hnil; rw [List.length_drop, List.length_nil] at this; omega
    have hav : acc = v := by
      rw [← ha]; apply ba_ext; rw [B_append]
      have : B s = [] := List.eq_nil_of_length_eq_zero (by rw [B_len]; omega)
      rw [this, List.append_nil]
    refine evneg (by omega) (evpos (by rw [hav]) (evbind (ev_const (chain_Pages.ev (v.size : Int) ((r : Int) + 16) (by omega) (by omega) (by omega))) (evpos hL.symm ?_)))
    exact evbind withylaw12_fixed.ev (Ev.now _)
  | succ n IH =>
    intro s acc i hs hd hi ha
    have hp2 := sizeB_le hp
    refine Ev.step (fun k => withylaw12_ChainParts.l0.eq_2 ..) ?_
    by_cases hz : s.size = 0
    · have hnil : L.drop i = [] := by rw [hd]; exact (cuts_many r (by omega) (n + 1) s hs).2.2 hz
      have hlen : i = L.length := by have := congrArg List.length hnil; rw [List.length_drop, List.length_nil] at this; omega
      have hav : acc = v := by
        rw [← ha]; apply ba_ext; rw [B_append]
        have : B s = [] := List.eq_nil_of_length_eq_zero (by rw [B_len]; exact hz)
        rw [this, List.append_nil]
      refine evneg (by omega) (evpos (by rw [hav]) (evbind (ev_const (chain_Pages.ev (v.size : Int) ((r : Int) + 16) (by omega) (by omega) (by omega))) (evpos hL.symm ?_)))
      exact evbind withylaw12_fixed.ev (Ev.now _)
    · rw [cutsL] at hd
      rw [if_neg hz] at hd
      have hilt : i < L.length := by
        rcases Nat.lt_or_ge i L.length with h | h
        · exact h
        · rw [List.drop_eq_nil_of_le h] at hd; cases hd
      rw [List.drop_eq_getElem_cons hilt] at hd
      injection hd with hx hrest
      have hrd : rdOf ByteArray.empty L (i : Int) = s.extract 0 (min r s.size) := by
        unfold rdOf
        rw [show ((i : Int)).toNat = i from rfl, List.getD_eq_getElem?_getD, List.getElem?_eq_getElem hilt, Option.getD_some, hx]
      have hxz : (s.extract 0 (min r s.size)).size = min r s.size := by rw [ByteArray.size_extract]; omega
      have hqz : (s.extract (min r s.size) s.size).size = s.size - min r s.size := by rw [ByteArray.size_extract]; omega
      have hcat : acc ++ s.extract 0 (min r s.size) ++ s.extract (min r s.size) s.size = v := by
        rw [← ha]; apply ba_ext; rw [B_append, B_append, B_append, B_take, B_extract, List.append_assoc]
        rw [List.take_of_length_le (l := (B s).drop _) (by rw [List.length_drop, B_len]; omega), List.take_append_drop]
      have hsz : acc.size + s.size = v.size := by rw [← ha, ByteArray.size_append]
      have hmany := cuts_many r (by omega) n (s.extract (min r s.size) s.size) (by omega)
      have hlr : (cutsL r n (s.extract (min r s.size) s.size)).length = L.length - (i + 1) := by rw [← hrest, List.length_drop]
      have hlast : (L.length = i + 1 ∧ s.size ≤ r) ∨ (i + 1 < L.length ∧ r < s.size) := by
        rcases Nat.lt_or_ge r s.size with h | h
        · have := (hmany.2.1 (by omega)).1; exact .inr ⟨by omega, h⟩
        · have := hmany.2.2 (by omega); rw [this] at hlr; simp at hlr; exact .inl ⟨by omega, h⟩
      have ih := IH (s.extract (min r s.size) s.size) (acc ++ s.extract 0 (min r s.size)) (i + 1) (by omega) hrest (by omega) hcat
      rw [hrd, show wrap64 ((i : Int) + 1) = ((i + 1 : Nat) : Int) from by (rw [w64 (by omega)]; omega), w64 (n := (r : Int) + 16 - 16) (by omega), w64 (n := (L.length : Int) - 1) (by omega), w64 (n := (L.length : Int) - 1 - (i : Int)) (by omega)]
      generalize hX : s.extract 0 (min r s.size) = X at hxz ih ⊢
      have fits : acc.size + X.size ≤ 9223372036854775807 := by omega
      refine evpos (by omega) (evpos (by omega) (evneg (by omega) (evneg (by omega) ?_)))
      rcases hlast with ⟨h1, h2⟩ | ⟨h1, h2⟩
      · have hmn : wrap64 (2 * (mn 1 ((L.length : Int) - 1 - (i : Int)))) = 0 := by
          have : mn 1 ((L.length : Int) - 1 - (i : Int)) = 0 := by unfold mn; split <;> omega
          rw [this]; exact w64 (by decide)
        have hM := chain_May.ev 1 0 X ((r : Int) + 16) (by omega)
        rw [may_last 1 X.size ((r : Int) + 16) hp (by omega), decide_eq_true (by omega)] at hM
        rw [hmn]
        exact evneg (by omega) (evbind (ev_const hM) (evpos rfl (evpos fits ih)))
      · have hmn : wrap64 (2 * (mn 1 ((L.length : Int) - 1 - (i : Int)))) = 2 := by
          have : mn 1 ((L.length : Int) - 1 - (i : Int)) = 1 := by unfold mn; split <;> omega
          rw [this]; exact w64 (by decide)
        have hM := chain_May.ev 1 2 X ((r : Int) + 16) (by omega)
        rw [may_mid 1 2 X.size ((r : Int) + 16) hp (by omega) (by omega), decide_eq_true (show (X.size : Int) = (r : Int) + 16 - 16 by omega)] at hM
        rw [hmn]
        exact evpos (by omega) (evpos (by omega) (evbind (ev_const hM) (evpos rfl (evpos fits ih))))
theorem withylaw12_ChainParts.ev (value : ByteArray) (p : Int) : Ev (fun k => withylaw12_ChainParts.f k value p) true := by
  unfold withylaw12_ChainParts.f
  have hm := mn_le (value.size : Int) 3000 (by omega) (by decide)
  have hv : (value.extract 0 (mn (value.size : Int) 3000).toNat).size ≤ 3000 := by rw [ByteArray.size_extract]; omega
  refine evpos hm.1 (evpos hm.2.1 ?_)
  generalize value.extract 0 (mn (value.size : Int) 3000).toNat = v at hv ⊢
  refine evbind (ev_const (ref_Size p)) ?_
  by_cases hp : sizeB p = true
  · have hp2 := sizeB_le hp
    obtain ⟨r, hr⟩ := Int.eq_ofNat_of_zero_le (show 0 ≤ p - 16 by omega)
    obtain rfl : p = (r : Int) + 16 := by omega
    refine evpos hp (evbind (ev_const (chain_Parts.ev v ((r : Int) + 16) (by omega) (by omega) (by omega))) ?_)
    rw [show ((r : Int) + 16 - 16).toNat = r by omega]
    have hlen := cutsL_length r v.size v
    exact parts_l0 v hv r hp (cutsL r v.size v) (cuts_pages r (by omega) v) (by omega) v.size v ⟨#[]⟩ 0 (Nat.le_refl _) rfl (by omega) (ba_ext (by rw [B_append]; rfl))
  · refine evneg hp (evbind (ev_const (chain_May.ev 1 0 ⟨#[120]⟩ p (by decide))) ?_)
    rw [may_no p hp]
    exact evneg (by decide) (evbind withylaw12_fixed.ev (Ev.now _))
end Go.Proofs.YtlagllfbomaehaaDoor.A
