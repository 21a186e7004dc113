/- withylaw12.ChainEach, of what the print says it computes, answers true. Condition: whole numbers in their kinds' ranges. -/
import Derived.Test.YtlagllfbomaehaaDoorPFixed
import Derived.Test.YtlagllfbomaehaaDoorLawChainLast
import Derived.Test.YtlagllfbomaehaaDoorAWithylaw12ChainEach
namespace Go.Proofs.YtlagllfbomaehaaDoor.A
open Go Go.RowKit Go.Proofs Go.Proofs.YtlagllfbomaehaaDoorW Go.Proofs.YtlagllfbomaehaaDoorW.PrintWords Go.Proofs.YtlagllfbomaehaaDoorW.PrintMore Go.Proofs.YtlagllfbomaehaaDoor.Hand
set_option linter.unusedSimpArgs false
set_option linter.unusedVariables false
theorem cut12e (a b : Int) (d : ByteArray) : ∃ d', d'.size ≤ 1100 ∧ withylaw12_Cut.f a b d = some (a, b, d') := by
  have := mn_le (d.size : Int) 1100 (by omega) (by decide)
  refine ⟨d.extract 0 (mn (d.size : Int) 1100).toNat, by rw [ByteArray.size_extract]; omega, ?_⟩
  unfold withylaw12_Cut.f
  rw [if_pos this.1, if_pos this.2.1]
def isBad (p : Int) (x : S23) : Prop := x.f2.size ≤ 1000000 ∧ mayB x.f0 x.f1 x.f2.size p = false
theorem each_l0 (p : Int) (hp : sizeB p = true) (L : List S23) (hL : ∀ x ∈ L, isBad p x) (hl : L.length ≤ 1000) : ∀ (d i : Nat), i + d = L.length → Ev (fun n => withylaw12_ChainEach.l0 n p L (i : Int)) true
  | 0, i, hi => by
    refine Ev.step (fun k => withylaw12_ChainEach.l0.eq_2 ..) ?_
    refine evneg (by omega) (evbind (ev_const (ref_Size p)) (evpos hp (evbind withylaw12_fixed.ev (Ev.now _))))
  | d + 1, i, hi => by
    refine Ev.step (fun k => withylaw12_ChainEach.l0.eq_2 ..) ?_
    have hx : isBad p (rd_T23 L (i : Int)) := by
      unfold rd_T23
      rw [show ((i : Int)).toNat = i from rfl, List.getD_eq_getElem?_getD, List.getElem?_eq_getElem (show i < L.length by omega), Option.getD_some]
      exact hL _ (List.getElem_mem _)
    generalize rd_T23 L (i : Int) = x at hx ⊢
    have hE : encS x.f0 x.f1 x.f2 p = (⟨#[]⟩, 3) := by unfold encS; rw [if_pos hp, hx.2]; rfl
    have h := chain_Encode.ev x.f0 x.f1 x.f2 p hx.1
    rw [hE] at h
    have e : wrap64 ((i : Int) + 1) = ((i + 1 : Nat) : Int) := by rw [w64 (by omega)]; omega
    rw [e]
    refine evpos (by omega) (evpos (by omega) (evbind h (evpos rfl (evpos (by rw [B_toList]) ?_))))
    refine evbind (ev_const (chain_May.ev _ _ _ _ hx.1)) ?_
    rw [hx.2]
    exact evneg (by decide) (each_l0 p hp L hL hl d (i + 1) (by omega))
theorem withylaw12_ChainEach.ev (a b : Int) (d : ByteArray) (p : Int) : Ev (fun n => withylaw12_ChainEach.f n a b d p) true := by
  unfold withylaw12_ChainEach.f
  obtain ⟨d', hd, hc⟩ := cut12e a b d
  refine evbind (ev_const hc) (evbind (ev_const (chain_May.ev a b d' p (by omega))) ?_)
  by_cases hM : mayB a b d'.size p = true
  · have hM2 := mayB_iff.1 hM
    have hp := hM2.1
    have hp2 := sizeB_le hp
    refine evpos hM (evsome ?_)
    refine evpos (by simp) (evsome ?_)
    refine evpos (by simp) (evsome ?_)
    refine evpos (by simp) (evsome ?_)
    refine evpos (by simp) (evsome ?_)
    refine evpos (by simp) (evsome ?_)
    rw [w64 (n := p - 15) (by omega), w64 (n := p - 17) (by omega)]
    refine evbind (withyref01_Repeat.ev 1 (p - 15) (by omega)) ?_
    refine evpos (by simp) (evsome ?_)
    refine evbind (withyref01_Repeat.ev 1 (p - 17) (by omega)) ?_
    refine evpos (by simp) (evsome ?_)
    have hz1 := rep_size 1 (p - 15).toNat
    have hz2 := rep_size 1 (p - 17).toNat
    have t0 : 0 ≤ Int.tmod a 4095 := Int.tmod_nonneg _ (by omega)
    have t1 : Int.tmod a 4095 < 4095 := Int.tmod_lt_of_pos _ (by omega)
    have ht : wrap64 (Int.tmod a 4095 + 1) = Int.tmod a 4095 + 1 := w64 (by omega)
    refine each_l0 p hp [⟨0, b, d'⟩, ⟨4096, b, d'⟩, ⟨a, -1, d'⟩, ⟨a, a, d'⟩, ⟨a, b, ⟨#[]⟩⟩, ⟨a, b, strOfNums (List.replicate (p - 15).toNat 1)⟩, ⟨a, wrap64 (Int.tmod a 4095 + 1), strOfNums (List.replicate (p - 17).toNat 1)⟩] ?_ (by simp) 7 0 (by simp)
    intro x hx
    have bad : ∀ (u v : Int) (s : ByteArray), s.size ≤ 1000000 → ¬ (1 ≤ u ∧ u < 4096 ∧ 0 ≤ v ∧ v < 4096 ∧ v ≠ u ∧ ((v ≠ 0 ∧ (s.size : Int) = p - 16) ∨ (v = 0 ∧ 1 ≤ (s.size : Int) ∧ (s.size : Int) ≤ p - 16))) → isBad p ⟨u, v, s⟩ := fun u v s hs hq =>
      ⟨hs, by rw [Bool.eq_false_iff]; intro h; exact hq (mayB_iff.1 h).2⟩
    simp only [List.mem_cons, List.not_mem_nil, or_false] at hx
    rcases hx with rfl | rfl | rfl | rfl | rfl | rfl | rfl
    · exact bad _ _ _ (by omega) (by omega)
    · exact bad _ _ _ (by omega) (by omega)
    · exact bad _ _ _ (by omega) (by omega)
    · exact bad _ _ _ (by omega) (by omega)
    · exact bad _ _ _ (by decide) (by rw [show (⟨#[]⟩ : ByteArray).size = 0 from rfl]; omega)
    · exact bad _ _ _ (by omega) (by omega)
    · exact bad _ _ _ (by omega) (by omega)
  · refine evneg hM (evbind (chain_Encode.ev a b d' p (by omega)) (evneg ?_ (evbind withylaw12_fixed.ev (Ev.now _))))
    unfold encS
    by_cases hp : sizeB p = true
    · rw [if_pos hp, if_neg hM]; show ¬ (3 : Int) = 0; decide
    · rw [if_neg hp]; show ¬ (4 : Int) = 0; decide
end Go.Proofs.YtlagllfbomaehaaDoor.A
