/- withylaw12.ChainTells, of what the print says it computes, answers true. Condition: whole numbers in their kinds' ranges. -/
import Derived.Test.YtlagllfbomaehaaGreatDoorRef12
import Derived.Test.YtlagllfbomaehaaGreatDoorAWithylaw12ChainTells
namespace Go.Proofs.YtlagllfbomaehaaGreatDoor.A
open Go Go.RowKit Go.Proofs Go.Proofs.YtlagllfbomaehaaGreatDoorW Go.Proofs.YtlagllfbomaehaaGreatDoorW.PrintWords Go.Proofs.YtlagllfbomaehaaGreatDoorW.PrintMore Go.Proofs.YtlagllfbomaehaaGreatDoor.Hand
set_option linter.unusedSimpArgs false
set_option linter.unusedVariables false
theorem tells_j0 (p : Int) (v : ByteArray) (hv : v.size ≤ 3000) (s t : ByteArray) (n : Int) (hn : -9223372036854775808 ≤ n ∧ n ≤ 9223372036854775807) : Ev (fun k => withylaw12_ChainTells.j0 k p v false s t n) true := by
  refine Ev.step (fun k => withylaw12_ChainTells.j0.eq_2 ..) ?_
  refine evneg (by decide) (evbind (ev_const (ref_Size p)) ?_)
  by_cases hp : sizeB p = true
  · have hp2 := sizeB_le hp
    obtain ⟨r, hr⟩ := Int.eq_ofNat_of_zero_le (show 0 ≤ p - 16 by omega)
    obtain rfl : p = (r : Int) + 16 := by omega
    refine evpos hp (evbind (ev_const (chain_Parts.ev v ((r : Int) + 16) (by omega) (by omega) (by omega))) ?_)
    rw [show ((r : Int) + 16 - 16).toNat = r by omega]
    refine evbind (withyref12_Parts.ev v hv r (by omega) (by omega)) ?_
    have hl := cutsL_length r v.size v
    refine evbind (withyref01_Words.same _ (by omega)) (evpos rfl ?_)
    refine evbind (ev_const (chain_Pages.ev n ((r : Int) + 16) hn.2 (by omega) (by omega))) ?_
    refine evbind (ev_const (ref_Pages n ((r : Int) + 16) hn (by omega) (by omega))) (evpos rfl ?_)
    exact evbind withylaw12_fixed.ev (Ev.now _)
  · exact evneg hp (evbind withylaw12_fixed.ev (Ev.now _))
theorem withylaw12_ChainTells.ev (a b : Int) (d : ByteArray) (p : Int) (s t : ByteArray) (n : Int) (hn : -9223372036854775808 ≤ n ∧ n ≤ 9223372036854775807) : Ev (fun k => withylaw12_ChainTells.f k a b d p s t n) true := by
  unfold withylaw12_ChainTells.f
  have hd := mn_le (d.size : Int) 1100 (by omega) (by decide)
  have hs := mn_le (s.size : Int) 1100 (by omega) (by decide)
  have ht := mn_le (t.size : Int) 3000 (by omega) (by decide)
  have hc : withylaw12_Cut.f a b d = some (a, b, d.extract 0 (mn (d.size : Int) 1100).toNat) := by
    unfold withylaw12_Cut.f; rw [if_pos hd.1, if_pos hd.2.1]
  have zd : (d.extract 0 (mn (d.size : Int) 1100).toNat).size ≤ 1100 := by rw [ByteArray.size_extract]; omega
  have zs : (s.extract 0 (mn (s.size : Int) 1100).toNat).size ≤ 1100 := by rw [ByteArray.size_extract]; omega
  have zt : (t.extract 0 (mn (t.size : Int) 3000).toNat).size ≤ 3000 := by rw [ByteArray.size_extract]; omega
  have hj := tells_j0 p _ zt s t n hn
  refine evbind (ev_const hc) (evpos hs.1 (evpos hs.2.1 (evpos ht.1 (evpos ht.2.1 ?_))))
  generalize d.extract 0 (mn (d.size : Int) 1100).toNat = d' at zd ⊢
  generalize s.extract 0 (mn (s.size : Int) 1100).toNat = s' at zs ⊢
  refine evbind (chain_Encode.ev a b d' p (by omega)) (evsome ?_)
  refine evbind (withyref12_Encode.ev a b d' p (by omega)) ?_
  refine evbind (chain_Decode.ev s' (by omega)) (evbind (withyref12_Decode.ev s' (by omega)) ?_)
  refine evbind (ev_const (chain_May.ev a b d' p (by omega))) (evsome ?_)
  refine evbind (ev_const (ref_May a b d' p)) ?_
  refine evneg (by simp) (evpos rfl (evpos rfl (evsome (evneg (by simp) ?_))))
  rw [show ((decS s').2.2.2 != (decS s').2.2.2) = false by simp]
  exact hj
end Go.Proofs.YtlagllfbomaehaaGreatDoor.A
