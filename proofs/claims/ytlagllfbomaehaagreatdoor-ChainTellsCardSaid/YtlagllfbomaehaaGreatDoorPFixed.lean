/- withylaw12.fixed, of what the print says it computes, answers true. No condition. -/
import Derived.Test.YtlagllfbomaehaaGreatDoorPChain
import Derived.Test.YtlagllfbomaehaaGreatDoorAWithylaw12fixed
namespace Go.Proofs.YtlagllfbomaehaaGreatDoor.A
open Go Go.RowKit Go.Proofs Go.Proofs.YtlagllfbomaehaaGreatDoorW Go.Proofs.YtlagllfbomaehaaGreatDoorW.PrintWords Go.Proofs.YtlagllfbomaehaaGreatDoorW.PrintMore Go.Proofs.YtlagllfbomaehaaGreatDoor.Hand
set_option linter.unusedSimpArgs false
set_option linter.unusedVariables false
theorem chain_Parts.ev (v : ByteArray) (p : Int) (hv : v.size ≤ 1000000) (h0 : 100 ≤ p) (h1 : p ≤ 2000) : chain_Parts.f v p = some (cutsL (p - 16).toNat v.size v) := by
  unfold chain_Parts.f; rw [if_pos hv, if_pos h0, if_pos h1]
theorem chain_Pages.ev (n p : Int) (hn : n ≤ 9223372036854775807) (h0 : 100 ≤ p) (h1 : p ≤ 2000) : chain_Pages.f n p = some (pagesI n p) := by
  unfold chain_Pages.f; rw [if_pos hn, if_pos h0, if_pos h1]
theorem withylaw12_fixed.ev : Ev (fun n => withylaw12_fixed.f n) true := by
  unfold withylaw12_fixed.f
  refine evbind (chain_Encode.ev _ _ _ _ (by decide)) ?_
  refine evbind (chain_Encode.ev _ _ _ _ (by decide)) ?_
  refine evbind (chain_Encode.ev _ _ _ _ (by decide)) ?_
  refine evbind (chain_Encode.ev _ _ _ _ (by decide)) ?_
  refine evbind (withyref01_Repeat.ev 7 112 (by decide)) ?_
  refine evbind (chain_Encode.ev _ _ _ _ (by decide)) ?_
  refine evpos (by decide +kernel) ?_
  refine evpos (by decide +kernel) ?_
  refine Ev.step (fun k => withylaw12_fixed.j0.eq_2 ..) ?_
  refine evneg (by decide +kernel) ?_
  refine evbind (chain_Decode.ev _ (by decide +kernel)) ?_
  refine evbind (chain_Decode.ev _ (by decide +kernel)) ?_
  refine evbind (withyref01_Repeat.ev 0 128 (by decide)) ?_
  refine evbind (chain_Decode.ev _ (by decide +kernel)) ?_
  refine evbind (withyref01_Repeat.ev 1 113 (by decide)) ?_
  refine evbind (ev_const (chain_Parts.ev _ _ (by decide +kernel) (by decide) (by decide))) ?_
  simp only [B_toList]
  refine evpos (by decide +kernel) (evpos (by decide +kernel) (evpos (by decide +kernel) (evpos (by decide +kernel) (evpos (by decide +kernel) (evpos (by decide +kernel) ?_)))))
  refine evpos (by decide +kernel) (evpos (by decide +kernel) (evpos (by decide +kernel) (evpos (by decide +kernel) (evpos (by decide +kernel) (evpos (by decide +kernel) ?_)))))
  refine evpos (by decide +kernel) (evpos (by decide +kernel) (evpos (by decide +kernel) (evpos (by decide +kernel) (evpos (by decide +kernel) (evpos (by decide +kernel) ?_)))))
  refine evpos (by decide +kernel) (evpos (by decide +kernel) ?_)
  refine evbind (ev_const (chain_Pages.ev _ _ (by decide) (by decide) (by decide))) (evpos (by decide +kernel) ?_)
  refine evbind (ev_const (chain_Pages.ev _ _ (by decide) (by decide) (by decide))) (evpos (by decide +kernel) ?_)
  refine evbind (ev_const (chain_Pages.ev _ _ (by decide) (by decide) (by decide))) (evpos (by decide +kernel) ?_)
  refine evbind (ev_const (chain_Parts.ev _ _ (by decide) (by decide) (by decide))) (evpos (by decide +kernel) ?_)
  refine evbind (ev_const (chain_May.ev _ _ _ _ (by decide))) (evpos (by decide +kernel) ?_)
  refine evbind (ev_const (chain_May.ev _ _ _ _ (by decide))) (evof (Ev.now _) (by decide +kernel))
end Go.Proofs.YtlagllfbomaehaaGreatDoor.A
