/- withylaw04.KeyOnce, of what the print says it computes, answers true. No condition. -/
import Derived.Test.YtimnjdgelencpaaDoorKAux
import Derived.Test.YtimnjdgelencpaaDoorAWithylaw04KeyOnce
namespace Go.Proofs.YtimnjdgelencpaaDoor.A
open Go Go.RowKit Go.Proofs Go.Proofs.YtimnjdgelencpaaDoorW Go.Proofs.YtimnjdgelencpaaDoorW.PrintWords Go.Proofs.YtimnjdgelencpaaDoorW.PrintMore Go.Proofs.YtimnjdgelencpaaDoor.Spec
set_option linter.unusedSimpArgs false
set_option linter.unusedVariables false
theorem withylaw04_KeyOnce.ev (s : ByteArray) : Ev (fun n => withylaw04_KeyOnce.f n s) true := by
  unfold withylaw04_KeyOnce.f
  have m1 := mn_le (s.size : Int) 200 (by omega) (by decide)
  have c1 := cutn s 200 (by decide)
  refine evpos m1.1 (evpos m1.2.1 ?_)
  generalize s.extract 0 (mn (s.size : Int) 200).toNat = S at *
  have hS : S.size ≤ 200 := c1
  refine evbind (key_Get.ev S (by omega)) ?_
  by_cases h0 : (kget (S.size + 1) (B S)).2 = 0
  · obtain ⟨k1, k2, k3, k4⟩ := kget_ok (n := S.size + 1) (s := B S) (xs := (kget (S.size + 1) (B S)).1) (by rw [← h0])
    unfold kgetR
    rw [if_pos h0]
    have hm : (kget (S.size + 1) (B S)).1.map (fun p => Cl.s24 p.1) = ((kget (S.size + 1) (B S)).1.map Prod.fst).map Cl.s24 := by rw [List.map_map]; rfl
    rw [hm]
    generalize (kget (S.size + 1) (B S)).1.map Prod.fst = l at *
    have hl := congrArg List.length k3
    rw [kput_len, B_len] at hl
    have hk := kc_s24 l
    refine evpos rfl ?_
    refine evbind (key_Put.ev (l.map Cl.s24) (by rw [hk]; exact k2) ?_ (by rw [hk]; omega) (by rw [List.length_map]; have := kbody_len l; omega)) ?_
    · intro x hx
      obtain ⟨c, hc, rfl⟩ := List.mem_map.1 hx
      have h1 := text_le ((rights_iff l).1 k1 c hc)
      have h2 := kbody_mem hc
      show c.s.length ≤ _
      omega
    rw [hk]
    unfold kputR
    rw [if_pos k1]
    refine evpos rfl (evpos (by rw [B_toList, B_toList, B_mk, k3]) ?_)
    refine evbind (withylaw04_right.ev (l.map Cl.s24) (by rw [List.length_map]; have := kbody_len l; omega)) ?_
    rw [hk]
    exact evpos k1 (evbind withylaw04_fixed.ev (Ev.now _))
  · rw [kgetR_err h0]
    refine evneg (by show ¬ ((_ : Nat) : Int) = 0; omega) (evpos rfl ?_)
    exact evbind withylaw04_fixed.ev (Ev.now _)
end Go.Proofs.YtimnjdgelencpaaDoor.A
