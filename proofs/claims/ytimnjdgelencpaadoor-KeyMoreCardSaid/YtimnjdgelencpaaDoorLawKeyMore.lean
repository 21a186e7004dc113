/- withylaw04.KeyMore, of what the print says it computes, answers true. Condition: the columns are data (whole numbers in their kinds' ranges). -/
import Derived.Test.YtimnjdgelencpaaDoorKAux
import Derived.Test.YtimnjdgelencpaaDoorAWithylaw04KeyMore
namespace Go.Proofs.YtimnjdgelencpaaDoor.A
open Go Go.RowKit Go.Proofs Go.Proofs.YtimnjdgelencpaaDoorW Go.Proofs.YtimnjdgelencpaaDoorW.PrintWords Go.Proofs.YtimnjdgelencpaaDoorW.PrintMore Go.Proofs.YtimnjdgelencpaaDoor.Spec
set_option linter.unusedSimpArgs false
set_option linter.unusedVariables false
theorem rights_append (a b : List Cl) : rights (a ++ b) = (rights a && rights b) := by simp [rights]
theorem more_less {l o : List Cl} {c : Cl} (hl : rights l = true) (ho : rights o = true) (wl : wfs l) (wo : wfs o) (h : o.take l.length ≠ l) :
    (Op.bytesLess (kput l) (kput o) == Op.bytesLess (kput (l ++ [c])) (kput o)) = true := by
  have e : kput (l ++ [c]) = kbody l ++ (kbody [c] ++ [1]) := by rw [kput, kbody_append, List.append_assoc]
  rw [e]
  rcases key_apart hl ho wl wo h with d | d
  · have d1 := d.app [] [1]
    have d2 := d.app [] (kbody [c] ++ [1])
    rw [List.append_nil] at d1 d2
    rw [show kput l = kbody l ++ [1] from rfl, d1.not_less, d2.not_less]; rfl
  · have d1 := d.app [1] []
    have d2 := d.app (kbody [c] ++ [1]) []
    rw [List.append_nil] at d1 d2
    rw [show kput l = kbody l ++ [1] from rfl, d1.less, d2.less]; rfl
theorem withylaw04_KeyMore.ev (l o : List S24) (k i u : Int) (s : ByteArray) (hl : data24 l) (ho : data24 o) (hi : -9223372036854775808 ≤ i ∧ i ≤ 9223372036854775807) (hu : 0 ≤ u ∧ u ≤ 18446744073709551615) :
    Ev (fun n => withylaw04_KeyMore.f n l o k i u s) true := by
  unfold withylaw04_KeyMore.f
  have pl := cut_put l hl
  have po := cut_put o ho
  have wl := cutL_wfs hl
  have wo := cutL_wfs ho
  have h8 := cutL_len l
  have o8 := cutL_len o
  have tl := cutL_60 l
  have hc : cutL [(⟨k, i, u, s⟩ : S24)] = [c60 ⟨k, i, u, s⟩] := rfl
  have wc : Cl.wf (c60 ⟨k, i, u, s⟩).cl := ⟨hi.1, hi.2, hu.1, hu.2⟩
  have sc := s60_size s
  have hsc : (c60 ⟨k, i, u, s⟩).f3.size ≤ 60 := sc
  refine evbind (withylaw04_Cut.ev l) (evbind (withylaw04_Cut.ev o) (evsome (evpos (by show 0 + _ < _; omega) (evsome ?_))))
  rw [List.nil_append]
  refine evbind (withylaw04_Cut.ev _) ?_
  rw [hc]
  generalize cutL l = L at *
  generalize cutL o = O at *
  generalize c60 ⟨k, i, u, s⟩ = C at *
  refine evpos (by show _ + 1 < _; omega) (evsome ?_)
  have wM : wfs (kc (L ++ [C])) := by
    intro c hc2
    rw [kc, List.map_append, List.mem_append] at hc2
    rcases hc2 with h | h
    · exact wl c h
    · obtain rfl := List.mem_singleton.1 h; exact wc
  have tM : ∀ x ∈ L ++ [C], x.f3.size ≤ 60 := by
    intro x hx
    rcases List.mem_append.1 hx with h | h
    · exact tl x h
    · obtain rfl := List.mem_singleton.1 h; exact hsc
  have lM : (L ++ [C]).length = L.length + 1 := by simp
  have bM := body_size (L ++ [C]) tM
  have pM : Ev (fun n => key_Put.f n (L ++ [C])) (kputR (kc (L ++ [C]))) := key_Put.ev _ wM (fun x hx => by have := tM x hx; omega) (by omega) (by omega)
  refine evbind pl (evbind pM (evbind po ?_))
  have hkM : kc (L ++ [C]) = kc L ++ [C.cl] := by simp [kc]
  have hrM : rights (kc (L ++ [C])) = (rights (kc L) && C.cl.right) := by rw [hkM, rights_append]; simp [rights]
  have hfail : ¬ (rights (kc (L ++ [C])) = true ∧ rights (kc O) = true) → ∀ x8 x10 x12 : ByteArray, Ev (fun n => withylaw04_KeyMore.j0 n L O (L ++ [C]) x8 x10 x12 true) true := by
    intro hf x8 x10 x12
    refine Ev.step (fun n => withylaw04_KeyMore.j0.eq_2 ..) (evpos rfl ?_)
    refine evbind (withylaw04_right.ev (L ++ [C]) (by omega)) ?_
    by_cases h1 : rights (kc (L ++ [C])) = true
    · refine evpos h1 (evbind (withylaw04_right.ev O (by omega)) ?_)
      have h2 : ¬ rights (kc O) = true := fun h2 => hf ⟨h1, h2⟩
      exact evneg h2 (evbind withylaw04_fixed.ev (Ev.now _))
    · exact evneg h1 (evbind withylaw04_fixed.ev (Ev.now _))
  by_cases r1 : rights (kc L) = true
  · have eL : kputR (kc L) = (⟨(kput (kc L)).toArray⟩, 0) := by unfold kputR; rw [if_pos r1]
    rw [eL]
    refine evpos rfl ?_
    by_cases r2 : rights (kc (L ++ [C])) = true
    · have eM : kputR (kc (L ++ [C])) = (⟨(kput (kc (L ++ [C]))).toArray⟩, 0) := by unfold kputR; rw [if_pos r2]
      rw [eM]
      refine evpos rfl ?_
      by_cases r3 : rights (kc O) = true
      · have eO : kputR (kc O) = (⟨(kput (kc O)).toArray⟩, 0) := by unfold kputR; rw [if_pos r3]
        rw [eO]
        refine Ev.step (fun n => withylaw04_KeyMore.j0.eq_2 ..) (evneg (by show ¬ ((0 : Int) != 0) = true; decide) ?_)
        have hcr : C.cl.right = true := by rw [hrM, Bool.and_eq_true] at r2; exact r2.2
        have hless : Op.bytesLess (⟨(kput (kc L)).toArray⟩ : ByteArray).toList (⟨(kput (kc (L ++ [C]))).toArray⟩ : ByteArray).toList = true := by
          rw [B_toList, B_toList, B_mk, B_mk, hkM]; exact (key_more hcr wc).less
        have hcmp := key_Compare.ev L (L ++ [C]) (by omega) (by omega)
        rw [hkM, kcmp_more (kc L) C.cl ccmp_self] at hcmp
        have hapart : O.take L.length ≠ L → (Op.bytesLess (⟨(kput (kc L)).toArray⟩ : ByteArray).toList (⟨(kput (kc O)).toArray⟩ : ByteArray).toList == Op.bytesLess (⟨(kput (kc (L ++ [C]))).toArray⟩ : ByteArray).toList (⟨(kput (kc O)).toArray⟩ : ByteArray).toList) = true := by
          intro h
          rw [B_toList, B_toList, B_toList, B_mk, B_mk, B_mk, hkM]
          refine more_less r1 r3 wl wo (fun e => h (kc_inj ?_))
          rw [kc_take, ← e, kc_length]
        by_cases hlen : (O.length : Int) ≥ (L.length : Int)
        · have hmn : mn (L.length : Int) (O.length : Int) = (L.length : Int) := by unfold mn; split <;> omega
          refine evpos hlen ?_
          rw [hmn]
          refine evpos (by omega) (evpos (by omega) ?_)
          rw [show ((L.length : Int)).toNat = L.length from rfl]
          refine evbind (withylaw04_Ref.ev _ (by rw [List.length_take]; omega)) (evbind (withylaw04_Ref.ev _ (by omega)) ?_)
          obtain ⟨r, q1, q2⟩ := same_ev (O.take L.length) L (by rw [List.length_take]; omega)
          refine evbind q1 (evpos hless (evbind hcmp (evpos rfl ?_)))
          by_cases hq : r = true
          · exact evpos hq (evbind withylaw04_fixed.ev (Ev.now _))
          · exact evneg hq (evpos (hapart fun e => hq (q2.2 e)) (evbind withylaw04_fixed.ev (Ev.now _)))
        · refine evneg hlen (evpos hless (evbind hcmp (evpos rfl (evpos (hapart fun e => ?_) (evbind withylaw04_fixed.ev (Ev.now _))))))
          have := congrArg List.length e
          rw [List.length_take] at this
          omega
      · have eO : kputR (kc O) = (⟨#[]⟩, 3) := by unfold kputR; rw [if_neg r3]
        rw [eO]
        exact hfail (fun h => r3 h.2) _ _ _
    · have eM : kputR (kc (L ++ [C])) = (⟨#[]⟩, 3) := by unfold kputR; rw [if_neg r2]
      rw [eM]
      exact evneg (by show ¬ (3 : Int) = 0; decide) (hfail (fun h => r2 h.1) _ _ _)
  · have eL : kputR (kc L) = (⟨#[]⟩, 3) := by unfold kputR; rw [if_neg r1]
    rw [eL]
    exact evneg (by show ¬ (3 : Int) = 0; decide) (hfail (fun h => by rw [hrM, Bool.and_eq_true] at h; exact r1 h.1.1) _ _ _)
end Go.Proofs.YtimnjdgelencpaaDoor.A
