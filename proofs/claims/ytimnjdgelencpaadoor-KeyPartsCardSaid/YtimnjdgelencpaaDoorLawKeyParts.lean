/- withylaw04.KeyParts, of what the print says it computes, answers true. Condition: the columns are data (whole numbers in their kinds' ranges). -/
import Derived.Test.YtimnjdgelencpaaDoorKAux
import Derived.Test.YtimnjdgelencpaaDoorAWithylaw04KeyParts
namespace Go.Proofs.YtimnjdgelencpaaDoor.A
open Go Go.RowKit Go.Proofs Go.Proofs.YtimnjdgelencpaaDoorW Go.Proofs.YtimnjdgelencpaaDoorW.PrintWords Go.Proofs.YtimnjdgelencpaaDoorW.PrintMore Go.Proofs.YtimnjdgelencpaaDoor.Spec
set_option linter.unusedSimpArgs false
set_option linter.unusedVariables false
theorem withylaw04_KeyParts.j3_ev (L : List S24) (i : Nat) (hi : i ≤ L.length) (h8 : L.length ≤ 8) (x y : Bool) (h : x = y) : Ev (fun n => withylaw04_KeyParts.j3 n L (i : Int) (L.take i) 0 x y) true := by
  refine Ev.step (fun n => withylaw04_KeyParts.j3.eq_2 ..) (evpos rfl ?_)
  refine evbind (withylaw04_Ref.ev _ (by rw [List.length_take]; omega)) (evpos (by omega) (evpos (by omega) ?_))
  rw [show ((i : Int)).toNat = i from rfl]
  refine evbind (withylaw04_Ref.ev _ (by rw [List.length_take]; omega)) ?_
  obtain ⟨r, q1, q2⟩ := same_ev (L.take i) (L.take i) (by rw [List.length_take]; omega)
  refine evbind q1 (evpos (q2.2 rfl) (evpos (by rw [h]; simp) ?_))
  exact evbind withylaw04_fixed.ev (Ev.now _)
theorem withylaw04_KeyParts.j2_ev (L : List S24) (i : Nat) (hi : i ≤ L.length) (h8 : L.length ≤ 8) (p t : Bytes) (x : Bool) (h : x = (t.take p.length == p)) : Ev (fun n => withylaw04_KeyParts.j2 n L (⟨t.toArray⟩ : ByteArray) (i : Int) (⟨p.toArray⟩ : ByteArray) (L.take i) 0 x) true := by
  have zp : (⟨p.toArray⟩ : ByteArray).size = p.length := rfl
  have zt : (⟨t.toArray⟩ : ByteArray).size = t.length := rfl
  refine Ev.step (fun n => withylaw04_KeyParts.j2.eq_2 ..) ?_
  by_cases hl : (((⟨t.toArray⟩ : ByteArray).size : Int)) ≥ ((⟨p.toArray⟩ : ByteArray).size : Int)
  · refine evpos hl (evpos (by omega) (evpos (by omega) (withylaw04_KeyParts.j3_ev L i hi h8 _ _ ?_)))
    rw [h, B_toList, B_toList, B_take, B_mk, B_mk]; rfl
  · refine evneg hl (withylaw04_KeyParts.j3_ev L i hi h8 _ _ ?_)
    rw [zp, zt] at hl
    rw [h]
    refine beq_eq_false_iff_ne.2 fun e => ?_
    have := congrArg List.length e
    rw [List.length_take] at this
    omega
theorem withylaw04_KeyParts.ev (l o : List S24) (a : Int) (hl : data24 l) (ho : data24 o) (ha : 0 ≤ a ∧ a ≤ 255) : Ev (fun n => withylaw04_KeyParts.f n l o a) true := by
  unfold withylaw04_KeyParts.f
  have pl := cut_put l hl
  have po := cut_put o ho
  have wl := cutL_wfs hl
  have wo := cutL_wfs ho
  have h8 := cutL_len l
  have o8 := cutL_len o
  have bl := cutL_body l
  refine evbind (withylaw04_Cut.ev l) (evbind (withylaw04_Cut.ev o) (evbind pl (evbind po ?_)))
  generalize cutL l = L at *
  generalize cutL o = O at *
  have hfail : ∀ x7 x9 : ByteArray, Ev (fun n => withylaw04_KeyParts.j0 n L O a x7 x9 true) true := fun x7 x9 => Ev.step (fun n => withylaw04_KeyParts.j0.eq_2 ..) (evpos rfl (evbind withylaw04_fixed.ev (Ev.now _)))
  by_cases r1 : rights (kc L) = true
  · have eL : kputR (kc L) = (⟨(kput (kc L)).toArray⟩, 0) := by unfold kputR; rw [if_pos r1]
    rw [eL]
    refine evpos rfl ?_
    by_cases r3 : rights (kc O) = true
    · have eO : kputR (kc O) = (⟨(kput (kc O)).toArray⟩, 0) := by unfold kputR; rw [if_pos r3]
      rw [eO]
      refine Ev.step (fun n => withylaw04_KeyParts.j0.eq_2 ..) (evneg (by show ¬ ((0 : Int) != 0) = true; decide) ?_)
      have w1 : wrap64 ((L.length : Int) + 1) = ((L.length + 1 : Nat) : Int) := by rw [w64 (by omega)]; omega
      have w2 : wrap64 a = a := w64 (by omega)
      rw [w1, w2]
      refine evneg (by omega) ?_
      have tm0 : 0 ≤ Int.tmod a ((L.length + 1 : Nat) : Int) := Int.tmod_nonneg _ ha.1
      have tm1 : Int.tmod a ((L.length + 1 : Nat) : Int) < ((L.length + 1 : Nat) : Int) := Int.tmod_lt_of_pos _ (by omega)
      obtain ⟨i, hi⟩ := Int.eq_ofNat_of_zero_le tm0
      rw [hi] at tm0 tm1 ⊢
      have hiL : i ≤ L.length := by omega
      have hk : kget ((⟨(kput (kc L)).toArray⟩ : ByteArray).size + 1) (B (⟨(kput (kc L)).toArray⟩ : ByteArray)) = ((kc L).map fun c => (c, (cput c).length), 0) := by
        rw [B_mk]
        refine kget_put r1 wl ?_
        show (kc L).length < (kput (kc L)).length + 1
        have := kbody_len (kc L)
        rw [kput_len]; omega
      have hkl := kput_len (kc L)
      have hP := key_Part.ev (⟨(kput (kc L)).toArray⟩ : ByteArray) (by show (kput (kc L)).length ≤ _; omega) (kc L) (by rw [hk]) (by rw [hk, List.map_map]; exact (List.map_id _).symm) i (by rw [kc_length]; exact hiL)
      have hbt := kbody_take (kc L) i
      have hbeg := kput_take (kc L) i (by rw [kc_length]; exact hiL)
      rw [← kc_take] at hP hbt hbeg
      have rt : rights (kc (L.take i)) = true := by rw [kc_take]; exact rights_take r1 i
      have wt : wfs (kc (L.take i)) := by rw [kc_take]; exact wfs_take wl i
      have lt : (L.take i).length = i := by rw [List.length_take]; omega
      refine evbind hP (evpos rfl ?_)
      have zP : (⟨(kbody (kc (L.take i))).toArray⟩ : ByteArray).size = (kbody (kc (L.take i))).length := rfl
      have zS : (⟨(kput (kc L)).toArray⟩ : ByteArray).size = (kput (kc L)).length := rfl
      refine evneg (by rw [zP, zS]; omega) (evpos (by omega) (evpos (by rw [zP, zS]; omega) ?_))
      have hnb : ((⟨(kput (kc L)).toArray⟩ : ByteArray).extract 0 ((((⟨(kbody (kc (L.take i))).toArray⟩ : ByteArray).size : Int)) : Int).toNat).toList = (⟨(kbody (kc (L.take i))).toArray⟩ : ByteArray).toList := by
        rw [B_toList, B_toList, B_take, B_mk, B_mk]; exact hbeg
      show Ev (fun n => withylaw04_KeyParts.j1 n L O (⟨(kput (kc O)).toArray⟩ : ByteArray) (i : Int) (⟨(kbody (kc (L.take i))).toArray⟩ : ByteArray) (((⟨(kput (kc L)).toArray⟩ : ByteArray).extract 0 ((((⟨(kbody (kc (L.take i))).toArray⟩ : ByteArray).size : Int)) : Int).toNat).toList != (⟨(kbody (kc (L.take i))).toArray⟩ : ByteArray).toList)) true
      rw [hnb, bne_self_eq_false]
      refine Ev.step (fun n => withylaw04_KeyParts.j1.eq_2 ..) (evneg (by decide) (evpos (by rw [zP]; omega) ?_))
      have e2 : (⟨(kbody (kc (L.take i))).toArray⟩ : ByteArray) ++ (⟨#[1]⟩ : ByteArray) = ⟨(kput (kc (L.take i))).toArray⟩ := by
        rw [show (⟨#[1]⟩ : ByteArray) = ⟨[1].toArray⟩ from rfl, str_cat]; rfl
      rw [e2]
      have hkt := kput_len (kc (L.take i))
      have zT : (⟨(kput (kc (L.take i))).toArray⟩ : ByteArray).size = (kput (kc (L.take i))).length := rfl
      refine evbind (key_Get.ev _ (by rw [zT]; omega)) ?_
      have hlt2 : (L.take i).length < (⟨(kput (kc (L.take i))).toArray⟩ : ByteArray).size + 1 := by
        have := kbody_len (kc (L.take i))
        rw [kc_length] at this
        rw [zT]; omega
      rw [B_mk, kgetR_put rt wt hlt2]
      have hkey := key_begin rt r3 wt wo
      rw [kc_length, lt] at hkey
      by_cases hlen : (O.length : Int) ≥ (i : Int)
      · have hmn : mn (i : Int) (O.length : Int) = (i : Int) := by unfold mn; split <;> omega
        refine evpos hlen ?_
        rw [hmn]
        refine evpos (by omega) (evpos (by omega) ?_)
        rw [show ((i : Int)).toNat = i from rfl]
        refine evbind (withylaw04_Ref.ev _ (by rw [List.length_take]; omega)) (evpos (by omega) (evpos (by omega) ?_))
        refine evbind (withylaw04_Ref.ev _ (by rw [List.length_take]; omega)) ?_
        obtain ⟨r, q1, q2⟩ := same_ev (O.take i) (L.take i) (by rw [List.length_take]; omega)
        refine evbind q1 (withylaw04_KeyParts.j2_ev L i hiL h8 _ _ _ ?_)
        rw [Bool.eq_iff_iff, beq_iff_eq, hkey, q2, ← kc_take]
        exact ⟨fun e => by rw [e], kc_inj⟩
      · refine evneg hlen (withylaw04_KeyParts.j2_ev L i hiL h8 _ _ _ ?_)
        refine (beq_eq_false_iff_ne.2 fun e => ?_).symm
        have e3 := congrArg List.length (hkey.1 e)
        rw [List.length_take, kc_length, kc_length, lt] at e3
        omega
    · have eO : kputR (kc O) = (⟨#[]⟩, 3) := by unfold kputR; rw [if_neg r3]
      rw [eO]
      exact hfail _ _
  · have eL : kputR (kc L) = (⟨#[]⟩, 3) := by unfold kputR; rw [if_neg r1]
    rw [eL]
    exact evneg (by show ¬ (3 : Int) = 0; decide) (hfail _ _)
end Go.Proofs.YtimnjdgelencpaaDoor.A
