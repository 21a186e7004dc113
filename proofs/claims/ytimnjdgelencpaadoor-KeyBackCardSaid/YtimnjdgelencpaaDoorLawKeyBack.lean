/- withylaw04.KeyBack, of what the print says it computes, answers true. Condition: the columns are data (whole numbers in their kinds' ranges). -/
import Derived.Test.YtimnjdgelencpaaDoorKAux
import Derived.Test.YtimnjdgelencpaaDoorAWithylaw04KeyBack
namespace Go.Proofs.YtimnjdgelencpaaDoor.A
open Go Go.RowKit Go.Proofs Go.Proofs.YtimnjdgelencpaaDoorW Go.Proofs.YtimnjdgelencpaaDoorW.PrintWords Go.Proofs.YtimnjdgelencpaaDoorW.PrintMore Go.Proofs.YtimnjdgelencpaaDoor.Spec
set_option linter.unusedSimpArgs false
set_option linter.unusedVariables false
theorem withylaw04_KeyBack.ev (l : List S24) (hd : data24 l) (a : Int) (c : Int) (ha : 0 ≤ a ∧ a ≤ 255) (hc : 0 ≤ c ∧ c ≤ 255) : Ev (fun n => withylaw04_KeyBack.f n l a c) true := by
  unfold withylaw04_KeyBack.f
  refine evbind (withylaw04_Cut.ev l) (evbind (cut_put l hd) ?_)
  have hw := cutL_wfs hd
  have hb := cutL_body l
  have h8 := cutL_len l
  generalize cutL l = L at *
  unfold kputR
  by_cases hr : rights (kc L) = true
  · rw [if_pos hr]
    have hkl := kput_len (kc L)
    have hg : ∀ n, L.length < n → kgetR (kget n (kput (kc L))) = (L, 0) := fun n hn => kgetR_put hr hw hn
    have hs := fun n => kget_short (n := n) hr hw
    have hm := fun n hn => kget_more (n := n) hr hw (by rw [kc_length]; exact hn)
    have hKL : L.length ≤ (kput (kc L)).length := by have := kbody_len (kc L); rw [kc_length] at this; omega
    generalize hK : kput (kc L) = K at *
    have zK : (⟨K.toArray⟩ : ByteArray).size = K.length := rfl
    refine evpos rfl ?_
    refine Ev.step (fun n => withylaw04_KeyBack.j0.eq_2 ..) ?_
    refine evneg (by rw [zK]; simp; intro e; rw [e] at hkl; simp at hkl) ?_
    refine evbind (key_Get.ev ⟨K.toArray⟩ (by rw [zK]; omega)) ?_
    rw [B_mk, hg _ (by rw [zK]; omega)]
    refine evneg (by rw [zK]; omega) ?_
    have wr : wrap64 a = a := w64 (by omega)
    have tm0 : 0 ≤ Int.tmod (wrap64 a) ((⟨K.toArray⟩ : ByteArray).size : Int) := by rw [wr]; exact Int.tmod_nonneg _ ha.1
    have tm1 : Int.tmod (wrap64 a) ((⟨K.toArray⟩ : ByteArray).size : Int) < ((⟨K.toArray⟩ : ByteArray).size : Int) := by rw [wr, zK]; exact Int.tmod_lt_of_pos _ (by omega)
    obtain ⟨j, hj⟩ := Int.eq_ofNat_of_zero_le tm0
    rw [hj] at tm0 tm1 ⊢
    have jl : j < K.length := by rw [zK] at tm1; omega
    have ez : ((⟨K.toArray⟩ : ByteArray).extract 0 ((j : Int)).toNat).size = j := ext_size _ _ (by rw [zK]; omega)
    refine evpos tm0 (evpos (Int.le_of_lt tm1) ?_)
    refine evbind (key_Get.ev ((⟨K.toArray⟩ : ByteArray).extract 0 ((j : Int)).toNat) (by rw [ez]; omega)) ?_
    have hs7 : (kget (((⟨K.toArray⟩ : ByteArray).extract 0 ((j : Int)).toNat).size + 1) (B ((⟨K.toArray⟩ : ByteArray).extract 0 ((j : Int)).toNat))).2 = 7 := by
      rw [B_take, B_mk]; exact hs _ j jl
    rw [kgetR_err (by rw [hs7]; decide), hs7]
    refine evsome ?_
    have e1 : (strOfNums [c]) = ⟨[UInt8.ofNat c.toNat].toArray⟩ := rfl
    have e2 : (⟨K.toArray⟩ : ByteArray) ++ strOfNums [c] = ⟨(K ++ [UInt8.ofNat c.toNat]).toArray⟩ := by rw [e1, str_cat]
    have e3 : (strOfNums [c]).size = 1 := rfl
    refine evpos (by rw [zK, e3]; omega) ?_
    rw [e2]
    have z2 : (⟨(K ++ [UInt8.ofNat c.toNat]).toArray⟩ : ByteArray).size = K.length + 1 := by show (K ++ _).length = _; simp
    refine evbind (key_Get.ev _ (by rw [z2]; omega)) ?_
    have h3 : (kget ((⟨(K ++ [UInt8.ofNat c.toNat]).toArray⟩ : ByteArray).size + 1) (B (⟨(K ++ [UInt8.ofNat c.toNat]).toArray⟩ : ByteArray))).2 = 3 := by
      rw [B_mk]; exact hm _ (by rw [z2]; omega) _
    rw [kgetR_err (by rw [h3]; decide), h3]
    refine evbind (withylaw04_Ref.ev L (by omega)) (evbind (withylaw04_Ref.ev L (by omega)) ?_)
    obtain ⟨r, r1, r2⟩ := same_ev L L (by omega)
    refine evbind r1 (evpos (r2.2 rfl) (evpos rfl (evpos rfl (evpos rfl ?_))))
    exact evbind withylaw04_fixed.ev (Ev.now _)
  · rw [if_neg hr]
    refine evneg (by show ¬ (3 : Int) = 0; decide) ?_
    refine Ev.step (fun n => withylaw04_KeyBack.j0.eq_2 ..) ?_
    refine evpos rfl (evpos rfl (evpos (by rw [B_toList]) ?_))
    refine evbind (withylaw04_right.ev L (by omega)) (evneg hr ?_)
    exact evbind withylaw04_fixed.ev (Ev.now _)
end Go.Proofs.YtimnjdgelencpaaDoor.A
