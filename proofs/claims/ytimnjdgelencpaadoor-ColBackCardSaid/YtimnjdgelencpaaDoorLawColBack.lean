/- withylaw03.ColBack, of what the print says it computes, answers true. Condition: whole numbers in their kinds' ranges. -/
import Derived.Test.YtimnjdgelencpaaDoorLawAux
import Derived.Test.YtimnjdgelencpaaDoorAWithylaw03ColBack
namespace Go.Proofs.YtimnjdgelencpaaDoor.A
open Go Go.RowKit Go.Proofs Go.Proofs.YtimnjdgelencpaaDoorW Go.Proofs.YtimnjdgelencpaaDoorW.PrintWords Go.Proofs.YtimnjdgelencpaaDoorW.PrintMore Go.Proofs.YtimnjdgelencpaaDoor.Spec
set_option linter.unusedSimpArgs false
set_option linter.unusedVariables false
theorem withylaw03_ColBack.ev (k i u : Int) (s p q : ByteArray) (a : Int) (hi : -9223372036854775808 ≤ i ∧ i ≤ 9223372036854775807) (hu : 0 ≤ u ∧ u ≤ 18446744073709551615) (ha : 0 ≤ a ∧ a ≤ 255) :
    Ev (fun n => withylaw03_ColBack.f n k i u s p q a) true := by
  unfold withylaw03_ColBack.f
  rw [cut_eq]
  refine evsome ?_
  have h60 := s60_size s
  have wa : Cl.wf ⟨k, i, u, B (s60 s)⟩ := ⟨hi.1, hi.2, hu.1, hu.2⟩
  have m1 := mn_le (p.size : Int) 20 (by omega) (by decide)
  have m2 := mn_le (q.size : Int) 20 (by omega) (by decide)
  have c1 := cutn p 20 (by decide)
  have c2 := cutn q 20 (by decide)
  refine evpos m1.1 (evpos m1.2.1 (evpos m2.1 (evpos m2.2.1 ?_)))
  generalize p.extract 0 (mn (p.size : Int) 20).toNat = P at *
  generalize q.extract 0 (mn (q.size : Int) 20).toNat = Q at *
  refine evbind (col_Put.ev k i u (s60 s) wa (by omega)) ?_
  unfold putR
  by_cases ra : Cl.right ⟨k, i, u, B (s60 s)⟩ = true
  · rw [if_pos ra]
    refine evpos rfl ?_
    refine Ev.step (fun n => withylaw03_ColBack.j0.eq_2 ..) ?_
    have la := cput_len ⟨k, i, u, B (s60 s)⟩
    have lp := cput_pos ⟨k, i, u, B (s60 s)⟩
    have gp := cget_put ra wa (B Q)
    have gs := cget_short ra wa
    simp only [B_len] at la
    generalize hS : cput ⟨k, i, u, B (s60 s)⟩ = S at *
    have zS : (⟨S.toArray⟩ : ByteArray).size = S.length := rfl
    have zA : ∀ x y : ByteArray, (x ++ y).size = x.size + y.size := fun _ _ => ByteArray.size_append
    have hP : P.size ≤ 20 := c1
    have hQ : Q.size ≤ 20 := c2
    refine evneg (by simp [zS]; intro e; rw [e] at lp; simp at lp) ?_
    refine evpos (by rw [zS]; omega) (evpos (by rw [zA, zS]; omega) ?_)
    have dr : ∀ y : ByteArray, (B (P ++ y)).drop P.size = B y := fun y => by rw [B_append]; exact List.drop_left' (B_len P)
    refine evbind (col_Get.ev (P ++ ⟨S.toArray⟩ ++ Q) (by rw [zA, zA, zS]; omega) P.size (by rw [zA, zA]; omega)) ?_
    have d1 : (B (P ++ ⟨S.toArray⟩ ++ Q)).drop P.size = S ++ B Q := by
      rw [B_append, B_append, List.append_assoc]; exact List.drop_left' (B_len P)
    rw [d1, gp]
    refine evneg (by rw [zS]; omega) ?_
    have wr : wrap64 a = a := w64 (by omega)
    have tm0 : 0 ≤ Int.tmod (wrap64 a) ((⟨S.toArray⟩ : ByteArray).size : Int) := by rw [wr]; exact Int.tmod_nonneg _ ha.1
    have tm1 : Int.tmod (wrap64 a) ((⟨S.toArray⟩ : ByteArray).size : Int) < ((⟨S.toArray⟩ : ByteArray).size : Int) := by rw [wr, zS]; exact Int.tmod_lt_of_pos _ (by omega)
    obtain ⟨j, hj⟩ := Int.eq_ofNat_of_zero_le tm0
    rw [hj] at tm0 tm1 ⊢
    have jl : j < S.length := by rw [zS] at tm1; omega
    have ez : ((⟨S.toArray⟩ : ByteArray).extract 0 ((j : Int)).toNat).size = j := ext_size _ _ (by rw [zS]; omega)
    refine evpos tm0 (evpos (Int.le_of_lt tm1) (evpos (by rw [ez]; omega) ?_))
    refine evbind (col_Get.ev (P ++ (⟨S.toArray⟩ : ByteArray).extract 0 ((j : Int)).toNat) (by rw [zA, ez]; omega) P.size (by rw [zA]; omega)) ?_
    rw [dr, B_take, B_mk]
    have g7 := gs j jl
    refine evpos ?_ ?_
    · show (k == k && (i == i && (u == u && (((⟨(B (s60 s)).toArray⟩ : ByteArray)).toList == (s60 s).toList)))) = true
      rw [mk_B]; simp
    refine evpos ?_ (evpos rfl (evpos ?_ ?_))
    · show ((P.size + S.length : Nat) : Int) = wrap64 ((P.size : Int) + ((⟨S.toArray⟩ : ByteArray).size : Int))
      rw [zS]
      clear hj tm0 tm1
      rw [w64 (by omega)]; omega
    · show (((cget (List.take j S)).2.2 : Nat) : Int) = 7
      rw [g7]; rfl
    · exact evbind withylaw03_fixed.ev (Ev.now _)
  · rw [if_neg ra]
    refine evneg (by show ¬ (3 : Int) = 0; decide) ?_
    refine Ev.step (fun n => withylaw03_ColBack.j0.eq_2 ..) ?_
    refine evpos rfl (evpos rfl (evpos (by rw [B_toList]) ?_))
    refine evbind (col_Right.ev _ _ _ _) (evneg ra ?_)
    exact evbind withylaw03_fixed.ev (Ev.now _)
end Go.Proofs.YtimnjdgelencpaaDoor.A
