/- withylaw03.ColOnce, of what the print says it computes, answers true. No condition. -/
import Derived.Test.YtimnjdgelencpaaDoorLawAux
import Derived.Test.YtimnjdgelencpaaDoorAWithylaw03ColOnce
namespace Go.Proofs.YtimnjdgelencpaaDoor.A
open Go Go.RowKit Go.Proofs Go.Proofs.YtimnjdgelencpaaDoorW Go.Proofs.YtimnjdgelencpaaDoorW.PrintWords Go.Proofs.YtimnjdgelencpaaDoorW.PrintMore Go.Proofs.YtimnjdgelencpaaDoor.Spec
set_option linter.unusedSimpArgs false
set_option linter.unusedVariables false
theorem cget_err {l : Bytes} (h : (cget l).2.2 ≠ 0) : (cget l).1 = ⟨0, 0, 0, []⟩ := by
  cases l with
  | nil => rfl
  | cons c r =>
    by_cases c16 : c = 16
    · subst c16; exact absurd (by simp [cget]) h
    by_cases c32 : c = 32
    · subst c32; exact absurd (by simp [cget]) h
    by_cases c33 : c = 33
    · subst c33; exact absurd (by simp [cget]) h
    by_cases c48 : c = 48
    · subst c48
      rw [cget_48] at h ⊢
      split at h
      · next h1 => rw [if_pos h1]
      · exact absurd rfl h
    by_cases c64 : c = 64
    · subst c64
      rw [cget_64] at h ⊢
      split at h
      · exact absurd rfl h
      · next h1 => rw [if_neg h1]
    by_cases c80 : c = 80
    · subst c80
      rw [cget_80] at h ⊢
      split at h
      · exact absurd rfl h
      · next h1 => rw [if_neg h1]
    · simp [cget, c16, c32, c33, c48, c64, c80]
theorem withylaw03_ColOnce.ev (s : ByteArray) (a : Int) : Ev (fun n => withylaw03_ColOnce.f n s a) true := by
  unfold withylaw03_ColOnce.f
  have m1 := mn_le (s.size : Int) 100 (by omega) (by decide)
  have c1 := cutn s 100 (by decide)
  refine evpos m1.1 (evpos m1.2.1 ?_)
  generalize s.extract 0 (mn (s.size : Int) 100).toNat = S at *
  have hS : S.size ≤ 100 := c1
  by_cases ho : a < 0 ∨ (S.size : Int) < a
  · refine evbind (col_Get.out S a ho) ?_
    refine evneg (by decide) (evpos (by rw [B_toList]; rfl) (evpos rfl ?_))
    exact evbind withylaw03_fixed.ev (Ev.now _)
  · obtain ⟨j, rfl⟩ := Int.eq_ofNat_of_zero_le (show 0 ≤ a by omega)
    have hj : j ≤ S.size := by omega
    refine evbind (col_Get.ev S (by omega) j hj) ?_
    by_cases h0 : (cget ((B S).drop j)).2.2 = 0
    · obtain ⟨⟨k, i, u, x⟩, n, e0⟩ : ∃ c n, cget ((B S).drop j) = (c, n, 0) := ⟨_, _, by rw [← h0]⟩
      obtain ⟨hr, hw, hp, hn, hl⟩ := cget_ok e0
      rw [List.length_drop, B_len] at hl
      rw [e0]
      have hx : x.length ≤ 100 := by
        have q1 := congrArg List.length hp
        rw [List.length_take, List.length_drop, B_len] at q1
        by_cases h4 : k = 4
        · subst h4
          have : cput ⟨4, i, u, x⟩ = 80 :: (esc x ++ [0, 1]) := cput_4 i u x
          rw [this] at q1
          have := esc_len x
          simp at q1
          omega
        · rcases right_cases hr with e | ⟨e, h1⟩ | e | e | e <;> simp only [Cl.mk.injEq] at e
          · rw [e.2.2.2]; simp
          · rw [e.2.2.2]; simp
          · rw [e.2.2.2]; simp
          · rw [e.2.2.2]; simp
          · exact absurd e.1 h4
      refine evpos rfl ?_
      have hpe := col_Put.ev k i u ⟨x.toArray⟩ hw (by show x.length ≤ 1000000; omega)
      refine evbind hpe ?_
      have hre := col_Right.ev k i u ⟨x.toArray⟩
      unfold putR
      rw [if_pos (show Cl.right ⟨k, i, u, B ⟨x.toArray⟩⟩ = true from hr)]
      refine evpos rfl (evbind hre (evpos hr ?_))
      simp only [cR, if_true]
      refine evpos (by omega) (evpos (by omega) (evpos (by omega) (evpos (by omega) (evpos (by omega) (evpos ?_ ?_)))))
      · rw [B_toList, B_toList, B_extract]
        show cput ⟨k, i, u, x⟩ = _
        rw [hp, show ((j : Int)).toNat = j from rfl, show (((j + n : Nat) : Int)).toNat - j = n by omega]
      · exact evbind withylaw03_fixed.ev (Ev.now _)
    · have he := cget_err h0
      unfold cR
      rw [he, if_neg h0]
      refine evneg (by show ¬ (((cget ((B S).drop j)).2.2 : Nat) : Int) = 0; omega) (evpos (by rw [B_toList]; rfl) (evpos rfl ?_))
      exact evbind withylaw03_fixed.ev (Ev.now _)
end Go.Proofs.YtimnjdgelencpaaDoor.A
