/- withylaw03.ColSizes, of what the print says it computes, answers true. Condition: whole numbers in their kinds' ranges. -/
import Derived.Test.YtimnjdgelencpaaDoorLawAux
import Derived.Test.YtimnjdgelencpaaDoorAWithylaw03ColSizes
namespace Go.Proofs.YtimnjdgelencpaaDoor.A
open Go Go.RowKit Go.Proofs Go.Proofs.YtimnjdgelencpaaDoorW Go.Proofs.YtimnjdgelencpaaDoorW.PrintWords Go.Proofs.YtimnjdgelencpaaDoorW.PrintMore Go.Proofs.YtimnjdgelencpaaDoor.Spec
set_option linter.unusedSimpArgs false
set_option linter.unusedVariables false
theorem colSizes_first (c : Cl) (hr : c.right = true) (hw : c.wf) : wrap64 (Int.tdiv (wrap64 (bt ⟨(cput c).toArray⟩ 0)) 16) = wrap64 (c.k + 1) := by
  obtain ⟨x, r, e, h1, h2⟩ := first_byte hr hw
  have hx := x.toNat_lt
  have hb : bt ⟨(cput c).toArray⟩ 0 = (x.toNat : Int) := by
    obtain ⟨c2, r2, g1, g2, g3, g4⟩ := dn (s := ⟨(cput c).toArray⟩) (i := 0) (by show 0 < (cput c).length; rw [e]; simp)
    rw [B_mk, e] at g1
    simp at g1
    rw [show (0 : Int) = ((0 : Nat) : Int) from rfl, g2, g1.1]
  rw [hb, w64 (n := (x.toNat : Int)) (by omega), Int.tdiv_eq_ediv_of_nonneg (by omega), show (x.toNat : Int) / 16 = c.k + 1 by omega]
theorem withylaw03_ColSizes.l0_ev (x3 : ByteArray) (k i u : Int) (s : ByteArray) (hk : k = 4) (hs : s.size ≤ 60) (h3 : x3.size = 3 + s.size + (B s).count 0) (hf : wrap64 (Int.tdiv (wrap64 (bt x3 0)) 16) = wrap64 (k + 1)) :
    ∀ d j, j + d = s.size → Ev (fun n => withylaw03_ColSizes.l0 n x3 ((3 + s.size + ((B s).take j).count 0 : Nat) : Int) (j : Int) k i u s) true
  | 0, j, hj => by
    refine Ev.step (fun n => withylaw03_ColSizes.l0.eq_2 ..) ?_
    refine evneg (by omega) (evneg (by omega) ?_)
    rw [List.take_of_length_le (by rw [B_len]; omega)]
    refine evpos (by omega) (evpos (by omega) (evpos hf ?_))
    exact evbind withylaw03_fixed.ev (Ev.now _)
  | d + 1, j, hj => by
    obtain ⟨c, r, g1, g2, g3, g4⟩ := dn (s := s) (i := j) (by omega)
    have ht := take_of_drop g1
    have hc := List.count_le_length (a := (0 : UInt8)) (l := (B s).take j)
    rw [List.length_take] at hc
    have hcl : ((B s).take j).count 0 ≤ 60 := by omega
    refine Ev.step (fun n => withylaw03_ColSizes.l0.eq_2 ..) ?_
    refine evpos (by omega) (evpos (by omega) ?_)
    rw [g2]
    have ih := withylaw03_ColSizes.l0_ev x3 k i u s hk hs h3 hf d (j + 1) (by omega)
    rw [ht, List.count_append] at ih
    by_cases h0 : c = 0
    · subst h0
      refine evpos rfl ?_
      rw [w64 (by omega), w64 (by omega)]
      exact ih
    · have h0' : ¬ (c.toNat : Int) = 0 := fun e => h0 (UInt8.toNat_inj.mp (by show c.toNat = 0; omega))
      refine evneg h0' ?_
      rw [w64 (by omega)]
      rw [show List.count 0 [c] = 0 from by simp [List.count_cons, h0]] at ih
      exact ih
theorem withylaw03_ColSizes.ev (k i u : Int) (s : ByteArray) (hi : -9223372036854775808 ≤ i ∧ i ≤ 9223372036854775807) (hu : 0 ≤ u ∧ u ≤ 18446744073709551615) :
    Ev (fun n => withylaw03_ColSizes.f n k i u s) true := by
  unfold withylaw03_ColSizes.f
  rw [cut_eq]
  refine evsome ?_
  have h60 := s60_size s
  have wa : Cl.wf ⟨k, i, u, B (s60 s)⟩ := ⟨hi.1, hi.2, hu.1, hu.2⟩
  refine evbind (col_Put.ev k i u (s60 s) wa (by omega)) ?_
  unfold putR
  by_cases ra : Cl.right ⟨k, i, u, B (s60 s)⟩ = true
  · rw [if_pos ra]
    have lp := cput_pos ⟨k, i, u, B (s60 s)⟩
    have hf := colSizes_first _ ra wa
    have fin : ∀ n : Nat, ((cput ⟨k, i, u, B (s60 s)⟩).length : Int) = n → ¬ k = 4 → Ev (fun m => withylaw03_ColSizes.j1 m ⟨(cput ⟨k, i, u, B (s60 s)⟩).toArray⟩ (n : Int) k i u (s60 s)) true := by
      intro n hn h4
      refine Ev.step (fun n => withylaw03_ColSizes.j1.eq_2 ..) ?_
      refine evneg h4 ?_
      have z : (0 : Int) < ((⟨(cput ⟨k, i, u, B (s60 s)⟩).toArray⟩ : ByteArray).size : Int) := by show (0 : Int) < ((cput ⟨k, i, u, B (s60 s)⟩).length : Int); omega
      by_cases h3 : k = 3
      · refine evpos h3 (evpos z (evpos hf ?_))
        exact evbind withylaw03_fixed.ev (Ev.now _)
      · refine evneg h3 (evpos hn (evpos z (evpos hf ?_)))
        exact evbind withylaw03_fixed.ev (Ev.now _)
    refine evpos rfl ?_
    refine Ev.step (fun n => withylaw03_ColSizes.j0.eq_2 ..) ?_
    refine evneg (by rw [B_toList, B_mk, beq_iff_eq]; intro e; rw [e] at lp; simp at lp) ?_
    rcases right_cases ra with e | ⟨e, h1⟩ | e | e | e <;> simp only [Cl.mk.injEq] at e
    · refine evneg (by omega) ?_
      exact fin 1 (by rw [e.1, e.2.1, e.2.2.1, e.2.2.2]; rfl) (by omega)
    · refine evneg (by omega) ?_
      have e1 := e.1
      subst e1
      exact fin 1 (by simp [cput]) (by omega)
    · refine evpos (by omega) ?_
      have e1 := e.1
      subst e1
      exact fin 9 (by rw [cput_2]; simp [be_len]) (by omega)
    · refine evneg (by omega) ?_
      have e1 := e.1
      subst e1
      refine Ev.step (fun n => withylaw03_ColSizes.j1.eq_2 ..) ?_
      refine evneg (by omega) (evpos rfl (evpos (by show (0 : Int) < ((cput ⟨3, i, u, B (s60 s)⟩).length : Int); omega) (evpos hf ?_)))
      exact evbind withylaw03_fixed.ev (Ev.now _)
    · refine evneg (by omega) ?_
      refine Ev.step (fun n => withylaw03_ColSizes.j1.eq_2 ..) ?_
      refine evpos e.1 ?_
      have e3 : wrap64 (3 + ((s60 s).size : Int)) = ((3 + (s60 s).size + ((B (s60 s)).take 0).count 0 : Nat) : Int) := by rw [w64 (by omega)]; simp
      have e1 := e.1
      have hz : (⟨(cput ⟨k, i, u, B (s60 s)⟩).toArray⟩ : ByteArray).size = 3 + (s60 s).size + (B (s60 s)).count 0 := by
        show (cput ⟨k, i, u, B (s60 s)⟩).length = _
        subst e1
        rw [cput_4, List.length_cons, List.length_append, esc_len, B_len]
        simp; omega
      have L := withylaw03_ColSizes.l0_ev _ k i u (s60 s) e1 h60 hz hf (s60 s).size 0 (by omega)
      rw [← e3] at L
      exact L
  · rw [if_neg ra]
    refine evneg (by show ¬ (3 : Int) = 0; decide) ?_
    refine Ev.step (fun n => withylaw03_ColSizes.j0.eq_2 ..) ?_
    refine evpos rfl (evneg (by show ¬ (3 : Int) = 0; decide) (evpos (by rw [B_toList]) ?_))
    refine evbind (col_Right.ev _ _ _ _) (evneg ra ?_)
    exact evbind withylaw03_fixed.ev (Ev.now _)
end Go.Proofs.YtimnjdgelencpaaDoor.A
