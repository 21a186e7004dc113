/- withylaw04.KeyTells, of what the print says it computes, answers true. Condition: the columns are data (whole numbers in their kinds' ranges). -/
import Derived.Test.YtimnjdgelencpaaDoorRef4
import Derived.Test.YtimnjdgelencpaaDoorAWithylaw04KeyTells
namespace Go.Proofs.YtimnjdgelencpaaDoor.A
open Go Go.RowKit Go.Proofs Go.Proofs.YtimnjdgelencpaaDoorW Go.Proofs.YtimnjdgelencpaaDoorW.PrintWords Go.Proofs.YtimnjdgelencpaaDoorW.PrintMore Go.Proofs.YtimnjdgelencpaaDoor.Spec
set_option linter.unusedSimpArgs false
set_option linter.unusedVariables false
theorem keyTells_j0 (p : ByteArray × Int) (m : List S24 × Int) (hm : m.1.length ≤ 1000) (t : ByteArray × Int) : Ev (fun n => withylaw04_KeyTells.j0 n p.1 p.2 p.1 p.2 m.1 m.2 (m.1.map c79) m.2 t.1 t.2 t.1 t.2 false) true := by
  refine Ev.step (fun n => withylaw04_KeyTells.j0.eq_2 ..) (evneg (by decide) (evpos rfl (evpos rfl ?_)))
  refine evbind (withylaw04_Ref.ev m.1 (by omega)) ?_
  obtain ⟨r, q1, q2⟩ := same_ev m.1 m.1 (by omega)
  refine evbind q1 (evpos (q2.2 rfl) (evpos rfl (evpos rfl (evpos rfl ?_))))
  exact evbind withylaw04_fixed.ev (Ev.now _)
theorem kgetR9_eq (g : List (Cl × Nat) × Nat) : kgetR9 [] g = ((kgetR g).1.map c79, (kgetR g).2) := by
  unfold kgetR9 kgetR
  by_cases h : g.2 = 0
  · rw [if_pos h, if_pos h, List.nil_append, List.map_map]; rfl
  · rw [if_neg h, if_neg h]; rfl
theorem kgetR_len (S : ByteArray) (hS : S.size ≤ 200) : (kgetR (kget (S.size + 1) (B S))).1.length ≤ 1000 := by
  unfold kgetR
  by_cases h : (kget (S.size + 1) (B S)).2 = 0
  · rw [if_pos h]
    obtain ⟨k1, k2, k3, k4⟩ := kget_ok (n := S.size + 1) (s := B S) (xs := (kget (S.size + 1) (B S)).1) (by rw [← h])
    have hl := congrArg List.length k3
    rw [kput_len, B_len] at hl
    have := kbody_len ((kget (S.size + 1) (B S)).1.map Prod.fst)
    rw [List.length_map] at this ⊢
    omega
  · rw [if_neg h]; simp
theorem withylaw04_KeyTells.ev (l o : List S24) (s : ByteArray) (a : Int) (hl : data24 l) (ho : data24 o) : Ev (fun n => withylaw04_KeyTells.f n l o s a) true := by
  unfold withylaw04_KeyTells.f
  have m1 := mn_le (s.size : Int) 200 (by omega) (by decide)
  have c1 := cutn s 200 (by decide)
  have pl := cut_put l hl
  have wl := cutL_wfs hl
  have wo := cutL_wfs ho
  have h8 := cutL_len l
  have o8 := cutL_len o
  have tl := cutL_texts l
  have bl := cutL_body l
  refine evbind (withylaw04_Cut.ev l) (evbind (withylaw04_Cut.ev o) (evpos m1.1 (evpos m1.2.1 ?_)))
  generalize cutL l = L at *
  generalize cutL o = O at *
  generalize s.extract 0 (mn (s.size : Int) 200).toNat = S at *
  have hS : S.size ≤ 200 := c1
  refine evbind pl (evbind (withylaw04_Ref.ev L (by omega)) (evbind (withyref04_Put.ev L wl tl (by omega) (by omega)) ?_))
  refine evbind (key_Get.ev S (by omega)) (evbind (withyref04_Get.ev S (by omega)) ?_)
  obtain ⟨t, t1, t2⟩ := withyref04_Part.ev S (by omega) a
  refine evbind t2 (evbind t1 ?_)
  have hgl := kgetR_len S hS
  rw [kgetR9_eq]
  generalize kgetR (kget (S.size + 1) (B S)) = g at *
  have hj := keyTells_j0 (kputR (kc L)) g hgl t
  refine evbind (withylaw04_right.ev L (by omega)) ?_
  by_cases r1 : rights (kc L) = true
  · refine evpos r1 (evbind (withylaw04_right.ev O (by omega)) ?_)
    by_cases r2 : rights (kc O) = true
    · refine evpos r2 (evbind (key_Compare.ev L O (by omega) (by omega)) (evbind (withylaw04_Ref.ev L (by omega)) (evbind (withylaw04_Ref.ev O (by omega)) (evbind (withyref04_Compare.ev L O (by omega) r1 r2) ?_))))
      rw [bne_self_eq_false]
      exact hj
    · exact evneg r2 hj
  · exact evneg r1 hj
end Go.Proofs.YtimnjdgelencpaaDoor.A
