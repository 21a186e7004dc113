/- withylaw03.ColOrder, of what the print says it computes, answers true. Condition: whole numbers in their kinds' ranges. -/
import Derived.Test.YtimnjdgelencpaaDoorLawAux
import Derived.Test.YtimnjdgelencpaaDoorAWithylaw03ColOrder
namespace Go.Proofs.YtimnjdgelencpaaDoor.A
open Go Go.RowKit Go.Proofs Go.Proofs.YtimnjdgelencpaaDoorW Go.Proofs.YtimnjdgelencpaaDoorW.PrintWords Go.Proofs.YtimnjdgelencpaaDoorW.PrintMore Go.Proofs.YtimnjdgelencpaaDoor.Spec
set_option linter.unusedSimpArgs false
set_option linter.unusedVariables false
theorem ord_lt {c : Int} {s t : Bytes} (h : Ord3 c s t) : (decide (c < 0) == Op.bytesLess s t) = true := by
  rcases h with ⟨rfl, rfl⟩ | ⟨rfl, d⟩ | ⟨rfl, d⟩
  · rw [less_irrefl]; rfl
  · rw [d.less]; rfl
  · rw [d.not_less]; rfl
theorem ord_eq {c : Int} {s t : Bytes} (h : Ord3 c s t) : ((c == 0) == (s == t)) = true := by
  rcases h with ⟨rfl, rfl⟩ | ⟨rfl, d⟩ | ⟨rfl, d⟩
  · simp
  · have := d.ne; simp [this]
  · have := d.ne.symm; simp [this]
theorem ord_app {c : Int} {s t : Bytes} (h : Ord3 c s t) (h0 : c ≠ 0) (u v : Bytes) : Ord3 c (s ++ u) (t ++ v) := by
  rcases h with ⟨h, rfl⟩ | ⟨h, d⟩ | ⟨h, d⟩
  · exact absurd h h0
  · exact .inr (.inl ⟨h, d.app u v⟩)
  · exact .inr (.inr ⟨h, d.app v u⟩)
theorem ord_begin {c : Int} {s t : Bytes} (h : Ord3 c s t) : (t.take s.length == s) = (c == 0) := by
  rcases h with ⟨rfl, rfl⟩ | ⟨rfl, d⟩ | ⟨rfl, d⟩
  · simp
  · rw [beq_eq_false_iff_ne.2 (fun e => d.no_begin (t.drop s.length) (by have := List.take_append_drop s.length t; rw [e] at this; exact this.symm))]; rfl
  · rw [beq_eq_false_iff_ne.2 (fun e => d.no_begin' (t.drop s.length) (by have := List.take_append_drop s.length t; rw [e] at this; exact this.symm))]; rfl
theorem ord_begin' {c : Int} {s t : Bytes} (h : Ord3 c s t) : (s.take t.length == t) = (c == 0) := by
  have h2 : Ord3 (-c) t s := by
    rcases h with ⟨rfl, rfl⟩ | ⟨rfl, d⟩ | ⟨rfl, d⟩
    · exact .inl ⟨rfl, rfl⟩
    · exact .inr (.inr ⟨rfl, d⟩)
    · exact .inr (.inl ⟨rfl, d⟩)
  rw [ord_begin h2, Bool.eq_iff_iff]; simp
theorem ba_ext_toList (s : ByteArray) (n : Nat) : (s.extract 0 n).toList = (B s).take n := by rw [B_toList, B_take]
section
variable {k i u k' i' u' : Int} {s s' : ByteArray}
theorem colOrder_tail (x7 x9 p q : ByteArray) (bg : Bool) (h : Ord3 (ccmp ⟨k, i, u, B s⟩ ⟨k', i', u', B s'⟩) (B x7) (B x9)) (he : ccmp ⟨k, i, u, B s⟩ ⟨k', i', u', B s'⟩ = 0 ↔ (⟨k, i, u, B s⟩ : Cl) = ⟨k', i', u', B s'⟩)
    (hb : bg = (ccmp ⟨k, i, u, B s⟩ ⟨k', i', u', B s'⟩ == 0)) :
    Ev (fun n => (col_Compare.f n k i u s k' i' u' s').bind fun t240 => (if ((decide (t240 < 0)) == (Op.bytesLess x7.toList x9.toList)) = true then (if ((t240 == 0) == (x7.toList == x9.toList)) = true then (if (bg == (t240 == 0)) = true then (if t240 = 0 then (if ((t240 == 0) == (k == k' && (i == i' && (u == u' && (s.toList == s'.toList))))) = true then ((withylaw03_fixed.f n).bind fun t241 => (some t241)) else (none)) else (if ((decide (t240 < 0)) == (Op.bytesLess ((x7 ++ p).toList) ((x9 ++ q).toList))) = true then (if ((t240 == 0) == (k == k' && (i == i' && (u == u' && (s.toList == s'.toList))))) = true then ((withylaw03_fixed.f n).bind fun t242 => (some t242)) else (none)) else (none))) else (none)) else (none)) else (none))) true := by
  have hse : ((ccmp ⟨k, i, u, B s⟩ ⟨k', i', u', B s'⟩ == 0) == (k == k' && (i == i' && (u == u' && (s.toList == s'.toList))))) = true := by
    rw [B_toList, B_toList, beq_iff_eq, Bool.eq_iff_iff, beq_iff_eq, he]
    simp
  refine evbind (col_Compare.ev _ _ _ _ _ _ _ _) ?_
  refine evpos (by rw [B_toList, B_toList]; exact ord_lt h) ?_
  refine evpos (by rw [B_toList, B_toList]; exact ord_eq h) ?_
  refine evpos (by rw [hb]; simp) ?_
  by_cases h0 : ccmp ⟨k, i, u, B s⟩ ⟨k', i', u', B s'⟩ = 0
  · refine evpos h0 (evpos hse ?_)
    exact evbind withylaw03_fixed.ev (Ev.now _)
  · refine evneg h0 (evpos ?_ (evpos hse ?_))
    · rw [B_toList, B_toList, B_append, B_append]; exact ord_lt (ord_app h h0 _ _)
    · exact evbind withylaw03_fixed.ev (Ev.now _)
end
theorem withylaw03_ColOrder.ev (k i u : Int) (s : ByteArray) (k' i' u' : Int) (s' : ByteArray) (p q : ByteArray) (hi : -9223372036854775808 ≤ i ∧ i ≤ 9223372036854775807) (hu : 0 ≤ u ∧ u ≤ 18446744073709551615) (hi' : -9223372036854775808 ≤ i' ∧ i' ≤ 9223372036854775807) (hu' : 0 ≤ u' ∧ u' ≤ 18446744073709551615) :
    Ev (fun n => withylaw03_ColOrder.f n k i u s k' i' u' s' p q) true := by
  unfold withylaw03_ColOrder.f
  rw [cut_eq, cut_eq]
  refine evsome (evsome ?_)
  have h60 := s60_size s
  have h60' := s60_size s'
  have wa : Cl.wf ⟨k, i, u, B (s60 s)⟩ := ⟨hi.1, hi.2, hu.1, hu.2⟩
  have wb : Cl.wf ⟨k', i', u', B (s60 s')⟩ := ⟨hi'.1, hi'.2, hu'.1, hu'.2⟩
  refine evbind (col_Put.ev k i u (s60 s) wa (by omega)) ?_
  refine evbind (col_Put.ev k' i' u' (s60 s') wb (by omega)) ?_
  unfold putR
  by_cases ra : Cl.right ⟨k, i, u, B (s60 s)⟩ = true
  · rw [if_pos ra]
    refine evpos rfl ?_
    refine Ev.step (fun n => withylaw03_ColOrder.j0.eq_2 ..) ?_
    by_cases rb : Cl.right ⟨k', i', u', B (s60 s')⟩ = true
    · rw [if_pos rb]
      obtain ⟨ho, he⟩ := col_ord ra rb wa wb
      have la := cput_len ⟨k, i, u, B (s60 s)⟩
      have lb := cput_len ⟨k', i', u', B (s60 s')⟩
      simp only [B_len] at la lb
      generalize hS : cput ⟨k, i, u, B (s60 s)⟩ = S at *
      generalize hT : cput ⟨k', i', u', B (s60 s')⟩ = T at *
      have zS : (⟨S.toArray⟩ : ByteArray).size = S.length := rfl
      have zT : (⟨T.toArray⟩ : ByteArray).size = T.length := rfl
      have m1 := mn_le (p.size : Int) 20 (by omega) (by decide)
      have m2 := mn_le (q.size : Int) 20 (by omega) (by decide)
      have c1 := cutn p 20 (by decide)
      have c2 := cutn q 20 (by decide)
      refine evneg (by simp) ?_
      refine evpos m1.1 (evpos m1.2.1 (evpos (by rw [zS]; simp at c1 ⊢; omega) (evpos m2.1 (evpos m2.2.1 (evpos (by rw [zT]; simp at c2 ⊢; omega) ?_)))))
      have bg1 := ord_begin ho
      have bg2 := ord_begin' ho
      have e1 : ((⟨T.toArray⟩ : ByteArray).extract 0 (((⟨S.toArray⟩ : ByteArray).size : Int)).toNat).toList = T.take S.length := ba_ext_toList _ _
      have e2 : ((⟨S.toArray⟩ : ByteArray).extract 0 (((⟨T.toArray⟩ : ByteArray).size : Int)).toNat).toList = S.take T.length := ba_ext_toList _ _
      by_cases l1 : (((⟨S.toArray⟩ : ByteArray).size : Int)) ≤ ((⟨T.toArray⟩ : ByteArray).size : Int)
      · refine evpos l1 (evpos (by omega) ?_)
        by_cases b1 : ((⟨T.toArray⟩ : ByteArray).extract 0 (((⟨S.toArray⟩ : ByteArray).size : Int)).toNat).toList = (⟨S.toArray⟩ : ByteArray).toList
        · refine evpos b1 ?_
          refine colOrder_tail _ _ _ _ true ho he ?_
          rw [e1, B_toList] at b1
          rw [← bg1]; exact (beq_iff_eq.2 b1).symm
        · refine evneg b1 ?_
          rw [e1, B_toList] at b1
          have hf : (ccmp ⟨k, i, u, B (s60 s)⟩ ⟨k', i', u', B (s60 s')⟩ == 0) = false := by rw [← bg1]; exact beq_eq_false_iff_ne.2 b1
          by_cases l2 : (((⟨T.toArray⟩ : ByteArray).size : Int)) ≤ ((⟨S.toArray⟩ : ByteArray).size : Int)
          · refine evpos l2 (evpos (by omega) ?_)
            refine colOrder_tail _ _ _ _ _ ho he ?_
            rw [e2, B_toList]; exact bg2
          · refine evneg l2 ?_
            exact colOrder_tail _ _ _ _ false ho he hf.symm
      · refine evneg l1 ?_
        by_cases l2 : (((⟨T.toArray⟩ : ByteArray).size : Int)) ≤ ((⟨S.toArray⟩ : ByteArray).size : Int)
        · refine evpos l2 (evpos (by omega) ?_)
          refine colOrder_tail _ _ _ _ _ ho he ?_
          rw [e2, B_toList]; exact bg2
        · omega
    · rw [if_neg rb]
      refine evpos (by decide) ?_
      exact evbind withylaw03_fixed.ev (Ev.now _)
  · rw [if_neg ra]
    refine evneg (by show ¬ (3 : Int) = 0; decide) ?_
    refine Ev.step (fun n => withylaw03_ColOrder.j0.eq_2 ..) ?_
    refine evpos rfl ?_
    exact evbind withylaw03_fixed.ev (Ev.now _)
end Go.Proofs.YtimnjdgelencpaaDoor.A
