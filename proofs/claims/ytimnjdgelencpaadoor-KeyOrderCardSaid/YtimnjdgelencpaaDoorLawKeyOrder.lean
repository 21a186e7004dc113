/- withylaw04.KeyOrder, of what the print says it computes, answers true. Condition: the columns are data (whole numbers in their kinds' ranges). -/
import Derived.Test.YtimnjdgelencpaaDoorKAux
import Derived.Test.YtimnjdgelencpaaDoorAWithylaw04KeyOrder
namespace Go.Proofs.YtimnjdgelencpaaDoor.A
open Go Go.RowKit Go.Proofs Go.Proofs.YtimnjdgelencpaaDoorW Go.Proofs.YtimnjdgelencpaaDoorW.PrintWords Go.Proofs.YtimnjdgelencpaaDoorW.PrintMore Go.Proofs.YtimnjdgelencpaaDoor.Spec
set_option linter.unusedSimpArgs false
set_option linter.unusedVariables false
theorem ord_lt {c : Int} {s t : Bytes} (h : Ord3 c s t) : (decide (c < 0) == Op.bytesLess s t) = true := by
  rcases h with ⟨rfl, rfl⟩ | ⟨rfl, d⟩ | ⟨rfl, d⟩
  · rw [less_irrefl]; rfl
  · rw [d.less]; rfl
  · rw [d.not_less]; rfl
theorem ord_eq {c : Int} {s t : Bytes} (h : Ord3 c s t) : ((c == 0) == (s == t)) = true := by
  rcases h with ⟨rfl, rfl⟩ | ⟨rfl, d⟩ | ⟨rfl, d⟩
  · simp
  · have := d.ne; simp [this]
  · have := d.ne.symm; simp [this]
theorem ord_app {c : Int} {s t : Bytes} (h : Ord3 c s t) (h0 : c ≠ 0) (u v : Bytes) : Ord3 c (s ++ u) (t ++ v) := by
  rcases h with ⟨h, rfl⟩ | ⟨h, d⟩ | ⟨h, d⟩
  · exact absurd h h0
  · exact .inr (.inl ⟨h, d.app u v⟩)
  · exact .inr (.inr ⟨h, d.app v u⟩)
theorem ord_begin {c : Int} {s t : Bytes} (h : Ord3 c s t) : (t.take s.length == s) = (c == 0) := by
  rcases h with ⟨rfl, rfl⟩ | ⟨rfl, d⟩ | ⟨rfl, d⟩
  · simp
  · rw [beq_eq_false_iff_ne.2 (fun e => d.no_begin (t.drop s.length) (by have := List.take_append_drop s.length t; rw [e] at this; exact this.symm))]; rfl
  · rw [beq_eq_false_iff_ne.2 (fun e => d.no_begin' (t.drop s.length) (by have := List.take_append_drop s.length t; rw [e] at this; exact this.symm))]; rfl
theorem ord_begin' {c : Int} {s t : Bytes} (h : Ord3 c s t) : (s.take t.length == t) = (c == 0) := by
  have h2 : Ord3 (-c) t s := by
    rcases h with ⟨rfl, rfl⟩ | ⟨rfl, d⟩ | ⟨rfl, d⟩
    · exact .inl ⟨rfl, rfl⟩
    · exact .inr (.inr ⟨rfl, d⟩)
    · exact .inr (.inl ⟨rfl, d⟩)
  rw [ord_begin h2, Bool.eq_iff_iff]; simp
theorem ba_ext_toList (s : ByteArray) (n : Nat) : (s.extract 0 n).toList = (B s).take n := by rw [B_toList, B_take]
theorem ord_neg {c : Int} {s t : Bytes} (h : Ord3 c s t) : -c = wrap64 (-c) := by
  rcases h with ⟨rfl, _⟩ | ⟨rfl, _⟩ | ⟨rfl, _⟩ <;> exact (w64 (by decide)).symm
theorem keyOrder_back (a b : List S24) (la : a.length ≤ 8) (lb : b.length ≤ 8) {s t : Bytes} (h : Ord3 (kcmp (kc a) (kc b)) s t) :
    Ev (fun n => (key_Compare.f n b a).bind fun t2 => (if t2 = (wrap64 (-(kcmp (kc a) (kc b)))) then ((withylaw04_fixed.f n).bind fun t3 => (some t3)) else (none))) true := by
  refine evbind (key_Compare.ev b a (by omega) (by omega)) ?_
  exact evpos (by rw [kcmp_neg ccmp_neg]; exact ord_neg h) (evbind withylaw04_fixed.ev (Ev.now _))
theorem keyOrder_tail (a b : List S24) (la : a.length ≤ 8) (lb : b.length ≤ 8) (x7 x9 p q : ByteArray) (bg : Bool) (h : Ord3 (kcmp (kc a) (kc b)) (B x7) (B x9)) (hb : bg = (kcmp (kc a) (kc b) == 0)) :
    Ev (fun n => (key_Compare.f n a b).bind fun t588 => (if ((decide (t588 < 0)) == (Op.bytesLess x7.toList x9.toList)) = true then (if ((t588 == 0) == (x7.toList == x9.toList)) = true then (if (bg == (t588 == 0)) = true then (if t588 = 0 then ((key_Compare.f n b a).bind fun t589 => (if t589 = (wrap64 (-t588)) then ((withylaw04_fixed.f n).bind fun t590 => (some t590)) else (none))) else (if ((decide (t588 < 0)) == (Op.bytesLess ((x7 ++ p).toList) ((x9 ++ q).toList))) = true then ((key_Compare.f n b a).bind fun t591 => (if t591 = (wrap64 (-t588)) then ((withylaw04_fixed.f n).bind fun t592 => (some t592)) else (none))) else (none))) else (none)) else (none)) else (none))) true := by
  refine evbind (key_Compare.ev a b (by omega) (by omega)) ?_
  refine evpos (by rw [B_toList, B_toList]; exact ord_lt h) ?_
  refine evpos (by rw [B_toList, B_toList]; exact ord_eq h) ?_
  refine evpos (by rw [hb]; simp) ?_
  by_cases h0 : kcmp (kc a) (kc b) = 0
  · exact evpos h0 (keyOrder_back a b la lb h)
  · refine evneg h0 (evpos ?_ (keyOrder_back a b la lb h))
    rw [B_toList, B_toList, B_append, B_append]; exact ord_lt (ord_app h h0 _ _)
theorem withylaw04_KeyOrder.ev (l o : List S24) (p q : ByteArray) (hl : data24 l) (ho : data24 o) : Ev (fun n => withylaw04_KeyOrder.f n l o p q) true := by
  unfold withylaw04_KeyOrder.f
  have pl := cut_put l hl
  have po := cut_put o ho
  have wl := cutL_wfs hl
  have wo := cutL_wfs ho
  have h8 := cutL_len l
  have o8 := cutL_len o
  have bl := cutL_body l
  have bo := cutL_body o
  refine evbind (withylaw04_Cut.ev l) (evbind (withylaw04_Cut.ev o) (evbind pl (evbind po ?_)))
  generalize cutL l = L at *
  generalize cutL o = O at *
  have hfail : ¬ (rights (kc L) = true ∧ rights (kc O) = true) → ∀ x7 x9 : ByteArray, Ev (fun n => withylaw04_KeyOrder.j0 n L O x7 x9 true p q) true := by
    intro hf x7 x9
    refine Ev.step (fun n => withylaw04_KeyOrder.j0.eq_2 ..) (evpos rfl ?_)
    refine evbind (withylaw04_right.ev L (by omega)) ?_
    by_cases h1 : rights (kc L) = true
    · refine evpos h1 (evbind (withylaw04_right.ev O (by omega)) ?_)
      have h2 : ¬ rights (kc O) = true := fun h2 => hf ⟨h1, h2⟩
      exact evneg h2 (evbind withylaw04_fixed.ev (Ev.now _))
    · exact evneg h1 (evbind withylaw04_fixed.ev (Ev.now _))
  by_cases r1 : rights (kc L) = true
  · have eL : kputR (kc L) = (⟨(kput (kc L)).toArray⟩, 0) := by unfold kputR; rw [if_pos r1]
    rw [eL]
    refine evpos rfl ?_
    by_cases r3 : rights (kc O) = true
    · have eO : kputR (kc O) = (⟨(kput (kc O)).toArray⟩, 0) := by unfold kputR; rw [if_pos r3]
      rw [eO]
      refine Ev.step (fun n => withylaw04_KeyOrder.j0.eq_2 ..) (evneg (by show ¬ ((0 : Int) != 0) = true; decide) ?_)
      have hor := (key_ord r1 r3 wl wo).1
      have kl := kput_len (kc L)
      have ko := kput_len (kc O)
      have m1 := mn_le (p.size : Int) 20 (by omega) (by decide)
      have m2 := mn_le (q.size : Int) 20 (by omega) (by decide)
      have c1 := cutn p 20 (by decide)
      have c2 := cutn q 20 (by decide)
      have bg1 := ord_begin hor
      have bg2 := ord_begin' hor
      generalize kput (kc L) = S at *
      generalize kput (kc O) = T at *
      have zS : (⟨S.toArray⟩ : ByteArray).size = S.length := rfl
      have zT : (⟨T.toArray⟩ : ByteArray).size = T.length := rfl
      refine evpos m1.1 (evpos m1.2.1 (evpos (by rw [zS]; simp at c1 ⊢; omega) (evpos m2.1 (evpos m2.2.1 (evpos (by rw [zT]; simp at c2 ⊢; omega) ?_)))))
      have e1 : ((⟨T.toArray⟩ : ByteArray).extract 0 (((⟨S.toArray⟩ : ByteArray).size : Int)).toNat).toList = T.take S.length := ba_ext_toList _ _
      have e2 : ((⟨S.toArray⟩ : ByteArray).extract 0 (((⟨T.toArray⟩ : ByteArray).size : Int)).toNat).toList = S.take T.length := ba_ext_toList _ _
      by_cases l1 : (((⟨S.toArray⟩ : ByteArray).size : Int)) ≤ ((⟨T.toArray⟩ : ByteArray).size : Int)
      · refine evpos l1 (evpos (by omega) ?_)
        by_cases b1 : ((⟨T.toArray⟩ : ByteArray).extract 0 (((⟨S.toArray⟩ : ByteArray).size : Int)).toNat).toList = (⟨S.toArray⟩ : ByteArray).toList
        · refine evpos b1 ?_
          refine keyOrder_tail L O h8 o8 _ _ _ _ true hor ?_
          rw [e1, B_toList] at b1
          rw [← bg1]; exact (beq_iff_eq.2 b1).symm
        · refine evneg b1 ?_
          rw [e1, B_toList] at b1
          have hf : (kcmp (kc L) (kc O) == 0) = false := by rw [← bg1]; exact beq_eq_false_iff_ne.2 b1
          by_cases l2 : (((⟨T.toArray⟩ : ByteArray).size : Int)) ≤ ((⟨S.toArray⟩ : ByteArray).size : Int)
          · refine evpos l2 (evpos (by omega) ?_)
            refine keyOrder_tail L O h8 o8 _ _ _ _ _ hor ?_
            rw [e2, B_toList]; exact bg2
          · refine evneg l2 ?_
            exact keyOrder_tail L O h8 o8 _ _ _ _ false hor hf.symm
      · refine evneg l1 ?_
        by_cases l2 : (((⟨T.toArray⟩ : ByteArray).size : Int)) ≤ ((⟨S.toArray⟩ : ByteArray).size : Int)
        · refine evpos l2 (evpos (by omega) ?_)
          refine keyOrder_tail L O h8 o8 _ _ _ _ _ hor ?_
          rw [e2, B_toList]; exact bg2
        · omega
    · have eO : kputR (kc O) = (⟨#[]⟩, 3) := by unfold kputR; rw [if_neg r3]
      rw [eO]
      exact hfail (fun h => r3 h.2) _ _
  · have eL : kputR (kc L) = (⟨#[]⟩, 3) := by unfold kputR; rw [if_neg r1]
    rw [eL]
    exact evneg (by show ¬ (3 : Int) = 0; decide) (hfail (fun h => r1 h.1) _ _)
end Go.Proofs.YtimnjdgelencpaaDoor.A
