/- key.Part, key.Compare and withylaw04.fixed, of what the print says they compute, say what the plain words say. Condition: as in the text on key.read. -/
import Derived.Test.YtimnjdgelencpaaDoorKey
namespace Go.Proofs.YtimnjdgelencpaaDoor.A
open Go Go.RowKit Go.Proofs Go.Proofs.YtimnjdgelencpaaDoorW Go.Proofs.YtimnjdgelencpaaDoorW.PrintWords Go.Proofs.YtimnjdgelencpaaDoorW.PrintMore Go.Proofs.YtimnjdgelencpaaDoor.Spec
set_option linter.unusedSimpArgs false
set_option linter.unusedVariables false
theorem places_at : ∀ (l : List Cl) (a i : Nat), i ≤ l.length → ((a : Int) :: places a (l.map fun c => (cput c).length)).getD i 0 = ((a + (kbody (l.take i)).length : Nat) : Int)
 | _, a, 0, _ => by simp [kbody]
 | [], a, i + 1, h => by simp at h
 | c :: l, a, i + 1, h => by
  have ih := places_at l (a + (cput c).length) i (by simp at h; omega)
  rw [List.map_cons, places, List.take_succ_cons, kbody_cons, List.length_append]
  rw [List.getD_cons_succ, ih]
  omega
theorem places_len : ∀ (a : Nat) (l : List Nat), (places a l).length = l.length
 | _, [] => rfl
 | a, m :: r => by rw [places, List.length_cons, List.length_cons, places_len]
theorem kput_take (l : List Cl) (i : Nat) (h : i ≤ l.length) : (kput l).take (kbody (l.take i)).length = kbody (l.take i) := by
 have : l = l.take i ++ l.drop i := (List.take_append_drop i l).symm
 conv => lhs; rw [this, kput, kbody_append, List.append_assoc]
 rw [← this]
 exact List.take_left' rfl
theorem kread_parts {s : ByteArray} {l : List Cl} (h : (kget (s.size + 1) (B s)).2 = 0) (hl : l = (kget (s.size + 1) (B s)).1.map Prod.fst) : kreadR (kget (s.size + 1) (B s)) = (l.map Cl.s24, 0 :: places 0 (l.map fun c => (cput c).length), 0) ∧ kput l = B s ∧ rights l = true ∧ wfs l := by
 obtain ⟨k1, k2, k3, k4⟩ := kget_ok (n := s.size + 1) (s := B s) (xs := (kget (s.size + 1) (B s)).1) (by rw [← h])
 subst hl
 refine ⟨?_, k3, k1, k2⟩
 unfold kreadR
 rw [if_pos h, k4, List.map_map, List.map_map]; rfl
theorem key_Part.ev (s : ByteArray) (hs : s.size ≤ 999999) (l : List Cl) (h : (kget (s.size + 1) (B s)).2 = 0) (hl : l = (kget (s.size + 1) (B s)).1.map Prod.fst) (i : Nat) (hi : i ≤ l.length) : Ev (fun k => key_Part.f k s (i : Int)) (⟨(kbody (l.take i)).toArray⟩, 0) := by
 obtain ⟨e, hp, _, _⟩ := kread_parts h hl
 have hr := key_read.ev s hs
 rw [e] at hr
 have hln : l.length < (0 :: places 0 (l.map fun c => (cput c).length)).length := by rw [List.length_cons, places_len, List.length_map]; omega
 have hrd : rd (0 :: places 0 (l.map fun c => (cput c).length)) (i : Int) = (((kbody (l.take i)).length : Nat) : Int) := by
  have := places_at l 0 i hi
  rw [Nat.zero_add] at this
  exact this
 have hsz : (kbody (l.take i)).length ≤ s.size := by
  have h1 := kbody_take l i
  have h2 : (kput l).length = s.size := by rw [hp, B_len]
  rw [kput, List.length_append] at h2; omega
 unfold key_Part.f
 refine evbind hr (evpos rfl (evneg (by omega) (evneg (by show ¬ (i : Int) ≥ ((0 :: places 0 (l.map fun c => (cput c).length)).length : Int); omega) (evpos (by omega) (evpos (by show (i : Int) < ((0 :: places 0 (l.map fun c => (cput c).length)).length : Int); omega) ?_)))))
 show Ev (fun _ => if 0 ≤ rd (0 :: places 0 (l.map fun c => (cput c).length)) (i : Int) then (if rd (0 :: places 0 (l.map fun c => (cput c).length)) (i : Int) ≤ (s.size : Int) then (some (s.extract 0 ((rd (0 :: places 0 (l.map fun c => (cput c).length)) (i : Int)) : Int).toNat, (0 : Int))) else none) else none) _
 rw [hrd]
 refine evpos (by omega) (evpos (by omega) (evof (Ev.now _) ?_))
 have hB : B (s.extract 0 (((kbody (l.take i)).length : Nat) : Int).toNat) = kbody (l.take i) := by
  rw [B_take, ← hp]; exact kput_take l i hi
 rw [show s.extract 0 (((kbody (l.take i)).length : Nat) : Int).toNat = ⟨(kbody (l.take i)).toArray⟩ from ba_ext (by rw [hB])]
theorem key_Part.out (s : ByteArray) (hs : s.size ≤ 999999) (h : (kget (s.size + 1) (B s)).2 = 0) (a : Int) (ha : a < 0 ∨ (kget (s.size + 1) (B s)).1.length < a) : Ev (fun k => key_Part.f k s a) ((⟨#[]⟩ : ByteArray), 4) := by
 obtain ⟨e, _, _, _⟩ := kread_parts h rfl
 have hr := key_read.ev s hs
 rw [e] at hr
 unfold key_Part.f
 refine evbind hr (evpos rfl ?_)
 by_cases h0 : a < 0
 ·exact evpos h0 (Ev.now _)
 ·refine evneg h0 (evpos ?_ (Ev.now _))
  show a ≥ ((0 :: places 0 (((kget (s.size + 1) (B s)).1.map Prod.fst).map fun c => (cput c).length)).length : Int)
  rw [List.length_cons, places_len, List.length_map, List.length_map]
  omega
theorem key_Part.bad (s : ByteArray) (hs : s.size ≤ 999999) (h : (kget (s.size + 1) (B s)).2 ≠ 0) (a : Int) : Ev (fun k => key_Part.f k s a) ((⟨#[]⟩ : ByteArray), ((kget (s.size + 1) (B s)).2 : Int)) := by
 have hr := key_read.ev s hs
 unfold kreadR at hr
 rw [if_neg h] at hr
 unfold key_Part.f
 exact evbind hr (evneg (by show ¬ ((_ : Nat) : Int) = 0; omega) (Ev.now _))
theorem col_Col.l0_ev (a b : List S24) (hl : a.length ≤ 1000000) (hab : a.length = b.length) : ∀ d i : Nat, i + d = a.length → Ev (fun k => col_Col.l0 k a b a (a.length : Int) (i : Int)) (kcmp (kc (a.drop i)) (kc (b.drop i)))
 | 0, i, h => by
  refine Ev.step (fun k => col_Col.l0.eq_2 ..) (evneg (by omega) (evneg (by omega) (evof (Ev.now _) ?_)))
  rw [List.drop_eq_nil_of_le (by omega), List.drop_eq_nil_of_le (by omega)]; rfl
 | d + 1, i, h => by
  have hi : i < a.length := by omega
  have hj : i < b.length := by omega
  refine Ev.step (fun k => col_Col.l0.eq_2 ..) (evpos (by omega) (evpos (by omega) (evpos (by omega) (evneg (by omega) (evpos (by omega) ?_)))))
  rw [rd24 hi, rd24 hj, List.drop_eq_getElem_cons hi, List.drop_eq_getElem_cons hj]
  refine evbind (col_Compare.ev _ _ _ _ _ _ _ _) ?_
  show Ev _ (if ccmp a[i].cl b[i].cl = 0 then kcmp (kc (a.drop (i + 1))) (kc (b.drop (i + 1))) else ccmp a[i].cl b[i].cl)
  by_cases h0 : ccmp a[i].cl b[i].cl = 0
  ·rw [if_pos h0]
   refine evpos h0 ?_
   rw [w64 (by omega)]
   exact col_Col.l0_ev a b hl hab d (i + 1) (by omega)
  ·rw [if_neg h0]
   exact evneg h0 (Ev.now _)
theorem kcmp_split : ∀ a b : List Cl, kcmp a b = orL [kcmp (a.take (min a.length b.length)) (b.take (min a.length b.length)), sgn (a.length : Int) (b.length : Int)]
 | [], [] => rfl
 | [], y :: b => by
  have : sgn (([] : List Cl).length : Int) ((y :: b).length : Int) = -1 := by unfold sgn; rw [if_pos (by first | (simp; done) | (simp; omega))]
  rw [this]; simp [kcmp, orL]
 | x :: a, [] => by
  have : sgn ((x :: a).length : Int) (([] : List Cl).length : Int) = 1 := by unfold sgn; rw [if_neg (by first | (simp; done) | (simp; omega)), if_pos (by first | (simp; done) | (simp; omega))]
  rw [this]; simp [kcmp, orL]
 | x :: a, y :: b => by
  have ih := kcmp_split a b
  have hm : min (x :: a).length (y :: b).length = min a.length b.length + 1 := by first | (simp; done) | (simp; omega)
  have hs : sgn ((x :: a).length : Int) ((y :: b).length : Int) = sgn (a.length : Int) (b.length : Int) := by unfold sgn; simp
  rw [hm, hs, List.take_succ_cons, List.take_succ_cons, kcmp, kcmp]
  by_cases h : ccmp x y = 0
  ·rw [if_pos h, if_pos h]; exact ih
  ·rw [if_neg h, if_neg h, orL, if_neg h]
theorem key_Compare.ev (a b : List S24) (ha : a.length ≤ 1000000) (hb : b.length ≤ 1000000) : Ev (fun k => key_Compare.f k a b) (kcmp (kc a) (kc b)) := by
 have hm : mn (a.length : Int) (b.length : Int) = ((min a.length b.length : Nat) : Int) := by unfold mn; split <;> omega
 unfold key_Compare.f
 rw [hm]
 refine evpos (by omega) (evpos (by omega) (evpos (by omega) ?_))
 rw [show ((min a.length b.length : Nat) : Int).toNat = min a.length b.length from rfl]
 have h1 := col_Col.l0_ev (a.take (min a.length b.length)) (b.take (min a.length b.length)) (by rw [List.length_take]; omega) (by rw [List.length_take, List.length_take]; omega) (a.take (min a.length b.length)).length 0 (by omega)
 rw [List.drop_zero, List.drop_zero] at h1
 refine evbind h1 ?_
 rw [cmp_int]
 refine evsome (evbind (a := orL [kcmp (kc (a.take (min a.length b.length))) (kc (b.take (min a.length b.length))), sgn (a.length : Int) (b.length : Int)]) ?_ (evof (Ev.now _) ?_))
 ·unfold cmp_Or_int.f
  exact cmp_Or_int.l0_ev [kcmp (kc (a.take (min a.length b.length))) (kc (b.take (min a.length b.length))), sgn (a.length : Int) (b.length : Int)] (by simp) 2 0 rfl
 ·rw [kcmp_split (kc a) (kc b), kc_length, kc_length, kc_take, kc_take]
theorem kcmp_self (a : List Cl) : kcmp a a = 0 := by
 induction a with
 | nil => rfl
 | cons x a ih => rw [kcmp, if_pos (ccmp_self x), ih]
theorem wf0 (k i u : Int) (s : Bytes) (h : -9223372036854775808 ≤ i ∧ i ≤ 9223372036854775807 ∧ 0 ≤ u ∧ u ≤ 18446744073709551615) : Cl.wf ⟨k, i, u, s⟩ := h
theorem withylaw04_fixed.ev : Ev (fun n => withylaw04_fixed.f n) true := by
 unfold withylaw04_fixed.f
 have p1 : Ev (fun k => key_Put.f k [⟨0, 0, 0, ⟨#[]⟩⟩, ⟨1, 0, 1, ⟨#[]⟩⟩]) ((⟨#[16, 33, 1]⟩ : ByteArray), 0) := evof (key_Put.ev [⟨0, 0, 0, ⟨#[]⟩⟩, ⟨1, 0, 1, ⟨#[]⟩⟩] (by intro c hc; rcases List.mem_cons.1 hc with rfl | hc; exact wf0 _ _ _ _ (by decide); obtain rfl := List.mem_singleton.1 hc; exact wf0 _ _ _ _ (by decide)) (by intro x hx; rcases List.mem_cons.1 hx with rfl | hx; decide; obtain rfl := List.mem_singleton.1 hx; decide) (by decide +kernel) (by decide)) (by decide +kernel)
 have p2 : Ev (fun k => key_Put.f k []) ((⟨#[1]⟩ : ByteArray), 0) := evof (key_Put.ev [] (by intro c hc; cases hc) (by intro x hx; cases hx) (by decide) (by decide)) (by decide +kernel)
 have p3 : Ev (fun k => key_Put.f k [⟨9, 0, 0, ⟨#[]⟩⟩]) ((⟨#[]⟩ : ByteArray), 3) := evof (key_Put.ev [⟨9, 0, 0, ⟨#[]⟩⟩] (by intro c hc; obtain rfl := List.mem_singleton.1 hc; exact wf0 _ _ _ _ (by decide)) (by intro x hx; obtain rfl := List.mem_singleton.1 hx; decide) (by decide +kernel) (by decide)) (by decide +kernel)
 refine evbind p1 (evbind p2 (evbind p3 ?_))
 refine evbind (evof (key_Get.ev (⟨#[16, 33, 1]⟩ : ByteArray) (by decide)) (show _ = ([⟨0, 0, 0, ⟨#[]⟩⟩, ⟨1, 0, 1, ⟨#[]⟩⟩], 0) from rfl)) ?_
 refine evbind (evof (key_Get.ev (⟨#[1]⟩ : ByteArray) (by decide)) (show _ = ([], 0) from rfl)) ?_
 refine evbind (evof (key_Get.ev (⟨#[16, 1, 16]⟩ : ByteArray) (by decide)) (show _ = ([], 3) from rfl)) ?_
 refine evbind (evof (key_Get.ev (⟨#[16]⟩ : ByteArray) (by decide)) (show _ = ([], 7) from rfl)) ?_
 refine evbind (evof (key_Get.ev (⟨#[5, 1]⟩ : ByteArray) (by decide)) (show _ = ([], 3) from rfl)) ?_
 have k1 : kget ((⟨#[16, 33, 1]⟩ : ByteArray).size + 1) (B (⟨#[16, 33, 1]⟩ : ByteArray)) = ([(⟨0, 0, 0, []⟩, 1), (⟨1, 0, 1, []⟩, 1)], 0) := by decide +kernel
 refine evbind (key_Part.ev (⟨#[16, 33, 1]⟩ : ByteArray) (by decide) [⟨0, 0, 0, []⟩, ⟨1, 0, 1, []⟩] (by rw [k1]) (by rw [k1]; rfl) 1 (by decide)) ?_
 refine evbind (key_Part.out (⟨#[16, 33, 1]⟩ : ByteArray) (by decide) (by rw [k1]) 3 (.inr (by rw [k1]; decide))) ?_
 simp only [B_toList]
 refine evpos (by decide +kernel) (evpos (by trivial) (evpos (by decide +kernel) (evpos (by trivial) (evpos (by trivial) ?_))))
 refine evbind (withylaw04_Ref.ev _ (by decide)) ?_
 obtain ⟨r, e1, e2⟩ := same_ev [⟨0, 0, 0, ⟨#[]⟩⟩, ⟨1, 0, 1, ⟨#[]⟩⟩] [⟨0, 0, 0, ⟨#[]⟩⟩, ⟨1, 0, 1, ⟨#[]⟩⟩] (by decide)
 refine evbind e1 (evpos (e2.2 rfl) ?_)
 refine evpos (by trivial) (evpos (by trivial) (evpos (by trivial) (evpos (by trivial) (evpos (by trivial) (evpos (by trivial) (evpos (by decide +kernel) (evpos (by trivial) (evpos (by trivial) (evpos (by trivial) ?_)))))))))
 refine evbind (key_Compare.ev _ _ (by decide) (by decide)) (evpos (by decide +kernel) ?_)
 refine evbind (key_Compare.ev _ _ (by decide) (by decide)) (evpos (by decide +kernel) ?_)
 refine evbind (key_Compare.ev _ _ (by decide) (by decide)) (evof (Ev.now _) ?_)
 rw [kcmp_self]; rfl
end Go.Proofs.YtimnjdgelencpaaDoor.A
