/- The print's functions of keys (key.Put, key.read, key.Get, key.Part, key.Compare) and the laws' helpers say what the plain words say. Condition: whole numbers in their kinds' ranges, texts and keys of at most a million bytes. -/
import Derived.Test.YtimnjdgelencpaaDoorCol
import Derived.Test.YtimnjdgelencpaaDoorLawAux
import Derived.Test.YtimnjdgelencpaaDoorKSpec
import Derived.Test.YtimnjdgelencpaaDoorAWithylaw04fixed
import Derived.Test.YtimnjdgelencpaaDoorAG4
namespace Go.Proofs.YtimnjdgelencpaaDoor.A
open Go Go.RowKit Go.Proofs Go.Proofs.YtimnjdgelencpaaDoorW Go.Proofs.YtimnjdgelencpaaDoorW.PrintWords Go.Proofs.YtimnjdgelencpaaDoorW.PrintMore Go.Proofs.YtimnjdgelencpaaDoor.Spec
set_option linter.unusedSimpArgs false
set_option linter.unusedVariables false
def S24.cl (x : S24) : Cl := ⟨x.f0, x.f1, x.f2, B x.f3⟩
def Cl.s24 (c : Cl) : S24 := ⟨c.k, c.i, c.u, ⟨c.s.toArray⟩⟩
abbrev kc (l : List S24) : List Cl := l.map S24.cl
theorem kc_s24 (l : List Cl) : kc (l.map Cl.s24) = l := by
 induction l with
 | nil => rfl
 | cons c l ih => show (Cl.s24 c).cl :: kc (l.map Cl.s24) = c :: l; rw [ih]; rfl
theorem rd24 {l : List S24} {i : Nat} (h : i < l.length) : rd_T24 l (i : Int) = l[i] := by
 show l.getD i z24 = _
 simp [List.getD, h]
theorem take_succ24 {l : List S24} {i : Nat} (h : i < l.length) : l.take (i + 1) = l.take i ++ [l[i]] := List.take_succ_eq_append_getElem h
def c60 (x : S24) : S24 := ⟨x.f0, x.f1, x.f2, s60 x.f3⟩
def cutL (l : List S24) : List S24 := (l.take 8).map c60
theorem withylaw04_Cut.l0_ev (l : List S24) : ∀ d i : Nat, i + d = min l.length 8 → Ev (fun k => withylaw04_Cut.l0 k l ((l.take i).map c60) (i : Int)) (cutL l)
 | 0, i, h => by
  refine Ev.step (fun k => withylaw04_Cut.l0.eq_2 ..) ?_
  have hr : cutL l = (l.take i).map c60 := by
   unfold cutL
   by_cases h8 : l.length ≤ 8
   ·rw [List.take_of_length_le h8, List.take_of_length_le (by omega)]
   ·rw [show i = 8 by omega]
  by_cases hl : i < l.length
  ·exact evpos (by omega) (evneg (by omega) (evof (Ev.now _) hr.symm))
  ·exact evneg (by omega) (evof (Ev.now _) hr.symm)
 | d + 1, i, h => by
  have hl : i < l.length := by omega
  refine Ev.step (fun k => withylaw04_Cut.l0.eq_2 ..) ?_
  refine evpos (by omega) (evpos (by omega) (evpos (by omega) ?_))
  rw [rd24 hl, cut_eq]
  refine evsome (evpos (by simp; omega) ?_)
  have ih := withylaw04_Cut.l0_ev l d (i + 1) (by omega)
  rw [take_succ24 hl, List.map_append] at ih
  rw [w64 (by omega)]
  exact ih
theorem withylaw04_Cut.ev (l : List S24) : Ev (fun k => withylaw04_Cut.f k l) (cutL l) := withylaw04_Cut.l0_ev l (min l.length 8) 0 (by omega)
def c79 (x : S24) : S79 := ⟨x.f0, x.f1, x.f2, x.f3⟩
theorem withylaw04_Ref.l0_ev (l : List S24) (hl : l.length ≤ 1000000) : ∀ d i : Nat, i + d = l.length → Ev (fun k => withylaw04_Ref.l0 k l ((l.take i).map c79) (i : Int)) (l.map c79)
 | 0, i, h => by
  refine Ev.step (fun k => withylaw04_Ref.l0.eq_2 ..) ?_
  exact evneg (by omega) (evof (Ev.now _) (by rw [List.take_of_length_le (by omega)]))
 | d + 1, i, h => by
  have hi : i < l.length := by omega
  refine Ev.step (fun k => withylaw04_Ref.l0.eq_2 ..) ?_
  refine evpos (by omega) (evpos (by omega) ?_)
  rw [rd24 hi]
  unfold withylaw03_Ref.f
  refine evsome (evpos (by simp; omega) ?_)
  have ih := withylaw04_Ref.l0_ev l hl d (i + 1) (by omega)
  rw [take_succ24 hi, List.map_append] at ih
  rw [w64 (by omega)]
  exact ih
theorem withylaw04_Ref.ev (l : List S24) (hl : l.length ≤ 1000000) : Ev (fun k => withylaw04_Ref.f k l) (l.map c79) := withylaw04_Ref.l0_ev l hl l.length 0 (by omega)
theorem right_ref (k i u : Int) (s : ByteArray) : withyref03_Right.f k i u s = some (Cl.right ⟨k, i, u, B s⟩) := by
 unfold withyref03_Right.f
 rw [B_toList]
 by_cases h0 : k = 0
 ·subst h0; by_cases h1 : i = 0 <;> by_cases h2 : u = 0 <;> simp [Cl.right, h1, h2]
 by_cases h1' : k = 1
 ·subst h1'; by_cases h1 : i = 0 <;> by_cases h2 : u ≤ 1 <;> simp [Cl.right, h1, h2]
 by_cases h2' : k = 2
 ·subst h2'; by_cases h2 : u = 0 <;> simp [Cl.right, h2]
 by_cases h3' : k = 3
 ·subst h3'; by_cases h2 : i = 0 <;> simp [Cl.right, h2]
 by_cases h4' : k = 4
 ·subst h4'; by_cases h1 : i = 0 <;> by_cases h2 : u = 0 <;> simp [Cl.right, h1, h2]
 ·simp [Cl.right, h0, h1', h2', h3', h4']
theorem withylaw04_right.l0_ev (l : List S24) (hl : l.length ≤ 1000000) : ∀ d i : Nat, i + d = l.length → Ev (fun k => withylaw04_right.l0 k l (i : Int)) (rights (kc (l.drop i)))
 | 0, i, h => by
  refine Ev.step (fun k => withylaw04_right.l0.eq_2 ..) ?_
  exact evneg (by omega) (evof (Ev.now _) (by rw [List.drop_eq_nil_of_le (by omega)]; rfl))
 | d + 1, i, h => by
  have hi : i < l.length := by omega
  refine Ev.step (fun k => withylaw04_right.l0.eq_2 ..) ?_
  refine evpos (by omega) (evpos (by omega) ?_)
  rw [rd24 hi, List.drop_eq_getElem_cons hi]
  unfold withylaw03_Ref.f
  refine evsome ?_
  rw [right_ref]
  refine evsome ?_
  show Ev _ (Cl.right l[i].cl && rights (kc (l.drop (i + 1))))
  by_cases hr : Cl.right l[i].cl = true
  ·refine evpos hr ?_
   rw [w64 (by omega), hr]
   exact withylaw04_right.l0_ev l hl d (i + 1) (by omega)
  ·refine evneg hr (evof (Ev.now _) ?_)
   rw [Bool.eq_false_iff.2 hr]; rfl
theorem withylaw04_right.ev (l : List S24) (hl : l.length ≤ 1000000) : Ev (fun k => withylaw04_right.f k l) (rights (kc l)) := withylaw04_right.l0_ev l hl l.length 0 (by omega)
theorem rd79 {l : List S79} {i : Nat} (h : i < l.length) : rd_T79 l (i : Int) = l[i] := by
 show l.getD i z79 = _
 simp [List.getD, h]
theorem c79_inj {a b : List S24} (h : a.map c79 = b.map c79) : a = b := by
 have : ∀ l : List S24, (l.map c79).map (fun x : S79 => (⟨x.f0, x.f1, x.f2, x.f3⟩ : S24)) = l := fun l => by
  induction l with
  | nil => rfl
  | cons c l ih => simp only [List.map_cons, ih]; rfl
 rw [← this a, h, this b]
theorem eq79 (x y : S79) : (!(x.f0 == y.f0) || (!(x.f1 == y.f1) || (!(x.f2 == y.f2) || !(x.f3.toList == y.f3.toList)))) = true ↔ x ≠ y := by
 obtain ⟨a, b, c, d⟩ := x
 obtain ⟨a', b', c', d'⟩ := y
 simp only [B_toList, Bool.or_eq_true, Bool.not_eq_true', beq_eq_false_iff_ne, ne_eq, S79.mk.injEq]
 constructor
 ·rintro (h | h | h | h) ⟨e1, e2, e3, e4⟩
  ·exact h e1
  ·exact h e2
  ·exact h e3
  ·exact h (by rw [e4])
 ·intro h
  rcases Classical.em (a = a') with e1 | e1
  ·rcases Classical.em (b = b') with e2 | e2
   ·rcases Classical.em (c = c') with e3 | e3
    ·exact .inr (.inr (.inr fun e4 => h ⟨e1, e2, e3, ba_ext e4⟩))
    ·exact .inr (.inr (.inl e3))
   ·exact .inr (.inl e2)
  ·exact .inl e1
theorem withyref04_Same.l0_ev (a b : List S79) (hl : a.length ≤ 1000000) (hab : a.length = b.length) : ∀ d i : Nat, i + d = a.length → ∃ r, Ev (fun k => withyref04_Same.l0 k a b (i : Int)) r ∧ (r = true ↔ a.drop i = b.drop i)
 | 0, i, h => by
  refine ⟨true, Ev.step (fun k => withyref04_Same.l0.eq_2 ..) (evneg (by omega) (Ev.now _)), ?_⟩
  rw [List.drop_eq_nil_of_le (by omega), List.drop_eq_nil_of_le (by omega)]; simp
 | d + 1, i, h => by
  have hi : i < a.length := by omega
  have hj : i < b.length := by omega
  obtain ⟨r, hr, hq⟩ := withyref04_Same.l0_ev a b hl hab d (i + 1) (by omega)
  rw [List.drop_eq_getElem_cons hi, List.drop_eq_getElem_cons hj]
  by_cases e : a[i] = b[i]
  ·refine ⟨r, Ev.step (fun k => withyref04_Same.l0.eq_2 ..) (evpos (by omega) (evpos (by omega) (evpos (by omega) (evneg ?_ ?_)))), ?_⟩
   ·rw [rd79 hi, rd79 hj, eq79]; exact fun h => h e
   ·rw [w64 (by omega)]; exact hr
   ·rw [hq, e]; exact ⟨fun h => by rw [h], fun h => (List.cons.inj h).2⟩
  ·refine ⟨false, Ev.step (fun k => withyref04_Same.l0.eq_2 ..) (evpos (by omega) (evpos (by omega) (evpos (by omega) (evpos ?_ (Ev.now _))))), ?_⟩
   ·rw [rd79 hi, rd79 hj, eq79]; exact e
   ·exact ⟨fun h => absurd h (by decide), fun h => absurd (List.cons.inj h).1 e⟩
theorem withyref04_Same.ev (a b : List S79) (hl : a.length ≤ 1000000) : ∃ r, Ev (fun k => withyref04_Same.f k a b) r ∧ (r = true ↔ a = b) := by
 by_cases hab : a.length = b.length
 ·obtain ⟨r, hr, hq⟩ := withyref04_Same.l0_ev a b hl hab a.length 0 (by omega)
  exact ⟨r, evpos (by omega) hr, by simpa using hq⟩
 ·exact ⟨false, evneg (by omega) (Ev.now _), by simp; exact fun e => hab (by rw [e])⟩
theorem same_ev (a b : List S24) (ha : a.length ≤ 1000000) : ∃ r, Ev (fun k => withyref04_Same.f k (a.map c79) (b.map c79)) r ∧ (r = true ↔ a = b) := by
 obtain ⟨r, h1, h2⟩ := withyref04_Same.ev (a.map c79) (b.map c79) (by simpa using ha)
 exact ⟨r, h1, h2.trans ⟨c79_inj, fun e => by rw [e]⟩⟩
def texts (l : List S24) : Prop := ∀ x ∈ l, x.f3.size ≤ 1000000
def kputR (l : List Cl) : ByteArray × Int := if rights l = true then (⟨(kput l).toArray⟩, 0) else (⟨#[]⟩, 3)
theorem kbody_take (l : List Cl) (i : Nat) : (kbody (l.take i)).length ≤ (kbody l).length := by
 have : kbody l = kbody (l.take i) ++ kbody (l.drop i) := by rw [← kbody_append, List.take_append_drop]
 rw [this, List.length_append]; omega
theorem kc_take (l : List S24) (i : Nat) : kc (l.take i) = (kc l).take i := List.map_take
theorem kc_length (l : List S24) : (kc l).length = l.length := List.length_map _
theorem key_Put.l0_ev (l : List S24) (hw : wfs (kc l)) (ht : texts l) (hb : (kbody (kc l)).length ≤ 1000000) (hl : l.length ≤ 1000000) :
  ∀ d i : Nat, i + d = l.length → rights (kc (l.take i)) = true → Ev (fun k => key_Put.l0 k (⟨(kbody (kc (l.take i))).toArray⟩ : ByteArray) l (l.length : Int) (i : Int)) (kputR (kc l))
 | 0, i, h, hr => by
  refine Ev.step (fun k => key_Put.l0.eq_2 ..) ?_
  rw [List.take_of_length_le (by omega)] at hr ⊢
  refine evneg (by omega) (evsome (evpos ?_ (evof (Ev.now _) ?_)))
  ·show (kbody (kc l)).length + 1 ≤ _; omega
  ·unfold kputR
   rw [if_pos hr, sn_eq, str_cat]; rfl
 | d + 1, i, h, hr => by
  have hi : i < l.length := by omega
  refine Ev.step (fun k => key_Put.l0.eq_2 ..) ?_
  refine evpos (by omega) (evpos (by omega) (evpos (by omega) ?_))
  rw [rd24 hi]
  have hx := List.getElem_mem hi
  have hwx : l[i].cl.wf := hw _ (List.mem_map_of_mem hx)
  refine evbind (col_Put.ev l[i].f0 l[i].f1 l[i].f2 l[i].f3 hwx (ht _ hx)) ?_
  show Ev (fun n => if (putR l[i].cl).2 = 0 then (if (kbody (kc (l.take i))).length + (putR l[i].cl).1.size ≤ 9223372036854775807 then (key_Put.l0 n (⟨(kbody (kc (l.take i))).toArray⟩ ++ (putR l[i].cl).1) l (l.length : Int) (wrap64 ((i : Int) + 1))) else (none)) else (some ((⟨#[]⟩ : ByteArray), (putR l[i].cl).2))) _
  unfold putR
  have hk : kc (l.take (i + 1)) = kc (l.take i) ++ [l[i].cl] := by unfold kc; rw [take_succ24 hi, List.map_append]; rfl
  by_cases hq : l[i].cl.right = true
  ·rw [if_pos hq]
   have hlen := kbody_take (kc l) (i + 1)
   rw [← kc_take, hk, kbody_append, List.length_append] at hlen
   have hone : kbody [l[i].cl] = cput l[i].cl := by simp [kbody]
   rw [hone] at hlen
   refine evpos rfl (evpos (by show _ + (cput l[i].cl).length ≤ _; omega) ?_)
   rw [str_cat, w64 (by omega)]
   have ih := key_Put.l0_ev l hw ht hb hl d (i + 1) (by omega) (by rw [hk]; simp [rights] at hr ⊢; exact ⟨hr, hq⟩)
   rw [hk, kbody_append, hone] at ih
   exact ih
  ·rw [if_neg hq]
   refine evneg (by show ¬ (3 : Int) = 0; decide) (evof (Ev.now _) ?_)
   unfold kputR
   rw [if_neg]
   intro hall
   rw [rights_iff] at hall
   exact hq (hall _ (List.mem_map_of_mem hx))
theorem key_Put.ev (l : List S24) (hw : wfs (kc l)) (ht : texts l) (hb : (kbody (kc l)).length ≤ 1000000) (hl : l.length ≤ 1000000) : Ev (fun k => key_Put.f k l) (kputR (kc l)) :=
 key_Put.l0_ev l hw ht hb hl l.length 0 (by omega) rfl
def places : Nat → List Nat → List Int
 | _, [] => []
 | a, m :: r => ((a + m : Nat) : Int) :: places (a + m) r
def kreadR (g : List (Cl × Nat) × Nat) : List S24 × List Int × Int := if g.2 = 0 then (g.1.map fun p => Cl.s24 p.1, 0 :: places 0 (g.1.map Prod.snd), 0) else ([], [], g.2)
theorem cget_err_pos {l : Bytes} (h : (cget l).2.2 = 0) : 0 < (cget l).2.1 ∧ (cget l).2.1 ≤ l.length := by
 obtain ⟨_, _, _, h4, h5⟩ := cget_ok (l := l) (c := (cget l).1) (n := (cget l).2.1) (by rw [← h])
 exact ⟨h4, h5⟩
theorem key_read.it_ev (s : ByteArray) (hs : s.size ≤ 1000000) : ∀ n i : Nat, i ≤ s.size → s.size - i < n → ∃ xs, Ev (fun k => key_read.it k s (i : Int)) xs ∧
  ((kget n ((B s).drop i)).2 = 0 → (∀ x ∈ xs, x.isOk) ∧ xs.map Fd.col = (kget n ((B s).drop i)).1.map (fun p => Cl.s24 p.1) ∧ xs.map Fd.to = places i ((kget n ((B s).drop i)).1.map Prod.snd) ∧ (xs.getLast?.map Fd.to).getD (i : Int) = (s.size : Int) - 1) ∧
  ((kget n ((B s).drop i)).2 ≠ 0 → (∃ a, xs.getLast? = some (.bad ((kget n ((B s).drop i)).2 : Int) a)) ∨ ((∀ x ∈ xs, x.isOk) ∧ (kget n ((B s).drop i)).2 = 3 ∧ (xs.getLast?.map Fd.to).getD (i : Int) ≠ (s.size : Int) - 1)) := by
 intro n
 induction n with
 | zero => intro i hi hn; omega
 | succ n ih =>
  intro i hi hn
  have hG := col_Get.ev s hs i hi
  by_cases he : i = s.size
  ·have hd : (B s).drop i = [] := dn_end (by omega)
   rw [hd] at hG ⊢
   refine ⟨[Fd.bad 7 (i : Int)], Ev.step (fun k => key_read.it.eq_2 ..) (evpos (.inl (by omega)) (evbind hG (evneg (by show ¬ ((7 : Nat) : Int) = 0; decide) (evof (Ev.now _) rfl)))), fun h => absurd (show (7 : Nat) = 0 from h) (by decide), fun _ => .inl ⟨(i : Int), rfl⟩⟩
  obtain ⟨c, r, h1, h2, h3, h4⟩ := dn (s := s) (i := i) (by omega)
  rw [h1] at hG ⊢
  by_cases hc : c = 1
  ·subst hc
   have hx : Ev (fun k => key_read.it k s (i : Int)) [] := Ev.step (fun k => key_read.it.eq_2 ..) (evneg (by rw [h2]; rintro (q | q); omega; exact q rfl) (Ev.now _))
   refine ⟨[], hx, ?_, ?_⟩
   ·intro hz
    have hr : r = [] := by
     rw [kget, if_pos rfl] at hz
     by_cases hr : r = []
     ·exact hr
     ·rw [if_neg hr] at hz; exact absurd hz (by decide)
    subst hr
    refine ⟨fun x hx => by simp at hx, rfl, rfl, ?_⟩
    show (i : Int) = _
    simp at h4; omega
   ·intro hz
    have hr : r ≠ [] := by
     intro hr; subst hr; exact hz rfl
    refine .inr ⟨fun x hx => by simp at hx, by rw [kget, if_pos rfl, if_neg hr], ?_⟩
    show ¬ (i : Int) = _
    have : r.length ≠ 0 := fun e => hr (List.eq_nil_of_length_eq_zero e)
    omega
  have hcond : (i : Int) = (s.size : Int) ∨ bt s (i : Int) ≠ 1 := .inr (by rw [h2]; exact fun e => hc (UInt8.toNat_inj.mp (by show c.toNat = 1; omega)))
  by_cases h0 : (cget (c :: r)).2.2 = 0
  ·obtain ⟨p1, p2⟩ := cget_err_pos h0
   have hlen : (c :: r).length = s.size - i := by rw [← h1, List.length_drop, B_len]
   obtain ⟨xs, e1, e2, e3⟩ := ih (i + (cget (c :: r)).2.1) (by omega) (by omega)
   have hd : (B s).drop (i + (cget (c :: r)).2.1) = (c :: r).drop (cget (c :: r)).2.1 := by rw [← List.drop_drop, h1]
   rw [hd] at e2 e3
   have hk : kget (n + 1) (c :: r) = (if (kget n ((c :: r).drop (cget (c :: r)).2.1)).2 = 0 then (((cget (c :: r)).1, (cget (c :: r)).2.1) :: (kget n ((c :: r).drop (cget (c :: r)).2.1)).1, 0) else ([], (kget n ((c :: r).drop (cget (c :: r)).2.1)).2)) := by
    rw [kget, if_neg hc, if_pos h0]
   generalize hN : (cget (c :: r)).2.1 = N at *
   generalize hC : (cget (c :: r)).1 = C at *
   generalize hg : kget n ((c :: r).drop N) = G at *
   have hcR : cR (cget (c :: r)) i = (C.k, C.i, C.u, ⟨C.s.toArray⟩, ((i + N : Nat) : Int), 0) := by
    unfold cR; rw [h0, hC, hN]; rfl
   rw [hcR] at hG
   have hx : Ev (fun k => key_read.it k s (i : Int)) (Fd.ok C.k C.i C.u ⟨C.s.toArray⟩ ((i + N : Nat) : Int) :: xs) := by
    refine Ev.step (fun k => key_read.it.eq_2 ..) (evpos hcond (evbind hG (evpos rfl (evpos ⟨by show (i : Int) < ((i + N : Nat) : Int); omega, by show ((i + N : Nat) : Int) ≤ (s.size : Int); omega⟩ ?_))))
    obtain ⟨k0, hk0⟩ := e1
    exact ⟨k0, fun k hk => by show Option.map (fun x => Fd.ok C.k C.i C.u ⟨C.s.toArray⟩ ((i + N : Nat) : Int) :: x) (key_read.it k s ((i + N : Nat) : Int)) = _; rw [show key_read.it k s ((i + N : Nat) : Int) = some xs from hk0 k hk]; rfl⟩
   refine ⟨_, hx, ?_, ?_⟩
   ·intro hz
    rw [hk] at hz ⊢
    have hG0 : G.2 = 0 := by
     by_cases q : G.2 = 0
     ·exact q
     ·rw [if_neg q] at hz; exact absurd hz q
    rw [if_pos hG0]
    obtain ⟨a1, a2, a3, a4⟩ := e2 hG0
    refine ⟨?_, ?_, ?_, ?_⟩
    ·intro x hx
     rcases List.mem_cons.1 hx with rfl | hx
     ·trivial
     ·exact a1 x hx
    ·show (⟨C.k, C.i, C.u, ⟨C.s.toArray⟩⟩ : S24) :: xs.map Fd.col = Cl.s24 C :: G.1.map _
     rw [a2]; rfl
    ·show ((i + N : Nat) : Int) :: xs.map Fd.to = ((i + N : Nat) : Int) :: places (i + N) _
     rw [a3]
    ·cases xs with
     | nil => exact a4
     | cons x xs =>
      rw [List.getLast?_cons_cons]
      obtain ⟨y, hy⟩ : ∃ y, (x :: xs).getLast? = some y := ⟨_, List.getLast?_eq_some_getLast (by simp)⟩
      rw [hy] at a4 ⊢; exact a4
   ·intro hz
    rw [hk] at hz ⊢
    have hG0 : G.2 ≠ 0 := by
     intro q; rw [if_pos q] at hz; exact hz rfl
    rw [if_neg hG0]
    rcases e3 hG0 with ⟨a, ha⟩ | ⟨a1, a2, a3⟩
    ·refine .inl ⟨a, ?_⟩
     cases xs with
     | nil => simp at ha
     | cons x xs => rw [List.getLast?_cons_cons]; exact ha
    ·refine .inr ⟨?_, a2, ?_⟩
     ·intro x hx
      rcases List.mem_cons.1 hx with rfl | hx
      ·trivial
      ·exact a1 x hx
     ·cases xs with
      | nil => exact a3
      | cons x xs =>
       rw [List.getLast?_cons_cons]
       obtain ⟨y, hy⟩ : ∃ y, (x :: xs).getLast? = some y := ⟨_, List.getLast?_eq_some_getLast (by simp)⟩
       rw [hy] at a3 ⊢; exact a3
  ·have hcR : (cR (cget (c :: r)) i).2.2.2.2.2 = (((cget (c :: r)).2.2 : Nat) : Int) := rfl
   have hx : Ev (fun k => key_read.it k s (i : Int)) [Fd.bad (((cget (c :: r)).2.2 : Nat) : Int) (i : Int)] := by
    refine Ev.step (fun k => key_read.it.eq_2 ..) (evpos hcond (evbind hG (evneg (by rw [hcR]; omega) (Ev.now _))))
   have hk : kget (n + 1) (c :: r) = ([], (cget (c :: r)).2.2) := by rw [kget, if_neg hc, if_neg h0]
   rw [hk]
   exact ⟨_, hx, fun hz => absurd hz h0, fun _ => .inl ⟨_, rfl⟩⟩
theorem key_read.ev (s : ByteArray) (hs : s.size ≤ 999999) : Ev (fun k => key_read.f k s) (kreadR (kget (s.size + 1) (B s))) := by
 obtain ⟨xs, e1, e2, e3⟩ := key_read.it_ev s (by omega) (s.size + 1) 0 (by omega) (by omega)
 rw [List.drop_zero] at e2 e3
 unfold key_read.f
 refine evpos hs (evbind e1 (evof (Ev.now _) ?_))
 generalize kget (s.size + 1) (B s) = g at *
 unfold kreadR
 by_cases h : g.2 = 0
 ·obtain ⟨a1, a2, a3, a4⟩ := e2 h
  rw [if_pos h, read_ok s a1]
  have : lastTo xs = (s.size : Int) - 1 := a4
  rw [if_pos this, a2, a3]
 ·rw [if_neg h]
  rcases e3 h with ⟨a, ha⟩ | ⟨a1, a2, a3⟩
  ·exact read_bad s ha
  ·rw [read_ok s a1, if_neg (show ¬ lastTo xs = _ from a3), a2]; rfl
def kgetR (g : List (Cl × Nat) × Nat) : List S24 × Int := if g.2 = 0 then (g.1.map fun p => Cl.s24 p.1, 0) else ([], g.2)
theorem key_Get.ev (s : ByteArray) (hs : s.size ≤ 999999) : Ev (fun k => key_Get.f k s) (kgetR (kget (s.size + 1) (B s))) := by
 unfold key_Get.f
 refine evbind (key_read.ev s hs) (evof (Ev.now _) ?_)
 unfold kreadR kgetR
 split <;> rfl
end Go.Proofs.YtimnjdgelencpaaDoor.A
