/- The document's keys (withyref04) say what the plain words say. Condition: whole numbers in their kinds' ranges, texts and keys of at most a million bytes. -/
import Derived.Test.YtimnjdgelencpaaDoorRef3
import Derived.Test.YtimnjdgelencpaaDoorKAux
import Derived.Test.YtimnjdgelencpaaDoorAR4
namespace Go.Proofs.YtimnjdgelencpaaDoor.A
open Go Go.RowKit Go.Proofs Go.Proofs.YtimnjdgelencpaaDoorW Go.Proofs.YtimnjdgelencpaaDoorW.PrintWords Go.Proofs.YtimnjdgelencpaaDoorW.PrintMore Go.Proofs.YtimnjdgelencpaaDoor.Spec
set_option linter.unusedSimpArgs false
set_option linter.unusedVariables false
theorem rdc79 {l : List S24} {i : Nat} (h : i < l.length) : rd_T79 (l.map c79) (i : Int) = c79 l[i] := by
 rw [rd79 (by simpa using h)]; simp
theorem withyref04_Put.l0_ev (l : List S24) (hw : wfs (kc l)) (ht : texts l) (hb : (kbody (kc l)).length ≤ 1000000) (hl : l.length ≤ 1000000) :
  ∀ d i : Nat, i + d = l.length → rights (kc (l.take i)) = true → Ev (fun k => withyref04_Put.l0 k (l.map c79) (⟨(kbody (kc (l.take i))).toArray⟩ : ByteArray) (i : Int)) (kputR (kc l))
 | 0, i, h, hr => by
  refine Ev.step (fun k => withyref04_Put.l0.eq_2 ..) ?_
  rw [List.take_of_length_le (by omega)] at hr ⊢
  refine evneg (by rw [List.length_map]; omega) (evpos ?_ (evof (Ev.now _) ?_))
  ·show (kbody (kc l)).length + 1 ≤ _; omega
  ·unfold kputR
   rw [if_pos hr, show (⟨#[1]⟩ : ByteArray) = ⟨[1].toArray⟩ from rfl, str_cat]; rfl
 | d + 1, i, h, hr => by
  have hi : i < l.length := by omega
  refine Ev.step (fun k => withyref04_Put.l0.eq_2 ..) ?_
  refine evpos (by rw [List.length_map]; omega) (evpos (by omega) ?_)
  rw [rdc79 hi]
  have hx := List.getElem_mem hi
  have hwx : l[i].cl.wf := hw _ (List.mem_map_of_mem hx)
  refine evbind (withyref03_Put.ev l[i].f0 l[i].f1 l[i].f2 l[i].f3 hwx (ht _ hx)) ?_
  show Ev (fun n => if (putR l[i].cl).2 = 0 then (if (kbody (kc (l.take i))).length + (putR l[i].cl).1.size ≤ 9223372036854775807 then (withyref04_Put.l0 n (l.map c79) (⟨(kbody (kc (l.take i))).toArray⟩ ++ (putR l[i].cl).1) (wrap64 ((i : Int) + 1))) else (none)) else (some ((⟨#[]⟩ : ByteArray), (putR l[i].cl).2))) _
  unfold putR
  have hk : kc (l.take (i + 1)) = kc (l.take i) ++ [l[i].cl] := by unfold kc; rw [take_succ24 hi, List.map_append]; rfl
  by_cases hq : l[i].cl.right = true
  ·rw [if_pos hq]
   have hlen := kbody_take (kc l) (i + 1)
   rw [← kc_take, hk, kbody_append, List.length_append] at hlen
   have hone : kbody [l[i].cl] = cput l[i].cl := by simp [kbody]
   rw [hone] at hlen
   refine evpos rfl (evpos (by show _ + (cput l[i].cl).length ≤ _; omega) ?_)
   rw [str_cat, w64 (by omega)]
   have ih := withyref04_Put.l0_ev l hw ht hb hl d (i + 1) (by omega) (by rw [hk]; simp [rights] at hr ⊢; exact ⟨hr, hq⟩)
   rw [hk, kbody_append, hone] at ih
   exact ih
  ·rw [if_neg hq]
   refine evneg (by show ¬ (3 : Int) = 0; decide) (evof (Ev.now _) ?_)
   unfold kputR
   rw [if_neg]
   intro hall
   rw [rights_iff] at hall
   exact hq (hall _ (List.mem_map_of_mem hx))
theorem withyref04_Put.ev (l : List S24) (hw : wfs (kc l)) (ht : texts l) (hb : (kbody (kc l)).length ≤ 1000000) (hl : l.length ≤ 1000000) : Ev (fun k => withyref04_Put.f k (l.map c79)) (kputR (kc l)) :=
 withyref04_Put.l0_ev l hw ht hb hl l.length 0 (by omega) rfl
def kgetR9 (x : List S79) (g : List (Cl × Nat) × Nat) : List S79 × Int := if g.2 = 0 then (x ++ g.1.map fun p => c79 (Cl.s24 p.1), 0) else ([], g.2)
theorem withyref04_Get.l0_ev (s : ByteArray) (hs : s.size ≤ 1000000) : ∀ (n i : Nat) (x : List S79), i ≤ s.size → s.size - i < n → x.length ≤ i → Ev (fun k => withyref04_Get.l0 k s x (i : Int)) (kgetR9 x (kget n ((B s).drop i))) := by
 intro n
 induction n with
 | zero => intro i x hi hn hx; omega
 | succ n ih =>
  intro i x hi hn hx
  refine Ev.step (fun k => withyref04_Get.l0.eq_2 ..) ?_
  by_cases he : i = s.size
  ·rw [dn_end (by omega)]
   exact evpos (by omega) (evof (Ev.now _) rfl)
  refine evneg (by omega) (evpos (by omega) (evpos (by omega) ?_))
  obtain ⟨c, r, h1, h2, h3, h4⟩ := dn (s := s) (i := i) (by omega)
  rw [h2, h1]
  have hG := withyref03_Get.ev s hs i hi
  rw [h1] at hG
  by_cases hc : c = 1
  ·subst hc
   refine evpos rfl (Ev.step (fun k => withyref04_Get.j1.eq_2 ..) ?_)
   have ew : wrap64 ((s.size : Int) - 1) = (s.size : Int) - 1 := w64 (by omega)
   rw [ew, kget, if_pos rfl]
   by_cases hr : r = []
   ·subst hr
    simp at h4
    rw [if_pos rfl]
    refine evpos (by rw [beq_iff_eq]; omega) (evof (Ev.now _) ?_)
    simp [kgetR9]
   ·have : r.length ≠ 0 := fun e => hr (List.eq_nil_of_length_eq_zero e)
    rw [if_neg hr]
    refine evneg (by rw [beq_iff_eq]; omega) (evpos (by omega) (evpos (by omega) ?_))
    rw [h2]
    exact evpos rfl (evof (Ev.now _) rfl)
  have hc' : ¬ (c.toNat : Int) = 1 := fun e => hc (UInt8.toNat_inj.mp (by show c.toNat = 1; omega))
  refine evneg hc' (Ev.step (fun k => withyref04_Get.j1.eq_2 ..) (evneg (by decide) (evpos (by omega) (evpos (by omega) ?_))))
  rw [h2]
  refine evneg hc' (evbind hG ?_)
  rw [kget, if_neg hc]
  by_cases h0 : (cget (c :: r)).2.2 = 0
  ·obtain ⟨p1, p2⟩ := cget_err_pos h0
   have hlen : (c :: r).length = s.size - i := by rw [← h1, List.length_drop, B_len]
   have hd : (B s).drop (i + (cget (c :: r)).2.1) = (c :: r).drop (cget (c :: r)).2.1 := by rw [← List.drop_drop, h1]
   have e1 := ih (i + (cget (c :: r)).2.1) (x ++ [c79 (Cl.s24 (cget (c :: r)).1)]) (by omega) (by omega) (by simp; omega)
   rw [hd] at e1
   rw [if_pos h0]
   refine evpos (by show (((cget (c :: r)).2.2 : Nat) : Int) = 0; omega) (evpos (by omega) ?_)
   have hto : (cR (cget (c :: r)) i).2.2.2.2.1 = ((i + (cget (c :: r)).2.1 : Nat) : Int) := by unfold cR; rw [if_pos h0]
   rw [hto]
   refine evof e1 ?_
   unfold kgetR9
   by_cases hg : (kget n ((c :: r).drop (cget (c :: r)).2.1)).2 = 0
   ·simp only [if_pos hg, if_true, List.map_cons, List.append_assoc, List.cons_append, List.nil_append]
   ·simp only [if_neg hg]
  ·rw [if_neg h0]
   refine evneg (by show ¬ (((cget (c :: r)).2.2 : Nat) : Int) = 0; omega) (evof (Ev.now _) ?_)
   unfold kgetR9
   rw [if_neg h0]; rfl
theorem withyref04_Get.ev (s : ByteArray) (hs : s.size ≤ 1000000) : Ev (fun k => withyref04_Get.f k s) (kgetR9 [] (kget (s.size + 1) (B s))) := by
 have := withyref04_Get.l0_ev s hs (s.size + 1) 0 [] (by omega) (by omega) (by simp)
 rw [List.drop_zero] at this
 exact this
theorem withyref04_Part.ev (s : ByteArray) (hs : s.size ≤ 999999) (a : Int) : ∃ r, Ev (fun k => withyref04_Part.f k s a) r ∧ Ev (fun k => key_Part.f k s a) r := by
 have hg := withyref04_Get.ev s (by omega)
 by_cases h : (kget (s.size + 1) (B s)).2 = 0
 ·obtain ⟨e, hp, hr, hw⟩ := kread_parts h rfl
  unfold kgetR9 at hg
  rw [if_pos h, List.nil_append] at hg
  have hcols : (kget (s.size + 1) (B s)).1.map (fun p => c79 (Cl.s24 p.1)) = (((kget (s.size + 1) (B s)).1.map Prod.fst).map Cl.s24).map c79 := by rw [List.map_map, List.map_map]; rfl
  rw [hcols] at hg
  have hll : (kget (s.size + 1) (B s)).1.length = ((kget (s.size + 1) (B s)).1.map Prod.fst).length := (List.length_map _).symm
  have hkp := key_Part.ev s hs _ h rfl
  have hko := key_Part.out s hs h a
  rw [hll] at hko
  generalize (kget (s.size + 1) (B s)).1.map Prod.fst = l at *
  have hlm : ((l.map Cl.s24).map c79).length = l.length := by rw [List.length_map, List.length_map]
  have hsz := congrArg List.length hp
  rw [kput_len, B_len] at hsz
  have hkl := kbody_len l
  by_cases ha : a < 0 ∨ (l.length : Int) < a
  ·refine ⟨_, ?_, hko ha⟩
   unfold withyref04_Part.f
   refine evbind hg (evpos rfl ?_)
   by_cases h0 : a < 0
   ·exact evpos h0 (Ev.now _)
   ·exact evneg h0 (evpos (by show a > (((l.map Cl.s24).map c79).length : Int); rw [hlm]; omega) (Ev.now _))
  ·obtain ⟨i, rfl⟩ := Int.eq_ofNat_of_zero_le (show 0 ≤ a by omega)
   have hi : i ≤ l.length := by omega
   refine ⟨_, ?_, hkp i hi⟩
   unfold withyref04_Part.f
   refine evbind hg (evpos rfl (evneg (by omega) (evneg (by show ¬ (i : Int) > (((l.map Cl.s24).map c79).length : Int); rw [hlm]; omega) (evpos (by omega) (evpos (by show (i : Int) ≤ (((l.map Cl.s24).map c79).length : Int); rw [hlm]; omega) ?_)))))
   have htk : ((l.map Cl.s24).map c79).take ((i : Int)).toNat = ((l.take i).map Cl.s24).map c79 := by
    rw [show ((i : Int)).toNat = i from rfl, List.map_take, List.map_take]
   have hbt := kbody_take l i
   have hput := withyref04_Put.ev ((l.take i).map Cl.s24) (by rw [kc_s24]; exact wfs_take hw i) (by
    intro x hx
    obtain ⟨c, hc, rfl⟩ := List.mem_map.1 hx
    have h1 := text_le ((rights_iff l).1 hr c (List.mem_of_mem_take hc))
    have h2 := kbody_mem (List.mem_of_mem_take hc)
    show c.s.length ≤ _
    omega) (by rw [kc_s24]; omega) (by rw [List.length_map, List.length_take]; omega)
   rw [kc_s24] at hput
   unfold kputR at hput
   rw [if_pos (rights_take hr i)] at hput
   show Ev (fun n => (withyref04_Put.f n (((l.map Cl.s24).map c79).take ((i : Int)).toNat)).bind fun bt443 => (if 0 ≤ (wrap64 ((bt443.1.size : Int) - 1)) then (if (wrap64 ((bt443.1.size : Int) - 1)) ≤ (bt443.1.size : Int) then (some (bt443.1.extract 0 ((wrap64 ((bt443.1.size : Int) - 1)) : Int).toNat, 0)) else (none)) else (none))) _
   rw [htk]
   refine evbind hput ?_
   have hz : (⟨(kput (l.take i)).toArray⟩ : ByteArray).size = (kbody (l.take i)).length + 1 := kput_len _
   have ew : wrap64 (((⟨(kput (l.take i)).toArray⟩ : ByteArray).size : Int) - 1) = (((kbody (l.take i)).length : Nat) : Int) := by rw [hz, w64 (by omega)]; omega
   show Ev (fun _ => if 0 ≤ (wrap64 (((⟨(kput (l.take i)).toArray⟩ : ByteArray).size : Int) - 1)) then (if (wrap64 (((⟨(kput (l.take i)).toArray⟩ : ByteArray).size : Int) - 1)) ≤ ((⟨(kput (l.take i)).toArray⟩ : ByteArray).size : Int) then (some ((⟨(kput (l.take i)).toArray⟩ : ByteArray).extract 0 ((wrap64 (((⟨(kput (l.take i)).toArray⟩ : ByteArray).size : Int) - 1)) : Int).toNat, (0 : Int))) else (none)) else (none)) _
   rw [ew]
   refine evpos (by omega) (evpos (by rw [hz]; omega) (evof (Ev.now _) ?_))
   have : (⟨(kput (l.take i)).toArray⟩ : ByteArray).extract 0 (((kbody (l.take i)).length : Nat) : Int).toNat = ⟨(kbody (l.take i)).toArray⟩ := ba_ext (by
    rw [B_take, B_mk, B_mk]; exact List.take_left' rfl)
   rw [this]
 ·unfold kgetR9 at hg
  rw [if_neg h] at hg
  refine ⟨_, ?_, key_Part.bad s hs h a⟩
  unfold withyref04_Part.f
  exact evbind hg (evneg (by show ¬ ((_ : Nat) : Int) = 0; omega) (Ev.now _))
theorem kcmp_lens : ∀ a b : List Cl, a = [] ∨ b = [] → kcmp a b = if a.length < b.length then -1 else if a.length > b.length then 1 else 0
 | [], [], _ => rfl
 | [], _ :: _, _ => by simp [kcmp]
 | _ :: _, [], _ => by simp [kcmp]
 | _ :: _, _ :: _, h => by rcases h with h | h <;> cases h
theorem withyref04_Compare.l0_ev (a b : List S24) (ha : a.length ≤ 1000000) (hra : rights (kc a) = true) (hrb : rights (kc b) = true) : ∀ d i : Nat, i + d = min a.length b.length → Ev (fun k => withyref04_Compare.l0 k (a.map c79) (b.map c79) (i : Int)) (kcmp (kc (a.drop i)) (kc (b.drop i)))
 | 0, i, h => by
  have hfin : Ev (fun k => withyref04_Compare.j1 k (a.map c79) (b.map c79) (i : Int) false) (kcmp (kc (a.drop i)) (kc (b.drop i))) := by
   refine Ev.step (fun k => withyref04_Compare.j1.eq_2 ..) (evneg (by decide) ?_)
   have hnil : kc (a.drop i) = [] ∨ kc (b.drop i) = [] := by
    by_cases h1 : a.length ≤ i
    ·exact .inl (by rw [List.drop_eq_nil_of_le h1]; rfl)
    ·exact .inr (by rw [List.drop_eq_nil_of_le (by omega)]; rfl)
   rw [kcmp_lens _ _ hnil, kc_length, kc_length, List.length_drop, List.length_drop, List.length_map, List.length_map]
   by_cases h1 : a.length < b.length
   ·refine evpos (by omega) (evof (Ev.now _) ?_)
    rw [if_pos (by omega)]
   ·refine evneg (by omega) ?_
    by_cases h2 : a.length > b.length
    ·refine evpos (by omega) (evof (Ev.now _) ?_)
     rw [if_neg (by omega), if_pos (by omega)]
    ·refine evneg (by omega) (evof (Ev.now _) ?_)
     rw [if_neg (by omega), if_neg (by omega)]
  refine Ev.step (fun k => withyref04_Compare.l0.eq_2 ..) ?_
  by_cases h1 : i < a.length
  ·refine evpos (by rw [List.length_map]; omega) ?_
   have : decide ((i : Int) < ((b.map c79).length : Int)) = false := by rw [List.length_map]; simp; omega
   rw [this]; exact hfin
  ·exact evneg (by rw [List.length_map]; omega) hfin
 | d + 1, i, h => by
  have hi : i < a.length := by omega
  have hj : i < b.length := by omega
  refine Ev.step (fun k => withyref04_Compare.l0.eq_2 ..) (evpos (by rw [List.length_map]; omega) ?_)
  have : decide ((i : Int) < ((b.map c79).length : Int)) = true := by rw [List.length_map]; simp; omega
  rw [this]
  refine Ev.step (fun k => withyref04_Compare.j1.eq_2 ..) (evpos rfl (evpos (by omega) (evpos (by rw [List.length_map]; omega) (evpos (by rw [List.length_map]; omega) ?_))))
  rw [rdc79 hi, rdc79 hj, List.drop_eq_getElem_cons hi, List.drop_eq_getElem_cons hj]
  have r1 : a[i].cl.right = true := (rights_iff _).1 hra _ (List.mem_map_of_mem (List.getElem_mem hi))
  have r2 : b[i].cl.right = true := (rights_iff _).1 hrb _ (List.mem_map_of_mem (List.getElem_mem hj))
  show Ev (fun n => (withyref03_Compare.f a[i].f0 a[i].f1 a[i].f2 a[i].f3 b[i].f0 b[i].f1 b[i].f2 b[i].f3).bind fun t478 => (if t478 = 0 then (withyref04_Compare.l0 n (a.map c79) (b.map c79) (wrap64 ((i : Int) + 1))) else (some t478))) (if ccmp a[i].cl b[i].cl = 0 then kcmp (kc (a.drop (i + 1))) (kc (b.drop (i + 1))) else ccmp a[i].cl b[i].cl)
  rw [withyref03_Compare.at_ _ _ _ _ _ _ _ _ r1 r2]
  refine evsome ?_
  by_cases h0 : ccmp a[i].cl b[i].cl = 0
  ·rw [if_pos h0]
   refine evpos h0 ?_
   rw [w64 (by omega)]
   exact withyref04_Compare.l0_ev a b ha hra hrb d (i + 1) (by omega)
  ·rw [if_neg h0]
   exact evneg h0 (Ev.now _)
theorem withyref04_Compare.ev (a b : List S24) (ha : a.length ≤ 1000000) (hra : rights (kc a) = true) (hrb : rights (kc b) = true) : Ev (fun k => withyref04_Compare.f k (a.map c79) (b.map c79)) (kcmp (kc a) (kc b)) :=
 withyref04_Compare.l0_ev a b ha hra hrb (min a.length b.length) 0 (by omega)
end Go.Proofs.YtimnjdgelencpaaDoor.A
