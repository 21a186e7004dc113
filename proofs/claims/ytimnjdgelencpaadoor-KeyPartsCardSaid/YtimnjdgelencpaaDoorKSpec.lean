/- Plain words of layer 4: keys as lists of columns, their bytes, their order; no program in sight. -/
import Derived.Test.YtimnjdgelencpaaDoorSpec
namespace Go.Proofs.YtimnjdgelencpaaDoor.Spec
open Go
set_option linter.unusedSimpArgs false
set_option linter.unusedVariables false

def kbody (l : List Cl) : Bytes := l.flatMap cput
def kput (l : List Cl) : Bytes := kbody l ++ [1]
def rights (l : List Cl) : Bool := l.all Cl.right
def wfs (l : List Cl) : Prop := ∀ c ∈ l, c.wf
theorem kbody_nil : kbody [] = [] := rfl
theorem kbody_cons (c : Cl) (l : List Cl) : kbody (c :: l) = cput c ++ kbody l := by simp [kbody]
theorem kput_nil : kput [] = [1] := rfl
theorem kput_cons (c : Cl) (l : List Cl) : kput (c :: l) = cput c ++ kput l := by simp [kput, kbody_cons]
theorem kbody_append (a b : List Cl) : kbody (a ++ b) = kbody a ++ kbody b := by simp [kbody]
theorem rights_cons (c : Cl) (l : List Cl) : rights (c :: l) = (c.right && rights l) := rfl
theorem rights_iff (l : List Cl) : rights l = true ↔ ∀ c ∈ l, c.right = true := by simp [rights]
theorem wfs_cons {c : Cl} {l : List Cl} (h : wfs (c :: l)) : c.wf ∧ wfs l := ⟨h c (by simp), fun d hd => h d (by simp [hd])⟩
/-- A column's first byte is not the one that ends a key. -/
theorem cput_first {c : Cl} (h : c.right = true) (hw : c.wf) : ∃ x r, cput c = x :: r ∧ 1 < x ∧ x ≠ 1 := by
  obtain ⟨x, r, e, h1, h2⟩ := first_byte h hw
  have hk : 0 ≤ c.k := by
    rcases right_cases h with e | ⟨e, _⟩ | e | e | e <;> have := congrArg Cl.k e <;> simp only at this <;> omega
  have h3 : 16 ≤ x.toNat := by omega
  refine ⟨x, r, e, ?_, ?_⟩
  · rw [UInt8.lt_iff_toNat_lt]; show 1 < x.toNat; omega
  · intro e; rw [e] at h3; exact absurd h3 (by decide)
/-- All columns up to the byte at the end, each with how many bytes it has; what is wrong. -/
def kget : Nat → Bytes → List (Cl × Nat) × Nat
  | 0, _ => ([], 7)
  | _ + 1, [] => ([], 7)
  | n + 1, c :: r =>
    if c = 1 then (if r = [] then ([], 0) else ([], 3))
    else if (cget (c :: r)).2.2 = 0 then
      (if (kget n ((c :: r).drop (cget (c :: r)).2.1)).2 = 0 then (((cget (c :: r)).1, (cget (c :: r)).2.1) :: (kget n ((c :: r).drop (cget (c :: r)).2.1)).1, 0) else ([], (kget n ((c :: r).drop (cget (c :: r)).2.1)).2))
    else ([], (cget (c :: r)).2.2)
theorem kget_put {l : List Cl} : ∀ {n : Nat}, rights l = true → wfs l → l.length < n → kget n (kput l) = (l.map fun c => (c, (cput c).length), 0) := by
  induction l with
  | nil =>
    intro n hr hw hn
    cases n with
    | zero => omega
    | succ n => rfl
  | cons c l ih =>
    intro n hr hw hn
    cases n with
    | zero => simp at hn
    | succ n =>
      rw [rights_cons, Bool.and_eq_true] at hr
      obtain ⟨w1, w2⟩ := wfs_cons hw
      obtain ⟨x, r, e, h1, h2⟩ := cput_first hr.1 w1
      have hg := cget_put hr.1 w1 (kput l)
      rw [kput_cons]
      have ih' := ih hr.2 w2 (n := n) (by simp at hn; omega)
      have ed : (cput c ++ kput l).drop (cput c).length = kput l := List.drop_left' rfl
      rw [e] at hg ed ⊢
      rw [List.cons_append] at hg ed ⊢
      rw [kget, if_neg h2, hg]
      simp only [if_true, ed, ih', List.map_cons, e]
theorem kget_short {l : List Cl} : ∀ {n : Nat}, rights l = true → wfs l → ∀ j, j < (kput l).length → (kget n ((kput l).take j)).2 = 7 := by
  induction l with
  | nil =>
    intro n hr hw j hj
    obtain rfl : j = 0 := by simp [kput, kbody] at hj; omega
    cases n <;> rfl
  | cons c l ih =>
    intro n hr hw j hj
    cases n with
    | zero => rfl
    | succ n =>
      rw [rights_cons, Bool.and_eq_true] at hr
      obtain ⟨w1, w2⟩ := wfs_cons hw
      obtain ⟨x, r, e, h1, h2⟩ := cput_first hr.1 w1
      rw [kput_cons] at hj ⊢
      cases j with
      | zero => rfl
      | succ j =>
        by_cases hlt : j + 1 < (cput c).length
        · have hs := cget_short hr.1 w1 (j + 1) hlt
          rw [List.take_append_of_le_length (by omega)]
          rw [e, List.take_succ_cons] at hs ⊢
          rw [kget, if_neg h2, if_neg (by rw [hs]; decide), hs]
        · have hg := cget_put hr.1 w1 ((kput l).take (j + 1 - (cput c).length))
          have ih' := ih hr.2 w2 (n := n) (j + 1 - (cput c).length) (by rw [List.length_append] at hj; omega)
          rw [List.take_append, List.take_of_length_le (by omega)]
          generalize (kput l).take (j + 1 - (cput c).length) = T at *
          have ed : (cput c ++ T).drop (cput c).length = T := List.drop_left' rfl
          rw [e] at hg ed ⊢
          rw [List.cons_append] at hg ed ⊢
          rw [kget, if_neg h2, hg]
          simp only [if_true, ed, ih']
          rfl
theorem kget_more {l : List Cl} : ∀ {n : Nat}, rights l = true → wfs l → l.length < n → ∀ c, (kget n (kput l ++ [c])).2 = 3 := by
  induction l with
  | nil =>
    intro n hr hw hn c
    cases n with
    | zero => omega
    | succ n => rfl
  | cons d l ih =>
    intro n hr hw hn c
    cases n with
    | zero => simp at hn
    | succ n =>
      rw [rights_cons, Bool.and_eq_true] at hr
      obtain ⟨w1, w2⟩ := wfs_cons hw
      obtain ⟨x, r, e, h1, h2⟩ := cput_first hr.1 w1
      have hg := cget_put hr.1 w1 (kput l ++ [c])
      rw [kput_cons, List.append_assoc]
      have ih' := ih hr.2 w2 (n := n) (by simp at hn; omega) c
      have ed : (cput d ++ (kput l ++ [c])).drop (cput d).length = kput l ++ [c] := List.drop_left' rfl
      rw [e] at hg ed ⊢
      rw [List.cons_append] at hg ed ⊢
      rw [kget, if_neg h2, hg]
      simp only [if_true, ed, ih']
      rfl
theorem kget_ok : ∀ {n : Nat} {s : Bytes} {xs : List (Cl × Nat)}, kget n s = (xs, 0) → rights (xs.map Prod.fst) = true ∧ wfs (xs.map Prod.fst) ∧ kput (xs.map Prod.fst) = s ∧ xs.map Prod.snd = (xs.map Prod.fst).map (fun c => (cput c).length) := by
  intro n
  induction n with
  | zero => intro s xs h; simp [kget] at h
  | succ n ih =>
    intro s xs h
    cases s with
    | nil => simp [kget] at h
    | cons c r =>
      rw [kget] at h
      split at h
      · next hc =>
        split at h
        · next hr =>
          simp only [Prod.mk.injEq, and_true] at h
          subst h; subst hr; subst hc
          exact ⟨rfl, fun _ h => by simp at h, rfl, rfl⟩
        · simp at h
      · split at h
        · next h0 =>
          split at h
          · next h1 =>
            simp only [Prod.mk.injEq, and_true] at h
            subst h
            obtain ⟨i1, i2, i3, i4⟩ := ih (s := (c :: r).drop (cget (c :: r)).2.1) (xs := (kget n ((c :: r).drop (cget (c :: r)).2.1)).1) (by rw [← h1])
            obtain ⟨k1, k2, k3, k4, k5⟩ := cget_ok (l := c :: r) (c := (cget (c :: r)).1) (n := (cget (c :: r)).2.1) (by rw [← h0])
            refine ⟨by rw [List.map_cons, rights_cons, k1, i1]; rfl, ?_, ?_, ?_⟩
            · intro d hd
              rw [List.map_cons, List.mem_cons] at hd
              rcases hd with rfl | hd
              · exact k2
              · exact i2 d hd
            · rw [List.map_cons, kput_cons, i3, k3, List.take_append_drop]
            · simp only [List.map_cons] at i4 ⊢
              rw [i4, k3, List.length_take, Nat.min_eq_left k5]
          · next h1 => exact absurd (congrArg Prod.snd h) h1
        · next h0 => exact absurd (congrArg Prod.snd h) h0
/-- Which one of two keys is ahead. -/
def kcmp : List Cl → List Cl → Int
  | [], [] => 0
  | [], _ :: _ => -1
  | _ :: _, [] => 1
  | x :: a, y :: b => if ccmp x y = 0 then kcmp a b else ccmp x y
theorem Ord3.app {c : Int} {s t : Bytes} (h : Ord3 c s t) (h0 : c ≠ 0) (u v : Bytes) : Ord3 c (s ++ u) (t ++ v) := by
  rcases h with ⟨h, rfl⟩ | ⟨h, d⟩ | ⟨h, d⟩
  · exact absurd h h0
  · exact .inr (.inl ⟨h, d.app u v⟩)
  · exact .inr (.inr ⟨h, d.app v u⟩)
theorem key_ord : ∀ {a b : List Cl}, rights a = true → rights b = true → wfs a → wfs b → Ord3 (kcmp a b) (kput a) (kput b) ∧ (kcmp a b = 0 ↔ a = b)
  | [], [], _, _, _, _ => ⟨.inl ⟨rfl, rfl⟩, by simp [kcmp]⟩
  | [], y :: b, _, hb, _, wb => by
    rw [rights_cons, Bool.and_eq_true] at hb
    obtain ⟨x, r, e, h1, _⟩ := cput_first hb.1 (wfs_cons wb).1
    refine ⟨.inr (.inl ⟨rfl, ?_⟩), by simp [kcmp]⟩
    rw [kput_cons, e]
    exact Diff.head h1 _ _
  | y :: b, [], hb, _, wb, _ => by
    rw [rights_cons, Bool.and_eq_true] at hb
    obtain ⟨x, r, e, h1, _⟩ := cput_first hb.1 (wfs_cons wb).1
    refine ⟨.inr (.inr ⟨rfl, ?_⟩), by simp [kcmp]⟩
    rw [kput_cons, e]
    exact Diff.head h1 _ _
  | x :: a, y :: b, ha, hb, wa, wb => by
    rw [rights_cons, Bool.and_eq_true] at ha hb
    obtain ⟨wx, wa⟩ := wfs_cons wa
    obtain ⟨wy, wb⟩ := wfs_cons wb
    obtain ⟨ho, he⟩ := col_ord ha.1 hb.1 wx wy
    obtain ⟨io, ie⟩ := key_ord ha.2 hb.2 wa wb
    rw [kput_cons, kput_cons, kcmp]
    by_cases h : ccmp x y = 0
    · rw [if_pos h]
      obtain rfl := he.1 h
      exact ⟨io.pre _, by rw [ie]; simp⟩
    · rw [if_neg h]
      refine ⟨ho.app h _ _, fun e => absurd e h, fun e => absurd (he.2 (by injection e)) h⟩
theorem kcmp_neg : ∀ {a b : List Cl}, (∀ c d : Cl, ccmp d c = -ccmp c d) → kcmp b a = -kcmp a b
  | [], [], _ => rfl
  | [], _ :: _, _ => rfl
  | _ :: _, [], _ => rfl
  | x :: a, y :: b, h => by
    rw [kcmp, kcmp, h x y]
    by_cases h0 : ccmp x y = 0
    · rw [if_pos h0, if_pos (by omega), kcmp_neg h]
    · rw [if_neg h0, if_neg (by omega)]
/-- Where one key's columns do not begin another one's, their bytes part. -/
theorem key_apart : ∀ {l o : List Cl}, rights l = true → rights o = true → wfs l → wfs o → o.take l.length ≠ l → Diff (kput o) (kbody l) ∨ Diff (kbody l) (kput o)
  | [], o, _, _, _, _, h => absurd (by simp) h
  | c :: l, [], hl, _, wl, _, _ => by
    rw [rights_cons, Bool.and_eq_true] at hl
    obtain ⟨x, r, e, h1, _⟩ := cput_first hl.1 (wfs_cons wl).1
    rw [kbody_cons, e]
    exact .inl (Diff.head h1 _ _)
  | c :: l, d :: o, hl, ho, wl, wo, h => by
    rw [rights_cons, Bool.and_eq_true] at hl ho
    obtain ⟨wc, wl2⟩ := wfs_cons wl
    obtain ⟨wd, wo2⟩ := wfs_cons wo
    obtain ⟨hq, he⟩ := col_ord hl.1 ho.1 wc wd
    rw [kbody_cons, kput_cons]
    rcases hq with ⟨h0, _⟩ | ⟨h0, hd⟩ | ⟨h0, hd⟩
    · obtain rfl := he.1 h0
      rcases key_apart hl.2 ho.2 wl2 wo2 (fun e => h (by rw [List.length_cons, List.take_succ_cons, e])) with q | q
      · exact .inl (q.pre _)
      · exact .inr (q.pre _)
    · exact .inr (hd.app _ _)
    · exact .inl (hd.app _ _)
theorem key_begin {l o : List Cl} (hl : rights l = true) (ho : rights o = true) (wl : wfs l) (wo : wfs o) : (kput o).take (kbody l).length = kbody l ↔ o.take l.length = l := by
  constructor
  · intro h
    rcases Classical.em (o.take l.length = l) with e | e
    · exact e
    · have hx : kput o = kbody l ++ (kput o).drop (kbody l).length := by
        have := List.take_append_drop (kbody l).length (kput o); rw [h] at this; exact this.symm
      rcases key_apart hl ho wl wo e with q | q
      · exact absurd hx (q.no_begin' _)
      · exact absurd hx (q.no_begin _)
  · intro h
    have hx : o = l ++ o.drop l.length := by have := List.take_append_drop l.length o; rw [h] at this; exact this.symm
    rw [hx, kput, kbody_append, List.append_assoc]
    exact List.take_left' rfl
theorem rights_take {l : List Cl} (h : rights l = true) (k : Nat) : rights (l.take k) = true := by
  rw [rights_iff] at h ⊢
  exact fun c hc => h c (List.mem_of_mem_take hc)
theorem wfs_take {l : List Cl} (h : wfs l) (k : Nat) : wfs (l.take k) := fun c hc => h c (List.mem_of_mem_take hc)
theorem kcmp_more (l : List Cl) (c : Cl) (h : ∀ d : Cl, ccmp d d = 0) : kcmp l (l ++ [c]) = -1 := by
  induction l with
  | nil => rfl
  | cons d l ih => rw [List.cons_append, kcmp, if_pos (h d), ih]
theorem key_more {l : List Cl} {c : Cl} (hc : c.right = true) (wc : c.wf) : Diff (kput l) (kput (l ++ [c])) := by
  obtain ⟨x, r, e, h1, _⟩ := cput_first hc wc
  rw [kput, kput, kbody_append, List.append_assoc]
  refine Diff.pre ?_ _
  rw [kbody_cons, e]
  exact Diff.head h1 _ _
theorem sgn_neg (a b : Int) : sgn b a = -sgn a b := by unfold sgn; (repeat' split) <;> omega
theorem lcmp_neg : ∀ a b : Bytes, lcmp b a = -lcmp a b
  | [], [] => rfl
  | [], _ :: _ => rfl
  | _ :: _, [] => rfl
  | x :: a, y :: b => by
    rw [lcmp, lcmp]
    by_cases h1 : x < y
    · simp only [if_pos h1, if_neg (u8_asymm h1)]; rfl
    · by_cases h2 : y < x
      · simp only [if_neg h1, if_pos h2]
      · simp only [if_neg h1, if_neg h2]; exact lcmp_neg a b
theorem ccmp_neg (a b : Cl) : ccmp b a = -ccmp a b := by
  unfold ccmp
  rw [sgn_neg a.k b.k, sgn_neg a.i b.i, sgn_neg a.u b.u, lcmp_neg a.s b.s]
  (repeat' split) <;> omega
theorem lcmp_self (a : Bytes) : lcmp a a = 0 := (lcmp_eq a a).2 rfl
theorem ccmp_self (a : Cl) : ccmp a a = 0 := by simp [ccmp, sgn_self, lcmp_self]
theorem text_le {c : Cl} (h : c.right = true) : c.s.length ≤ (cput c).length := by
  rcases right_cases h with e | ⟨e, _⟩ | e | e | e
  · rw [e]; simp
  · rw [e]; simp
  · rw [e]; simp
  · rw [e]; simp
  · rw [e, cput_4]; have := esc_len c.s; simp; omega
theorem kbody_mem {l : List Cl} {c : Cl} (h : c ∈ l) : (cput c).length ≤ (kbody l).length := by
  induction l with
  | nil => cases h
  | cons d l ih =>
    rw [kbody_cons, List.length_append]
    rcases List.mem_cons.1 h with rfl | h
    · omega
    · have := ih h; omega
theorem kbody_len (l : List Cl) : l.length ≤ (kbody l).length := by
  induction l with
  | nil => simp
  | cons d l ih =>
    rw [kbody_cons, List.length_append, List.length_cons]
    have := cput_pos d; omega
theorem kput_len (l : List Cl) : (kput l).length = (kbody l).length + 1 := by simp [kput]
end Go.Proofs.YtimnjdgelencpaaDoor.Spec
