/- Plain words of layer 4: keys as lists of columns, their bytes, their order; no program in sight. -/
import Derived.Test.YtimnjdgelencpaaDoorSpec
namespace Go.Proofs.YtimnjdgelencpaaDoor.Spec
open Go
set_option linter.unusedSimpArgs false
set_option linter.unusedVariables false
def kbody (l : List Cl) : Bytes := l.flatMap cput
def kput (l : List Cl) : Bytes := kbody l ++ [1]
def rights (l : List Cl) : Bool := l.all Cl.right
def wfs (l : List Cl) : Prop := ∀ c ∈ l, c.wf
theorem kbody_cons (c : Cl) (l : List Cl) : kbody (c :: l) = cput c ++ kbody l := by simp [kbody]
theorem kput_cons (c : Cl) (l : List Cl) : kput (c :: l) = cput c ++ kput l := by simp [kput, kbody_cons]
theorem kbody_append (a b : List Cl) : kbody (a ++ b) = kbody a ++ kbody b := by simp [kbody]
theorem rights_cons (c : Cl) (l : List Cl) : rights (c :: l) = (c.right && rights l) := rfl
theorem rights_iff (l : List Cl) : rights l = true ↔ ∀ c ∈ l, c.right = true := by simp [rights]
def kget : Nat → Bytes → List (Cl × Nat) × Nat
 | 0, _ => ([], 7)
 | _ + 1, [] => ([], 7)
 | n + 1, c :: r =>
  if c = 1 then (if r = [] then ([], 0) else ([], 3))
  else if (cget (c :: r)).2.2 = 0 then
   (if (kget n ((c :: r).drop (cget (c :: r)).2.1)).2 = 0 then (((cget (c :: r)).1, (cget (c :: r)).2.1) :: (kget n ((c :: r).drop (cget (c :: r)).2.1)).1, 0) else ([], (kget n ((c :: r).drop (cget (c :: r)).2.1)).2))
  else ([], (cget (c :: r)).2.2)
theorem kget_ok : ∀ {n : Nat} {s : Bytes} {xs : List (Cl × Nat)}, kget n s = (xs, 0) → rights (xs.map Prod.fst) = true ∧ wfs (xs.map Prod.fst) ∧ kput (xs.map Prod.fst) = s ∧ xs.map Prod.snd = (xs.map Prod.fst).map (fun c => (cput c).length) := by
 intro n
 induction n with
 | zero => intro s xs h; simp [kget] at h
 | succ n ih =>
  intro s xs h
  cases s with
  | nil => simp [kget] at h
  | cons c r =>
   rw [kget] at h
   split at h
   ·next hc =>
    split at h
    ·next hr =>
     simp only [Prod.mk.injEq, and_true] at h
     subst h; subst hr; subst hc
     exact ⟨rfl, fun _ h => by simp at h, rfl, rfl⟩
    ·simp at h
   ·split at h
    ·next h0 =>
     split at h
     ·next h1 =>
      simp only [Prod.mk.injEq, and_true] at h
      subst h
      obtain ⟨i1, i2, i3, i4⟩ := ih (s := (c :: r).drop (cget (c :: r)).2.1) (xs := (kget n ((c :: r).drop (cget (c :: r)).2.1)).1) (by rw [← h1])
      obtain ⟨k1, k2, k3, k4, k5⟩ := cget_ok (l := c :: r) (c := (cget (c :: r)).1) (n := (cget (c :: r)).2.1) (by rw [← h0])
      refine ⟨by rw [List.map_cons, rights_cons, k1, i1]; rfl, ?_, ?_, ?_⟩
      ·intro d hd
       rw [List.map_cons, List.mem_cons] at hd
       rcases hd with rfl | hd
       ·exact k2
       ·exact i2 d hd
      ·rw [List.map_cons, kput_cons, i3, k3, List.take_append_drop]
      ·simp only [List.map_cons] at i4 ⊢
       rw [i4, k3, List.length_take, Nat.min_eq_left k5]
     ·next h1 => exact absurd (congrArg Prod.snd h) h1
    ·next h0 => exact absurd (congrArg Prod.snd h) h0
def kcmp : List Cl → List Cl → Int
 | [], [] => 0
 | [], _ :: _ => -1
 | _ :: _, [] => 1
 | x :: a, y :: b => if ccmp x y = 0 then kcmp a b else ccmp x y
theorem rights_take {l : List Cl} (h : rights l = true) (k : Nat) : rights (l.take k) = true := by
 rw [rights_iff] at h ⊢
 exact fun c hc => h c (List.mem_of_mem_take hc)
theorem wfs_take {l : List Cl} (h : wfs l) (k : Nat) : wfs (l.take k) := fun c hc => h c (List.mem_of_mem_take hc)
theorem lcmp_self (a : Bytes) : lcmp a a = 0 := (lcmp_eq a a).2 rfl
theorem ccmp_self (a : Cl) : ccmp a a = 0 := by simp [ccmp, sgn_self, lcmp_self]
theorem text_le {c : Cl} (h : c.right = true) : c.s.length ≤ (cput c).length := by
 rcases right_cases h with e | ⟨e, _⟩ | e | e | e
 ·rw [e]; simp
 ·rw [e]; simp
 ·rw [e]; simp
 ·rw [e]; simp
 ·rw [e, cput_4]; have := esc_len c.s; simp; omega
theorem kbody_mem {l : List Cl} {c : Cl} (h : c ∈ l) : (cput c).length ≤ (kbody l).length := by
 induction l with
 | nil => cases h
 | cons d l ih =>
  rw [kbody_cons, List.length_append]
  rcases List.mem_cons.1 h with rfl | h
  ·omega
  ·have := ih h; omega
theorem kbody_len (l : List Cl) : l.length ≤ (kbody l).length := by
 induction l with
 | nil => simp
 | cons d l ih =>
  rw [kbody_cons, List.length_append, List.length_cons]
  have := cput_pos d; omega
theorem kput_len (l : List Cl) : (kput l).length = (kbody l).length + 1 := by simp [kput]
end Go.Proofs.YtimnjdgelencpaaDoor.Spec
