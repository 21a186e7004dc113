/- key.columns: what its loop hands on, for every loop body that keeps the box it reads. Condition: at most a million bytes. -/
import Derived.RangeFuncNested
import Derived.RangeFuncBound
import Derived.RangeFuncCalls
import Derived.RangeFuncLeaves
import Derived.RangeFuncBox
import Derived.Shelf.Abstract
import Derived.Shelf.RegionOpen
import Derived.WalkKit
import Derived.OwnWalkIn
import Derived.TacticsInMore
import Derived.LoopNIn
import Derived.LoopIn
import Derived.Maps.AppendAt
import Derived.Test.YtimnjdgelencpaaDoorAG1
namespace Go.Proofs.YtimnjdgelencpaaDoor.A
open Go Go.RowKit Go.Proofs Go.Shelf Go.Proofs.YtimnjdgelencpaaDoorW Go.Proofs.YtimnjdgelencpaaDoorW.PrintWords
attribute [local go_sem] Oper.semAt_some
set_option linter.unusedVariables false
set_option linter.unusedSimpArgs false
inductive Fd where
 | ok (k i u : Int) (s : ByteArray) (z : Int)
 | bad (e at_ : Int)
def Fd.enc : Fd → Value
 | .ok k i u s z => .iface 104 (.agg #[.int .i64 k, .int .i64 i, .int .u64 u, .string s, .int .i64 z])
 | .bad e a => .iface 101 (.agg #[.int .i64 e, .int .i64 a])
def key_read.it : Nat → ByteArray → Int → Option (List Fd)
 | 0, _, _ => none
 | k + 1, s, a =>
  if a = (s.size : Int) ∨ bt s a ≠ 1 then
   ((col_Get.f k s a).bind fun r => if r.2.2.2.2.2 = 0 then (if a < r.2.2.2.2.1 ∧ r.2.2.2.2.1 ≤ (s.size : Int) then ((key_read.it k s r.2.2.2.2.1).map (Fd.ok r.1 r.2.1 r.2.2.1 r.2.2.2.1 r.2.2.2.2.1 :: ·)) else none) else some [Fd.bad r.2.2.2.2.2 a])
  else some []
def KpBox (Bn : Nat) (A B : World) : Prop := A.heap.size ≤ B.heap.size ∧ B.heap[Bn]? = A.heap[Bn]?
set_option maxRecDepth 100000 in
set_option maxHeartbeats 4000000 in
theorem columns1_in (s : ByteArray) (hs : s.size ≤ 1000000) (xs : List Fd) (kk : Nat) (hxs : key_read.it kk s 0 = some xs) (Bn : Nat) (l : Nat) (J Jx : List Fd → World → Prop) (W : World)
  (hJ : AbidesFrom W.heap.size J) (hJx : AbidesFrom W.heap.size Jx)
  (hY : ∀ pre x W1, J pre W1 → pre.length < xs.length → YieldAt Fence.wide 2 Tryd.prog l #[x.enc] W1 fun e W' =>
   (e = .returned (.bool true) ∧ J (pre ++ [x]) W' ∧ KpBox Bn W1 W') ∨ (e = .returned (.bool false) ∧ Jx (pre ++ [x]) W'))
  (hBn : Boxed W Bn 9 (.string s)) (h0 : J [] W) :
  CallsIn Fence.wide 3 Tryd.prog 76 #[.func (.yield l) #[] #[], .pointer (some ⟨Bn, 0, none⟩)] W fun e W' => (∃ v, e = .returned v) ∧ ((∃ ys, ys = xs ∧ J ys W') ∨ (∃ pre, pre <+: xs ∧ Jx pre W')) := by
 refine callsIn_of_wp Tryd.func76 rfl trivial ?_ rfl
 simp only [Tryd.ntmps76, List.size_toArray, List.length_cons, List.length_nil, Nat.reduceAdd, Nat.reduceSub, Array.replicate_succ, Array.replicate_zero, List.push_toArray, List.append_toArray, List.nil_append, List.cons_append]
 gi_wp2
 gi_loopw [3] (fun p wr => ∃ (n : Nat) (pre rest : List Fd), p = .int .i64 (n : Int) ∧ n ≤ s.size ∧ xs = pre ++ rest ∧ (∃ k, key_read.it k s (n : Int) = some rest) ∧ Boxed wr Bn 9 (.string s) ∧ W.heap.size ≤ wr.heap.size ∧ J pre wr)
  (fun p wr => s.size + 1 - (intOf p).toNat)
 case atStart => exact ⟨0, [], xs, rfl, by omega, rfl, ⟨kk, hxs⟩, hBn, Nat.le_refl _, h0⟩
 case round =>
  obtain ⟨n, pre, rest, rfl, hn, hx, ⟨k, hk⟩, hB, hsz, hJs⟩ := hrel
  have hc := hB.cell
  have hf := hB.frozen
  cases k with
  | zero => simp [key_read.it] at hk
  | succ k =>
  rw [key_read.it] at hk
  by_cases hcond : (n : Int) = (s.size : Int) ∨ bt s (n : Int) ≠ 1
  ·rw [if_pos hcond] at hk
   obtain ⟨⟨t0, t1, t2, t3, t4, t5⟩, hG, hk⟩ := Option.bind_eq_some_iff.mp hk
   have hcnd : ∀ h : n < s.size, ((s[n]'h).toNat : Int) ≠ 1 := by
    intro h e
    have := bt_at s (n : Int) h
    rcases hcond with hq | hq
    ·omega
    ·exact hq (this.symm.trans e)
   by_cases h5 : t5 = 0
   ·simp only [if_pos h5] at hk
    by_cases hto : (n : Int) < t4 ∧ t4 ≤ (s.size : Int)
    ·rw [if_pos hto] at hk
     obtain ⟨rest', hr, rfl⟩ := Option.map_eq_some_iff.mp hk
     obtain ⟨m, rfl⟩ := Int.eq_ofNat_of_zero_le (show 0 ≤ t4 by omega)
     by_cases he : n = s.size
     ·omega
     ·have hn2 : ¬ (n : Int) = (s.size : Int) := by omega
      have hnl : n < s.size := by omega
      have hn3 := hcnd hnl
      have hb1 : ((n : Int) == (s.size : Int)) = false := beq_eq_false_iff_ne.mpr hn2
      have hb2 : (((s[n]'hnl).toNat : Int) != 1) = true := bne_iff_ne.mpr hn3
      subst h5
      gi_wp2_with (refine ⟨trivial, ?_⟩; gi_at_call 18; refine (callsIn_wide.2 (col_Get.calls k s (n : Int) t0 t1 t2 t3 (m : Int) 0 wr hG)).mono ?_; rintro e w2 ⟨rfl, hb⟩; have hJ2 : J pre (w2.alloc (.cells #[.int .i64 t0, .int .i64 t1, .int .u64 t2, .string t3] 24)) := hJ pre _ _ none (hJ pre _ _ none hJs (grown_of_below hb none) (by simp)) (World.grownBy_alloc w2 _ none) (by simp); obtain ⟨fn, tmps, assign, body, hy, hR⟩ := hY pre (Fd.ok t0 t1 t2 t3 (m : Int)) _ hJ2 (by rw [hx]; simp); simp only [Fd.enc] at hy)
      refine hR.mono ?_
      rintro e W3 (⟨rfl, hJ3, hk3⟩ | ⟨rfl, hJx3⟩)
      ·gi_wp2
       go_roundw
       case rel => exact ⟨m, pre ++ [Fd.ok t0 t1 t2 t3 (m : Int)], rest', rfl, by omega, by rw [hx]; simp, ⟨k, hr⟩, (show W3.heap[Bn]? = _ from hk3.2.trans ((World.grownBy_alloc w2 _ none).block Bn (by have := hB.lt; have := hb.size; omega) (by simp) |>.trans ((hb.block Bn hB.lt).trans hB))), by have := hk3.1; have := hb.size; simp at *; omega, hJ3⟩
       case measure => simp [intOf]; omega
      ·gi_wp2
       refine bodyPost_ret (results_none rfl _ _ _) rfl ?_
       exact ⟨⟨_, rfl⟩, .inr ⟨_, ⟨rest', by rw [hx]; simp⟩, hJx3⟩⟩
    ·rw [if_neg hto] at hk
     exact absurd hk (by simp)
   ·simp only [if_neg h5] at hk
    obtain rfl := Option.some.inj hk
    by_cases he : n = s.size
    ·subst he
     gi_wp2_with (refine ⟨trivial, ?_⟩; gi_at_call 18; refine (callsIn_wide.2 (col_Get.calls k s (s.size : Int) t0 t1 t2 t3 t4 t5 wr hG)).mono ?_; rintro e w2 ⟨rfl, hb⟩; have hJ2 : J pre (w2.alloc (.cells #[.int .i64 t0, .int .i64 t1, .int .u64 t2, .string t3] 24)) := hJ pre _ _ none (hJ pre _ _ none hJs (grown_of_below hb none) (by simp)) (World.grownBy_alloc w2 _ none) (by simp); obtain ⟨fn, tmps, assign, body, hy, hR⟩ := hY pre (Fd.bad t5 (s.size : Int)) _ hJ2 (by rw [hx]; simp); simp only [Fd.enc] at hy)
     refine hR.mono ?_
     rintro e W3 (⟨rfl, hJ3, hk3⟩ | ⟨rfl, hJx3⟩)
     ·gi_wp2
      refine bodyPost_ret (results_none rfl _ _ _) rfl ?_
      exact ⟨⟨_, rfl⟩, .inl ⟨_, hx.symm, hJ3⟩⟩
     ·gi_wp2
      refine bodyPost_ret (results_none rfl _ _ _) rfl ?_
      exact ⟨⟨_, rfl⟩, .inr ⟨_, ⟨[], by rw [hx]; simp⟩, hJx3⟩⟩
    ·have hn2 : ¬ (n : Int) = (s.size : Int) := by omega
     have hnl : n < s.size := by omega
     have hn3 := hcnd hnl
     have hb1 : ((n : Int) == (s.size : Int)) = false := beq_eq_false_iff_ne.mpr hn2
     have hb2 : (((s[n]'hnl).toNat : Int) != 1) = true := bne_iff_ne.mpr hn3
     gi_wp2_with (refine ⟨trivial, ?_⟩; gi_at_call 18; refine (callsIn_wide.2 (col_Get.calls k s (n : Int) t0 t1 t2 t3 t4 t5 wr hG)).mono ?_; rintro e w2 ⟨rfl, hb⟩; have hJ2 : J pre (w2.alloc (.cells #[.int .i64 t0, .int .i64 t1, .int .u64 t2, .string t3] 24)) := hJ pre _ _ none (hJ pre _ _ none hJs (grown_of_below hb none) (by simp)) (World.grownBy_alloc w2 _ none) (by simp); obtain ⟨fn, tmps, assign, body, hy, hR⟩ := hY pre (Fd.bad t5 (n : Int)) _ hJ2 (by rw [hx]; simp); simp only [Fd.enc] at hy)
     refine hR.mono ?_
     rintro e W3 (⟨rfl, hJ3, hk3⟩ | ⟨rfl, hJx3⟩)
     ·gi_wp2
      refine bodyPost_ret (results_none rfl _ _ _) rfl ?_
      exact ⟨⟨_, rfl⟩, .inl ⟨_, hx.symm, hJ3⟩⟩
     ·gi_wp2
      refine bodyPost_ret (results_none rfl _ _ _) rfl ?_
      exact ⟨⟨_, rfl⟩, .inr ⟨_, ⟨[], by rw [hx]; simp⟩, hJx3⟩⟩
  ·rw [if_neg hcond] at hk
   obtain rfl := Option.some.inj hk
   have hlt : n < s.size := by omega
   have h1 : bt s (n : Int) = 1 := by
    rcases Classical.em (bt s (n : Int) = 1) with h | h
    ·exact h
    ·exact absurd (.inr h) hcond
   have hbt : ((s[n]'hlt).toNat : Int) = 1 := (bt_at s (n : Int) hlt).trans h1
   have hb1 : ((n : Int) == (s.size : Int)) = false := beq_eq_false_iff_ne.mpr (by omega)
   have hb2 : (((s[n]'hlt).toNat : Int) != 1) = false := bne_eq_false_iff_eq.mpr hbt
   gi_wp2
   refine bodyPost_end (results_none rfl _ _ _) rfl ?_
   first | exact ⟨⟨_, rfl⟩, .inl hJs⟩ | exact ⟨⟨_, rfl⟩, .inl ⟨pre, by rw [hx]; simp, hJs⟩⟩
end Go.Proofs.YtimnjdgelencpaaDoor.A
