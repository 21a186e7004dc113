/- chain.cuts: what its loop hands on, for every loop body that keeps its two boxes. Condition: parts of 1 to 2000 bytes, at most a million bytes. -/
import Derived.RangeFuncNested
import Derived.RangeFuncBound
import Derived.RangeFuncCalls
import Derived.RangeFuncLeaves
import Derived.RangeFuncBox
import Derived.Shelf.Abstract
import Derived.Shelf.RegionOpen
import Derived.WalkKit
import Derived.OwnWalkIn
import Derived.TacticsInMore
import Derived.LoopNIn
import Derived.LoopIn
import Derived.Lib.IndexBytes
import Derived.Lib.Hide
import Derived.Maps.AppendAt
import Derived.Test.YtlagllfbomaehaaGreatDoorBox
import Derived.Test.YtlagllfbomaehaaGreatDoorAx0
namespace Go.Proofs.YtlagllfbomaehaaGreatDoor.A
open Go Go.RowKit Go.Proofs Go.Shelf Go.Proofs.YtlagllfbomaehaaGreatDoorW Go.Proofs.YtlagllfbomaehaaGreatDoorW.PrintWords Go.Proofs.YtlagllfbomaehaaGreatDoor.Box
attribute [local go_sem] Oper.semAt_some
attribute [local go_sem] Go.Proofs.YtlagllfbomaehaaGreatDoorW.PrintMore.min2_int Go.Proofs.YtlagllfbomaehaaGreatDoorW.PrintMore.min_two
set_option linter.unusedVariables false
set_option linter.unusedSimpArgs false
def cutsL (r : Nat) : Nat → ByteArray → List ByteArray
  | 0, _ => []
  | k + 1, s => if s.size = 0 then [] else s.extract 0 (min r s.size) :: cutsL r k (s.extract (min r s.size) s.size)
def KpTwo (Bv Br : Nat) (A B : World) : Prop := A.heap.size ≤ B.heap.size ∧ B.heap[Bv]? = A.heap[Bv]? ∧ B.heap[Br]? = A.heap[Br]?
def restOf (Bv : Nat) (W : World) : Nat := match W.cell? ⟨Bv, 0, none⟩ with | some (.string s) => s.size | _ => 0
theorem restOf_of {Bv : Nat} {W : World} {s : ByteArray} (h : W.cell? ⟨Bv, 0, none⟩ = some (.string s)) : restOf Bv W = s.size := by unfold restOf; rw [h]
theorem ext_nil (t : ByteArray) : t.extract t.size t.size = ByteArray.empty := by
  ext
  · simp
  · simp at *
set_option maxRecDepth 100000 in
set_option maxHeartbeats 4000000 in
theorem cuts1_in (s : ByteArray) (hs : s.size ≤ 1000000) (r : Nat) (hr0 : 1 ≤ r) (hr1 : r ≤ 2000) (Bv Br : Nat) (hne : Bv ≠ Br) (l : Nat) (J Jx : List ByteArray → World → Prop) (W : World)
    (hJ : AbidesFrom W.heap.size J) (hJs : ∀ p W v, J p W → J p (W.setCell ⟨Bv, 0, none⟩ v))
    (hY : ∀ pre x W1, J pre W1 → pre.length < (cutsL r s.size s).length → YieldAt Fence.wide 2 Tryz.prog l #[.string x] W1 fun e W' =>
      (e = .returned (.bool true) ∧ J (pre ++ [x]) W' ∧ KpTwo Bv Br W1 W') ∨ (e = .returned (.bool false) ∧ Jx (pre ++ [x]) W'))
    (hBv : Boxed W Bv 9 (.string s)) (hBr : Boxed W Br 3 (.int .i64 (r : Nat))) (h0 : J [] W) :
    CallsIn Fence.wide 3 Tryz.prog 47 #[.func (.yield l) #[] #[], .pointer (some ⟨Bv, 0, none⟩), .pointer (some ⟨Br, 0, none⟩)] W fun e W' => (∃ v, e = .returned v) ∧ ((∃ ys, ys = cutsL r s.size s ∧ J ys W') ∨ (∃ pre, pre <+: cutsL r s.size s ∧ Jx pre W')) := by
  refine callsIn_of_wp Tryz.func47 rfl trivial ?_ rfl
  simp only [Tryz.ntmps47, List.size_toArray, List.length_cons, List.length_nil, Nat.reduceAdd, Nat.reduceSub, Array.replicate_succ, Array.replicate_zero, List.push_toArray, List.append_toArray, List.nil_append, List.cons_append]
  gi_wp2
  gi_loopw [4] (fun p wr => ∃ (k : Nat) (t : ByteArray) (pre : List ByteArray), t.size ≤ k ∧ t.size ≤ s.size ∧ cutsL r s.size s = pre ++ cutsL r k t ∧ Boxed wr Bv 9 (.string t) ∧ Boxed wr Br 3 (.int .i64 (r : Nat)) ∧ W.heap.size ≤ wr.heap.size ∧ J pre wr)
    (fun p wr => restOf Bv wr)
  case atStart => exact ⟨s.size, s, [], Nat.le_refl _, Nat.le_refl _, rfl, hBv, hBr, Nat.le_refl _, h0⟩
  case round =>
    obtain ⟨k, t, pre, hk, ht, hx, hB1, hB2, hsz, hJp⟩ := hrel
    have hc1 := hB1.cell
    have hf1 := hB1.frozen
    have hc2 := hB2.cell
    by_cases hz : t.size = 0
    · have hemp : t.toList = [] := by
        rw [Lib.toList_data]
        exact List.eq_nil_of_length_eq_zero (by rw [← Lib.size_eq]; exact hz)
      have hemp2 : (!t.toList.isEmpty) = false := by rw [hemp]; rfl
      have HX : Hid (cutsL r s.size s = pre) := Lib.hid (by
        rw [hx]
        cases k with
        | zero => simp [cutsL]
        | succ k => simp [cutsL, hz])
      gi_wp2
      refine bodyPost_end (results_none rfl _ _ _) rfl ?_
      exact ⟨⟨_, rfl⟩, .inl ⟨_, HX.out.symm, hJp⟩⟩
    · have hemp : ¬ t.toList = [] := by
        intro h
        apply hz
        rw [Lib.size_eq, ← Lib.toList_data, h]; rfl
      have hemp2 : (!t.toList.isEmpty) = true := by
        cases h : t.toList with
        | nil => exact absurd h hemp
        | cons _ _ => rfl
      obtain ⟨k, rfl⟩ : ∃ m, k = m + 1 := ⟨k - 1, by omega⟩
      have hx2 : cutsL r (k + 1) t = t.extract 0 (min r t.size) :: cutsL r k (t.extract (min r t.size) t.size) := by rw [cutsL, if_neg hz]
      rw [hx2] at hx
      clear hx2
      by_cases hlt : t.size < r
      · have hlt2 : (t.size : Int) < (r : Int) := by omega
        have hx3 : t.extract 0 (min r t.size) = t := by rw [Nat.min_eq_right (by omega)]; exact ByteArray.extract_zero_size
        rw [hx3, Nat.min_eq_right (by omega)] at hx
        obtain ⟨fn, tmps, assign, body, hy, hR⟩ := hY pre t wr hJp (by rw [hx]; simp)
        have HX := Lib.hid hx
        clear hx hx3
        gi_wp2
        refine hR.mono ?_
        rintro e W3 (⟨rfl, hJ3, hk3⟩ | ⟨rfl, hJx3⟩)
        · have hB13 : Boxed W3 Bv 9 (.string t) := (show W3.heap[Bv]? = _ from hk3.2.1.trans hB1)
          have hB23 : Boxed W3 Br 3 (.int .i64 (r : Nat)) := (show W3.heap[Br]? = _ from hk3.2.2.trans hB2)
          have hd1 := hB13.cell
          have hg1 := hB13.frozen
          gi_wp2
          refine ⟨⟨k, ByteArray.empty, pre ++ [t], Nat.zero_le _, Nat.zero_le _, ?_, hB13.set _, hB23.other (by omega) _, ?_, hJs _ _ _ hJ3⟩, ?_⟩
          · rw [HX.out, ext_nil]; simp
          · have := hk3.1; simp; omega
          · rw [restOf_of (hB13.set _).cell, restOf_of hc1]; show 0 < t.size; omega
        · gi_wp2
          refine bodyPost_ret (results_none rfl _ _ _) rfl ?_
          exact ⟨⟨_, rfl⟩, .inr ⟨_, ⟨cutsL r k (t.extract t.size t.size), by rw [HX.out]; simp⟩, hJx3⟩⟩
      · have hlt2 : ¬ (t.size : Int) < (r : Int) := by omega
        have hle : (r : Int) ≤ (t.size : Int) := by omega
        rw [Nat.min_eq_left (by omega)] at hx
        obtain ⟨x, hxx⟩ : ∃ x, t.extract 0 r = x := ⟨_, rfl⟩
        obtain ⟨q, hq⟩ : ∃ q, t.extract r t.size = q := ⟨_, rfl⟩
        have hqz : q.size = t.size - r := by rw [← hq, ByteArray.size_extract]; omega
        rw [hxx, hq] at hx
        obtain ⟨fn, tmps, assign, body, hy, hR⟩ := hY pre x wr hJp (by rw [hx]; simp)
        have HX := Lib.hid hx
        have HQ := Lib.hid hqz
        clear hx hqz
        gi_wp2
        refine hR.mono ?_
        rintro e W3 (⟨rfl, hJ3, hk3⟩ | ⟨rfl, hJx3⟩)
        · have hB13 : Boxed W3 Bv 9 (.string t) := (show W3.heap[Bv]? = _ from hk3.2.1.trans hB1)
          have hB23 : Boxed W3 Br 3 (.int .i64 (r : Nat)) := (show W3.heap[Br]? = _ from hk3.2.2.trans hB2)
          have hd1 := hB13.cell
          have hg1 := hB13.frozen
          gi_wp2
          refine ⟨⟨k, q, pre ++ [x], by have := HQ.out; omega, by have := HQ.out; omega, ?_, hB13.set _, hB23.other (by omega) _, ?_, hJs _ _ _ hJ3⟩, ?_⟩
          · rw [HX.out]; simp
          · have := hk3.1; simp; omega
          · rw [restOf_of (hB13.set _).cell, restOf_of hc1]; have := HQ.out; omega
        · gi_wp2
          refine bodyPost_ret (results_none rfl _ _ _) rfl ?_
          exact ⟨⟨_, rfl⟩, .inr ⟨_, ⟨cutsL r k q, by rw [HX.out]; simp⟩, hJx3⟩⟩
end Go.Proofs.YtlagllfbomaehaaGreatDoor.A
