-- Written by this session's drive.py: the print's program with contracts by hand among the functions. Not trusted: Lean checks it.
import Derived.Test.YtimnjdgelencpaaDoorAx0
import Derived.Test.YtimnjdgelencpaaDoorAG2
import Derived.Test.YtimnjdgelencpaaDoorAG1
import Derived.Laws.EntriesVeiled
import Derived.Test.YtimnjdgelencpaaDoorPut1
namespace Go.Proofs.YtimnjdgelencpaaDoor.A
open Go.RowKit Go.Proofs.YtimnjdgelencpaaDoorW.PrintWords Go.Proofs.YtimnjdgelencpaaDoorW.PrintLast Go.Proofs.YtimnjdgelencpaaDoorW.PrintMore
attribute [local go_sem] max2_int min2_int max_two min_two max_three min_three max_four min_four   -- for this text's walks alone
attribute [local go_sem] Go.Proofs.YtimnjdgelencpaaDoor.Own.gtr_string Go.Proofs.YtimnjdgelencpaaDoor.Own.leq_string Go.Proofs.YtimnjdgelencpaaDoor.Own.geq_string Go.Proofs.YtimnjdgelencpaaDoor.Own.ba_get
set_option linter.unusedVariables false
set_option linter.unusedSimpArgs false
-- FOREIGN rounds=1 making=1
-- IMPORT Derived.Test.YtimnjdgelencpaaDoorPut1
-- IMPORT Derived.Laws.EntriesVeiled
def col_Put.g (k : Nat) (a0_0 : Int) (a0_1 : Int) (a0_2 : Int) (a0_3 : ByteArray) : Option (ByteArray × Int) :=
 if a0_0 = 0 then (some (strOfNums [16], 0))
 else (if a0_0 = 1 then (if 0 ≤ a0_2 then (if a0_2 ≤ 1 then (some (strOfNums [32 + a0_2], 0)) else (none)) else (none))
 else (if a0_0 = 2 then (some (strOfNums [48] ++ strOfNums (Hand.wideL (Go.bits .xor .u64 (IntKind.u64.wrap a0_1) 9223372036854775808)), 0))
 else (if a0_0 = 3 then ((word_Put.f k a0_2).bind fun s => (if s.size ≤ 100 then (some (strOfNums [64] ++ s, 0)) else (none)))
 else (if a0_0 = 4 then (if a0_3.size ≤ 1000000 then (some (strOfNums [80] ++ ⟨(Hand.esc0 a0_3.data.toList).toArray⟩ ++ ⟨#[0, 1]⟩, 0)) else (none)) else (none)))))
def col_Put.f (k : Nat) (a0_0 : Int) (a0_1 : Int) (a0_2 : Int) (a0_3 : ByteArray) : Option (ByteArray × Int) :=
 (col_Right.f k a0_0 a0_1 a0_2 a0_3).bind fun t => (if t = true then (col_Put.g k a0_0 a0_1 a0_2 a0_3) else (some ((⟨#[]⟩ : ByteArray), 3)))
set_option maxHeartbeats 4000000 in
theorem col_Put.uint (k : Nat) (p4 p5 p1 : Nat) (kd c0 c1 c2 : Int) (c3 : ByteArray) (s : ByteArray) (w : World) (hc : Hand.Cap w p4 p5 p1 kd c0 c1 c2 c3) (h0 : 0 ≤ kd) (h1 : kd < 256) (hP : word_Put.f k c2 = some s) (hs : s.size ≤ 100) :
  Calls Tryd.prog 37 #[.pointer (some ⟨p4, 0, none⟩), .pointer (some ⟨p5, 0, none⟩), .pointer (some ⟨p1, 0, none⟩)] w fun e w' => e = .returned (.string (strOfNums [kd] ++ s)) ∧ Below w.heap.size w w' := by
 have k4 : w.cell? ⟨p4, 0, none⟩ = some (.func (.func 32) #[] #[]) := (blk_cell hc.h4 0).trans rfl
 have k5 : w.cell? ⟨p5, 0, none⟩ = some (.int .i64 kd) := (blk_cell hc.h5 0).trans rfl
 have k1 : w.cell? ⟨p1, 2, none⟩ = some (.int .u64 c2) := (blk_cell hc.h1 2).trans rfl
 clear hc
 have HP := Aside0.mk hP
 clear hP
 have hsz : (strOfNums [kd]).size + s.size ≤ 9223372036854775807 := by
  rw [strOfNums_size]; show 1 + _ ≤ _; omega
 have hsz1 := eq_true hsz
 have hsz2 := decide_eq_true hsz
 have hsz3 : (9223372036854775807 < (strOfNums [kd]).size + s.size) = False := eq_false (Nat.not_lt.2 hsz)
 go_enter Tryd.func37, Tryd.ntmps37
 go_wp2_with fail
 have hB0 := Below.refl w.heap.size w
 go_region_held3 (fun W => W.cell? ⟨p4, 0, none⟩ = some (.func (.func 32) #[] #[]) ∧ W.cell? ⟨p5, 0, none⟩ = some (.int .i64 kd) ∧ W.cell? ⟨p1, 2, none⟩ = some (.int .u64 c2) ∧ Below w.heap.size w W)
  (first | (go_split_ands; exact ⟨Hand.below_cell hb (by assumption), Hand.below_cell hb (by assumption), Hand.below_cell hb (by assumption), Hand.below_on (by assumption) hb⟩) | (go_split_ands; exact ⟨by assumption, by assumption, by assumption, below_drew (by assumption)⟩))
  (first
   | (go_at_call 32; refine (Hand.first_any kd _ h0 h1).mono ?_; rintro e w1 ⟨rfl, hb⟩)
   | (go_at_call 38; refine (word_Put.calls k c2 s _ HP.out).mono ?_; rintro e w1 ⟨rfl, hb⟩))
 go_wp2
 go_ret
 go_split_ands
 exact ⟨rfl, by assumption⟩
theorem col_Put.idx0 (x0 x1 x2 x3 x4 : Value) (w : World) : (Instr.index 66 (.agg #[x0, x1, x2, x3, x4]) (.int .i64 0)).run Tryd.prog w = .ok x0 w := by kernel_rfl
theorem col_Put.idx1 (x0 x1 x2 x3 x4 : Value) (w : World) : (Instr.index 66 (.agg #[x0, x1, x2, x3, x4]) (.int .i64 1)).run Tryd.prog w = .ok x1 w := by kernel_rfl
theorem col_Put.idx2 (x0 x1 x2 x3 x4 : Value) (w : World) : (Instr.index 66 (.agg #[x0, x1, x2, x3, x4]) (.int .i64 2)).run Tryd.prog w = .ok x2 w := by kernel_rfl
theorem col_Put.idx3 (x0 x1 x2 x3 x4 : Value) (w : World) : (Instr.index 66 (.agg #[x0, x1, x2, x3, x4]) (.int .i64 3)).run Tryd.prog w = .ok x3 w := by kernel_rfl
theorem col_Put.idx4 (x0 x1 x2 x3 x4 : Value) (w : World) : (Instr.index 66 (.agg #[x0, x1, x2, x3, x4]) (.int .i64 4)).run Tryd.prog w = .ok x4 w := by kernel_rfl
set_option maxHeartbeats 8000000 in
set_option maxRecDepth 100000 in
theorem col_Put.calls (k : Nat) (a0_0 : Int) (a0_1 : Int) (a0_2 : Int) (a0_3 : ByteArray) (r1 : ByteArray) (r2 : Int) (w : World) (h : col_Put.f k a0_0 a0_1 a0_2 a0_3 = some (r1, r2)) :
  Calls Tryd.prog 14 #[.agg #[.int .i64 a0_0, .int .i64 a0_1, .int .u64 a0_2, .string a0_3]] w fun e w' => e = .returned (.tuple #[.string r1, .int .i64 r2]) ∧ Below w.heap.size w w' := by
 unfold col_Put.f at h
 obtain ⟨t, hR, h⟩ := Option.bind_eq_some_iff.mp h
 have HR := Aside0.mk hR
 clear hR
 have hu := Tryd.underlying24
 cases t with
 | false =>
  replace h : some ((⟨#[]⟩ : ByteArray), (3 : Int)) = some (r1, r2) := h
  simp only [Option.some.injEq, Prod.mk.injEq] at h
  obtain ⟨rfl, rfl⟩ := h
  go_enter Tryd.func14, Tryd.ntmps14
  go_wp2_with fail
  refine (col_Right.calls k a0_0 a0_1 a0_2 a0_3 false _ HR.out).mono ?_
  rintro e w1 ⟨rfl, hb⟩
  have HB := Aside0.mk (Hand.below_on ((Below.refl w.heap.size w).alloc (Nat.le_refl _) _) hb)
  clear hb
  go_wp2
  go_ret2
  exact ⟨rfl, HB.out⟩
 | true =>
  replace h : col_Put.g k a0_0 a0_1 a0_2 a0_3 = some (r1, r2) := h
  have Hg := Aside0.mk h
  clear h
  go_enter Tryd.func14, Tryd.ntmps14
  go_wp2_with fail
  refine (col_Right.calls k a0_0 a0_1 a0_2 a0_3 true _ HR.out).mono ?_
  rintro e w1 ⟨rfl, hb⟩
  have hblk : w1.heap[w.heap.size]? = some (.cells #[.int .i64 a0_0, .int .i64 a0_1, .int .u64 a0_2, .string a0_3] 24 (0, 0)) := blk_below (heap_alloc_new w _) hb
  have HBK := Aside0.mk hblk
  have HB := Aside0.mk (Hand.below_on ((Below.refl w.heap.size w).alloc (Nat.le_refl _) _) hb)
  have hlt : w.heap.size < w1.heap.size := blk_lt hblk
  have hc0 : w1.cell? ⟨w.heap.size, 0, none⟩ = some (.int .i64 a0_0) := (blk_cell hblk 0).trans rfl
  clear hb hblk
  have hkd : a0_0 = 0 ∨ a0_0 = 1 ∨ a0_0 = 2 ∨ a0_0 = 3 ∨ a0_0 = 4 := by
   have hG := Hg.out
   unfold col_Put.g at hG
   by_cases c0 : a0_0 = 0
   ·exact .inl c0
   by_cases c1 : a0_0 = 1
   ·exact .inr (.inl c1)
   by_cases c2 : a0_0 = 2
   ·exact .inr (.inr (.inl c2))
   by_cases c3 : a0_0 = 3
   ·exact .inr (.inr (.inr (.inl c3)))
   by_cases c4 : a0_0 = 4
   ·exact .inr (.inr (.inr (.inr c4)))
   rw [if_neg c0, if_neg c1, if_neg c2, if_neg c3, if_neg c4] at hG
   exact absurd hG (by simp)
  have hcap : ∀ (kd : Int) (W : World), W = ((w1.alloc (.cells #[.func (.func 32) #[] #[]] 62)).alloc (.cells #[.int .i64 kd] 3)) → Hand.Cap W w1.heap.size (w1.heap.size + 1) w.heap.size kd a0_0 a0_1 a0_2 a0_3 := by
   rintro kd W rfl
   exact ⟨blk_alloc (heap_alloc_new w1 _) _, by simpa using heap_alloc_new (w1.alloc (.cells #[.func (.func 32) #[] #[]] 62)) (.cells #[.int .i64 kd] 3), blk_alloc (blk_alloc HBK.out _) _⟩
  have HCAP := Aside0.mk hcap
  have HBel : ∀ (kd : Int) (W : World), W = ((w1.alloc (.cells #[.func (.func 32) #[] #[]] 62)).alloc (.cells #[.int .i64 kd] 3)) → Below w.heap.size w W := by
   rintro kd W rfl
   exact below_alloc (below_alloc HB.out _) _
  have HBW := Aside0.mk HBel
  clear hcap HBel
  have i0 := col_Put.idx0
  have i1 := col_Put.idx1
  have i2 := col_Put.idx2
  have i3 := col_Put.idx3
  have i4 := col_Put.idx4
  rcases hkd with rfl | rfl | rfl | rfl | rfl
  ·have hG := Hg.out
   clear Hg
   unfold col_Put.g at hG
   rw [if_pos rfl] at hG
   simp only [Option.some.injEq, Prod.mk.injEq] at hG
   obtain ⟨rfl, rfl⟩ := hG
   go_wp2_with fail
   refine (Hand.null_any w1.heap.size (w1.heap.size + 1) w.heap.size 16 0 a0_1 a0_2 a0_3 _ (HCAP.out 16 _ rfl) (by omega) (by omega)).mono ?_
   rintro e w2 ⟨rfl, hb2⟩
   have HB2 := Aside0.mk (Hand.below_on (HBW.out 16 _ rfl) hb2)
   clear hb2
   go_wp2
   go_ret2
   exact ⟨rfl, HB2.out⟩
  ·have hG := Hg.out
   clear Hg
   unfold col_Put.g at hG
   rw [if_neg (by decide), if_pos rfl] at hG
   by_cases h0 : 0 ≤ a0_2
   case neg => rw [if_neg h0] at hG; exact absurd hG (by simp)
   rw [if_pos h0] at hG
   by_cases h1 : a0_2 ≤ 1
   case neg => rw [if_neg h1] at hG; exact absurd hG (by simp)
   rw [if_pos h1] at hG
   simp only [Option.some.injEq, Prod.mk.injEq] at hG
   obtain ⟨rfl, rfl⟩ := hG
   go_wp2_with fail
   refine (Hand.bool_any w1.heap.size (w1.heap.size + 1) w.heap.size 32 1 a0_1 a0_2 a0_3 _ (HCAP.out 32 _ rfl) (by omega) (by omega) (by omega) (by omega)).mono ?_
   rintro e w2 ⟨rfl, hb2⟩
   have HB2 := Aside0.mk (Hand.below_on (HBW.out 32 _ rfl) hb2)
   clear hb2
   go_wp2
   go_ret2
   exact ⟨rfl, HB2.out⟩
  ·have hG := Hg.out
   clear Hg
   unfold col_Put.g at hG
   rw [if_neg (by decide), if_neg (by decide), if_pos rfl] at hG
   simp only [Option.some.injEq, Prod.mk.injEq] at hG
   obtain ⟨rfl, rfl⟩ := hG
   go_wp2_with fail
   refine (Hand.int_any w1.heap.size (w1.heap.size + 1) w.heap.size 48 2 a0_1 a0_2 a0_3 _ (HCAP.out 48 _ rfl) (by omega) (by omega)).mono ?_
   rintro e w2 ⟨rfl, hb2⟩
   have HB2 := Aside0.mk (Hand.below_on (HBW.out 48 _ rfl) hb2)
   clear hb2
   go_wp2
   go_ret2
   exact ⟨rfl, HB2.out⟩
  ·have hG := Hg.out
   clear Hg
   unfold col_Put.g at hG
   rw [if_neg (by decide), if_neg (by decide), if_neg (by decide), if_pos rfl] at hG
   obtain ⟨s, hs, hG⟩ := Option.bind_eq_some_iff.mp hG
   by_cases h0 : s.size ≤ 100
   case neg => rw [if_neg h0] at hG; exact absurd hG (by simp)
   rw [if_pos h0] at hG
   simp only [Option.some.injEq, Prod.mk.injEq] at hG
   obtain ⟨rfl, rfl⟩ := hG
   have HS := Aside0.mk hs
   clear hs
   go_wp2_with fail
   refine (col_Put.uint k w1.heap.size (w1.heap.size + 1) w.heap.size 64 3 a0_1 a0_2 a0_3 s _ (HCAP.out 64 _ rfl) (by omega) (by omega) HS.out h0).mono ?_
   rintro e w2 ⟨rfl, hb2⟩
   have HB2 := Aside0.mk (Hand.below_on (HBW.out 64 _ rfl) hb2)
   clear hb2
   go_wp2
   go_ret2
   exact ⟨rfl, HB2.out⟩
  ·have hG := Hg.out
   clear Hg
   unfold col_Put.g at hG
   rw [if_neg (by decide), if_neg (by decide), if_neg (by decide), if_neg (by decide), if_pos rfl] at hG
   by_cases h0 : a0_3.size ≤ 1000000
   case neg => rw [if_neg h0] at hG; exact absurd hG (by simp)
   rw [if_pos h0] at hG
   simp only [Option.some.injEq, Prod.mk.injEq] at hG
   obtain ⟨rfl, rfl⟩ := hG
   go_wp2_with fail
   refine (Hand.text_any w1.heap.size (w1.heap.size + 1) w.heap.size 80 4 a0_1 a0_2 a0_3 _ (HCAP.out 80 _ rfl) (by omega) (by omega) h0).mono ?_
   rintro e w2 ⟨rfl, hb2⟩
   have HB2 := Aside0.mk (Hand.below_on (HBW.out 80 _ rfl) hb2)
   clear hb2
   go_wp2
   go_ret2
   exact ⟨rfl, HB2.out⟩
end Go.Proofs.YtimnjdgelencpaaDoor.A
