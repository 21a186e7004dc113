/- The closures of col.Put, each by what it captured. -/
import Derived.Test.YtimnjdgelencpaaDoorWide
import Derived.Test.YtimnjdgelencpaaDoorRepl
import Derived.Deep.RegionHeld3
import Derived.OpenShut
namespace Go.Proofs.YtimnjdgelencpaaDoor.Hand
open Go.RowKit Go.Proofs Go.Proofs.YtimnjdgelencpaaDoorW
theorem one_conv (n : Int) (w : World) : ∀ c : Nat, (convert 57 9 (.slice (some ⟨w.heap.size, 0, none⟩) 1 c)).run Tryd.prog (w.alloc (.cells #[.int .u8 n] 5)) = .ok (.string (strOfNums [n])) (w.alloc (.cells #[.int .u8 n] 5)) := by
 intro c
 refine run_convert_bytes_arg _ 57 5 Tryd.underlying57 Tryd.underlying5 w.heap.size 0 1 c [n] rfl (fun i hi => ?_) 9 Tryd.underlying9
 obtain rfl : i = 0 := by omega
 rw [PrintWords.blk_cell (heap_alloc_new w (.cells #[.int .u8 n] 5)) (0 + 0)]
 rfl
set_option maxHeartbeats 1000000 in
theorem first_any (n : Int) (w : World) (h0 : 0 ≤ n) (h1 : n < 256) :
  Calls Tryd.prog 32 #[.int .i64 n] w fun e w' => e = .returned (.string (strOfNums [n])) ∧ Below w.heap.size w w' := by
 have hcv := one_conv n w
 go_enter Tryd.func32, Tryd.ntmps32
 go_wp2
 go_ret
 exact ⟨rfl, (Below.refl _ _).alloc (Nat.le_refl _) _⟩
structure Cap (w : World) (p4 p5 p1 : Nat) (kd c0 c1 c2 : Int) (c3 : ByteArray) : Prop where
 h4 : w.heap[p4]? = some (.cells #[.func (.func 32) #[] #[]] 62 (0, 0))
 h5 : w.heap[p5]? = some (.cells #[.int .i64 kd] 3 (0, 0))
 h1 : w.heap[p1]? = some (.cells #[.int .i64 c0, .int .i64 c1, .int .u64 c2, .string c3] 24 (0, 0))
set_option maxHeartbeats 1000000 in
theorem null_any (p4 p5 p1 : Nat) (kd c0 c1 c2 : Int) (c3 : ByteArray) (w : World) (hc : Cap w p4 p5 p1 kd c0 c1 c2 c3) (h0 : 0 ≤ kd) (h1 : kd < 256) :
  Calls Tryd.prog 33 #[.pointer (some ⟨p4, 0, none⟩), .pointer (some ⟨p5, 0, none⟩)] w fun e w' => e = .returned (.string (strOfNums [kd])) ∧ Below w.heap.size w w' := by
 have k4 : w.cell? ⟨p4, 0, none⟩ = some (.func (.func 32) #[] #[]) := (PrintWords.blk_cell hc.h4 0).trans rfl
 have k5 : w.cell? ⟨p5, 0, none⟩ = some (.int .i64 kd) := (PrintWords.blk_cell hc.h5 0).trans rfl
 clear hc
 go_enter Tryd.func33, Tryd.ntmps33
 go_wp2_with fail
 refine (first_any kd _ h0 h1).mono ?_
 rintro e w1 ⟨rfl, hb⟩
 go_wp2
 go_ret
 exact ⟨rfl, hb⟩
theorem below_cell {w W : World} (hb : Below W.heap.size W w) {a : Addr} {v : Value} (h : W.cell? a = some v) : w.cell? a = some v := PrintWords.pw_cell_below hb h
theorem below_on {w W W1 : World} (h : Below w.heap.size w W) (hb : Below W.heap.size W W1) : Below w.heap.size w W1 := PrintWords.below_then h h.size hb
set_option maxHeartbeats 4000000 in
theorem bool_any (p4 p5 p1 : Nat) (kd c0 c1 c2 : Int) (c3 : ByteArray) (w : World) (hc : Cap w p4 p5 p1 kd c0 c1 c2 c3) (h0 : 0 ≤ kd) (h1 : kd < 200) (h2 : 0 ≤ c2) (h3 : c2 < 50) :
  Calls Tryd.prog 34 #[.pointer (some ⟨p4, 0, none⟩), .pointer (some ⟨p5, 0, none⟩), .pointer (some ⟨p1, 0, none⟩)] w fun e w' => e = .returned (.string (strOfNums [kd + c2])) ∧ Below w.heap.size w w' := by
 have k4 : w.cell? ⟨p4, 0, none⟩ = some (.func (.func 32) #[] #[]) := (PrintWords.blk_cell hc.h4 0).trans rfl
 have k5 : w.cell? ⟨p5, 0, none⟩ = some (.int .i64 kd) := (PrintWords.blk_cell hc.h5 0).trans rfl
 have k1 : w.cell? ⟨p1, 2, none⟩ = some (.int .u64 c2) := (PrintWords.blk_cell hc.h1 2).trans rfl
 clear hc
 go_enter Tryd.func34, Tryd.ntmps34
 go_wp2_with fail
 refine (first_any (kd + c2) _ (by omega) (by omega)).mono ?_
 rintro e w1 ⟨rfl, hb⟩
 go_wp2
 go_ret
 exact ⟨rfl, hb⟩
theorem xor_range (c : Int) : 0 ≤ Go.bits .xor .u64 (IntKind.u64.wrap c) 9223372036854775808 ∧ Go.bits .xor .u64 (IntKind.u64.wrap c) 9223372036854775808 < 18446744073709551616 := by
 have h := bounds_u64 (wf_bits .xor .u64 (IntKind.u64.wrap c) 9223372036854775808)
 exact ⟨h.1, by have := h.2; omega⟩
set_option maxHeartbeats 4000000 in
theorem int_any (p4 p5 p1 : Nat) (kd c0 c1 c2 : Int) (c3 : ByteArray) (w : World) (hc : Cap w p4 p5 p1 kd c0 c1 c2 c3) (h0 : 0 ≤ kd) (h1 : kd < 256) :
  Calls Tryd.prog 35 #[.pointer (some ⟨p4, 0, none⟩), .pointer (some ⟨p5, 0, none⟩), .pointer (some ⟨p1, 0, none⟩)] w fun e w' => e = .returned (.string (strOfNums [kd] ++ strOfNums (wideL (Go.bits .xor .u64 (IntKind.u64.wrap c1) 9223372036854775808)))) ∧ Below w.heap.size w w' := by
 have k4 : w.cell? ⟨p4, 0, none⟩ = some (.func (.func 32) #[] #[]) := (PrintWords.blk_cell hc.h4 0).trans rfl
 have k5 : w.cell? ⟨p5, 0, none⟩ = some (.int .i64 kd) := (PrintWords.blk_cell hc.h5 0).trans rfl
 have k1 : w.cell? ⟨p1, 1, none⟩ = some (.int .i64 c1) := (PrintWords.blk_cell hc.h1 1).trans rfl
 clear hc
 go_enter Tryd.func35, Tryd.ntmps35
 go_wp2_with fail
 have hB0 := Below.refl w.heap.size w
 have hx := xor_range c1
 have hsz : (strOfNums [kd]).size + (strOfNums (wideL (Go.bits .xor .u64 (IntKind.u64.wrap c1) 9223372036854775808))).size ≤ 9223372036854775807 := by
  rw [strOfNums_size, strOfNums_size]; show 1 + 8 ≤ _; omega
 have hsz1 := eq_true hsz
 have hsz2 := decide_eq_true hsz
 have hsz3 : (9223372036854775807 < (strOfNums [kd]).size + (strOfNums (wideL (Go.bits .xor .u64 (IntKind.u64.wrap c1) 9223372036854775808))).size) = False := eq_false (Nat.not_lt.2 hsz)
 go_region_held3 (fun W => W.cell? ⟨p4, 0, none⟩ = some (.func (.func 32) #[] #[]) ∧ W.cell? ⟨p5, 0, none⟩ = some (.int .i64 kd) ∧ W.cell? ⟨p1, 1, none⟩ = some (.int .i64 c1) ∧ Below w.heap.size w W)
  (first | (go_split_ands; exact ⟨below_cell hb (by assumption), below_cell hb (by assumption), below_cell hb (by assumption), below_on (by assumption) hb⟩) | (go_split_ands; exact ⟨by assumption, by assumption, by assumption, PrintWords.below_drew (by assumption)⟩))
  (first
   | (go_at_call 32; refine (first_any kd _ h0 h1).mono ?_; rintro e w1 ⟨rfl, hb⟩)
   | (go_at_call 36; refine (wide_any _ _ hx.1 hx.2).mono ?_; rintro e w1 ⟨rfl, hb⟩))
 go_wp2
 go_ret
 go_split_ands
 exact ⟨rfl, by assumption⟩
set_option maxHeartbeats 4000000 in
theorem text_any (p4 p5 p1 : Nat) (kd c0 c1 c2 : Int) (c3 : ByteArray) (w : World) (hc : Cap w p4 p5 p1 kd c0 c1 c2 c3) (h0 : 0 ≤ kd) (h1 : kd < 256) (hs : c3.size ≤ 1000000) :
  Calls Tryd.prog 39 #[.pointer (some ⟨p4, 0, none⟩), .pointer (some ⟨p5, 0, none⟩), .pointer (some ⟨p1, 0, none⟩)] w fun e w' => e = .returned (.string (strOfNums [kd] ++ ⟨(esc0 c3.data.toList).toArray⟩ ++ ⟨#[0, 1]⟩)) ∧ Below w.heap.size w w' := by
 have k4 : w.cell? ⟨p4, 0, none⟩ = some (.func (.func 32) #[] #[]) := (PrintWords.blk_cell hc.h4 0).trans rfl
 have k5 : w.cell? ⟨p5, 0, none⟩ = some (.int .i64 kd) := (PrintWords.blk_cell hc.h5 0).trans rfl
 have k1 : w.cell? ⟨p1, 3, none⟩ = some (.string c3) := (PrintWords.blk_cell hc.h1 3).trans rfl
 clear hc
 go_enter Tryd.func39, Tryd.ntmps39
 go_wp2_with fail
 have hB0 := Below.refl w.heap.size w
 obtain ⟨y, hy⟩ : ∃ y : ByteArray, (⟨(esc0 c3.data.toList).toArray⟩ : ByteArray) = y := ⟨_, rfl⟩
 have hR := replaceAll0 c3
 rw [hy] at hR
 have hys : y.size ≤ 2000000 := by
  rw [← hy]
  have e := esc0_len c3.data.toList
  have c := count_le c3.data.toList
  have l : c3.data.toList.length = c3.size := (Lib.size_eq c3).symm
  show (esc0 c3.data.toList).toArray.size ≤ _
  rw [List.size_toArray]
  omega
 have hsz : (strOfNums [kd]).size + y.size ≤ 9223372036854775807 := by
  rw [strOfNums_size]; show 1 + _ ≤ _; omega
 have hszb : (strOfNums [kd] ++ y).size + (⟨#[0, 1]⟩ : ByteArray).size ≤ 9223372036854775807 := by
  rw [ByteArray.size_append, strOfNums_size]; show 1 + _ + 2 ≤ _; omega
 have HY := Lib.hid hy
 clear hy
 have hsz1 := eq_true hsz
 have hsz2 := decide_eq_true hsz
 have hsz3 : (9223372036854775807 < (strOfNums [kd]).size + y.size) = False := eq_false (Nat.not_lt.2 hsz)
 have hsz4 := eq_true hszb
 have hsz5 := decide_eq_true hszb
 have hsz6 : (9223372036854775807 < (strOfNums [kd] ++ y).size + (⟨#[0, 1]⟩ : ByteArray).size) = False := eq_false (Nat.not_lt.2 hszb)
 have hsz7 : (9223372036854775807 < (strOfNums [kd]).size + y.size + (⟨#[0, 1]⟩ : ByteArray).size) = False := by rw [← ByteArray.size_append]; exact hsz6
 have hsz8 : (9223372036854775807 < (strOfNums [kd]).size + y.size + 2) = False := hsz7
 go_region_held3 (fun W => W.cell? ⟨p4, 0, none⟩ = some (.func (.func 32) #[] #[]) ∧ W.cell? ⟨p5, 0, none⟩ = some (.int .i64 kd) ∧ W.cell? ⟨p1, 3, none⟩ = some (.string c3) ∧ Below w.heap.size w W)
  (first | (go_split_ands; exact ⟨below_cell hb (by assumption), below_cell hb (by assumption), below_cell hb (by assumption), below_on (by assumption) hb⟩) | (go_split_ands; exact ⟨by assumption, by assumption, by assumption, PrintWords.below_drew (by assumption)⟩))
  (first
   | (go_at_call 32; refine (first_any kd _ h0 h1).mono ?_; rintro e w1 ⟨rfl, hb⟩)
   | (go_at_call 40; refine (hR _ hs).mono ?_; rintro e w1 ⟨rfl, hb⟩))
 go_wp2
 go_ret
 go_split_ands
 exact ⟨by rw [HY.out]; rfl, by assumption⟩
end Go.Proofs.YtimnjdgelencpaaDoor.Hand
