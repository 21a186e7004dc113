/- disk.Size, word.Four: what they answer. Condition: a number of 32 bits. -/
import Derived.Test.YtlagllfbomaehaaGreatDoorWords
import Derived.Lib.Hide
import Derived.Test.YtlagllfbomaehaaGreatDoorProg
namespace Go.Proofs.YtlagllfbomaehaaGreatDoor.Hand
open Go.RowKit Go.Proofs Go.Proofs.YtlagllfbomaehaaGreatDoorW
def sizeB (p : Int) : Bool := decide (p = 128 ∨ p = 256 ∨ p = 512 ∨ p = 1024)
theorem idx4_0 (x0 x1 x2 x3 : Value) (w : World) : (Instr.index 59 (.agg #[x0, x1, x2, x3]) (.int .i64 0)).run Tryz.prog w = .ok x0 w := by kernel_rfl
theorem idx4_1 (x0 x1 x2 x3 : Value) (w : World) : (Instr.index 59 (.agg #[x0, x1, x2, x3]) (.int .i64 1)).run Tryz.prog w = .ok x1 w := by kernel_rfl
theorem idx4_2 (x0 x1 x2 x3 : Value) (w : World) : (Instr.index 59 (.agg #[x0, x1, x2, x3]) (.int .i64 2)).run Tryz.prog w = .ok x2 w := by kernel_rfl
theorem idx4_3 (x0 x1 x2 x3 : Value) (w : World) : (Instr.index 59 (.agg #[x0, x1, x2, x3]) (.int .i64 3)).run Tryz.prog w = .ok x3 w := by kernel_rfl
theorem sizes_any (w : World) : Calls Tryz.prog 28 #[] w fun e w' => e = .returned (.agg #[.int .i64 128, .int .i64 256, .int .i64 512, .int .i64 1024]) ∧ Below w.heap.size w w' := by
  go_enter Tryz.func28, Tryz.ntmps28
  go_wp2
  exact bodyPost_ret (v := .agg #[.int .i64 128, .int .i64 256, .int .i64 512, .int .i64 1024]) (by simp [results, Tryz.results28, go_sem]) rfl ⟨rfl, (Below.refl _ _).alloc (Nat.le_refl _) _⟩
set_option maxHeartbeats 1000000 in
theorem size_any (p : Int) (w : World) : Calls Tryz.prog 19 #[.int .i64 p] w fun e w' => e = .returned (.bool (sizeB p)) ∧ Below w.heap.size w w' := by
  have h0 := idx4_0
  have h1 := idx4_1
  have h2 := idx4_2
  have h3 := idx4_3
  unfold sizeB
  by_cases c0 : p = 128
  · subst c0
    go_enter Tryz.func19, Tryz.ntmps19
    go_wp2_with (go_at_call 28; refine (sizes_any _).mono ?_; rintro e w' ⟨rfl, hb⟩)
    refine wp_loop_rounds 5 ?_
    repeat any_goals (rw [rounds_succ]; go_wp2)
    go_ret
    exact ⟨rfl, hb⟩
  by_cases c1 : p = 256
  · subst c1
    go_enter Tryz.func19, Tryz.ntmps19
    go_wp2_with (go_at_call 28; refine (sizes_any _).mono ?_; rintro e w' ⟨rfl, hb⟩)
    refine wp_loop_rounds 5 ?_
    repeat any_goals (rw [rounds_succ]; go_wp2)
    go_ret
    exact ⟨rfl, hb⟩
  by_cases c2 : p = 512
  · subst c2
    go_enter Tryz.func19, Tryz.ntmps19
    go_wp2_with (go_at_call 28; refine (sizes_any _).mono ?_; rintro e w' ⟨rfl, hb⟩)
    refine wp_loop_rounds 5 ?_
    repeat any_goals (rw [rounds_succ]; go_wp2)
    go_ret
    exact ⟨rfl, hb⟩
  by_cases c3 : p = 1024
  · subst c3
    go_enter Tryz.func19, Tryz.ntmps19
    go_wp2_with (go_at_call 28; refine (sizes_any _).mono ?_; rintro e w' ⟨rfl, hb⟩)
    refine wp_loop_rounds 5 ?_
    repeat any_goals (rw [rounds_succ]; go_wp2)
    go_ret
    exact ⟨rfl, hb⟩
  have e0 : ((128 : Int) == p) = false := beq_eq_false_iff_ne.mpr (fun h => c0 h.symm)
  have e1 : ((256 : Int) == p) = false := beq_eq_false_iff_ne.mpr (fun h => c1 h.symm)
  have e2 : ((512 : Int) == p) = false := beq_eq_false_iff_ne.mpr (fun h => c2 h.symm)
  have e3 : ((1024 : Int) == p) = false := beq_eq_false_iff_ne.mpr (fun h => c3 h.symm)
  have hd : decide (p = 128 ∨ p = 256 ∨ p = 512 ∨ p = 1024) = false := decide_eq_false (by omega)
  rw [hd]
  clear hd c0 c1 c2 c3
  go_enter Tryz.func19, Tryz.ntmps19
  go_wp2_with (go_at_call 28; refine (sizes_any _).mono ?_; rintro e w' ⟨rfl, hb⟩)
  refine wp_loop_rounds 5 ?_
  repeat any_goals (rw [rounds_succ]; go_wp2)
  go_ret
  exact ⟨rfl, hb⟩
def fourL (n : Int) : List Int := [n % 256, n / 256 % 256, n / 65536 % 256, n / 16777216]
theorem four_conv (n : Int) (w : World) : ∀ c : Nat, (convert 71 9 (.slice (some ⟨w.heap.size, 0, none⟩) 4 c)).run Tryz.prog (w.alloc (.cells #[.int .u8 (n % 256), .int .u8 (n / 256 % 256), .int .u8 (n / 65536 % 256), .int .u8 (n / 16777216)] 88)) = .ok (.string (strOfNums (fourL n))) (w.alloc (.cells #[.int .u8 (n % 256), .int .u8 (n / 256 % 256), .int .u8 (n / 65536 % 256), .int .u8 (n / 16777216)] 88)) := by
  intro c
  refine run_convert_bytes_arg _ 71 5 Tryz.underlying71 Tryz.underlying5 w.heap.size 0 4 c (fourL n) rfl (fun i hi => ?_) 9 Tryz.underlying9
  have e : ∀ j : Nat, j < 4 → (w.alloc (.cells #[.int .u8 (n % 256), .int .u8 (n / 256 % 256), .int .u8 (n / 65536 % 256), .int .u8 (n / 16777216)] 88)).cell? ⟨w.heap.size, j, none⟩ = some (.int .u8 ((fourL n).getD j 0)) := by
    intro j hj
    have hb := heap_alloc_new w (.cells #[.int .u8 (n % 256), .int .u8 (n / 256 % 256), .int .u8 (n / 65536 % 256), .int .u8 (n / 16777216)] 88)
    rw [PrintWords.blk_cell hb j]
    match j, hj with
    | 0, _ => rfl
    | 1, _ => rfl
    | 2, _ => rfl
    | 3, _ => rfl
  rw [Nat.zero_add]
  exact e i hi
set_option maxHeartbeats 4000000 in
set_option maxRecDepth 100000 in
theorem four_any (n : Int) (w : World) (h0 : 0 ≤ n) (h1 : n < 4294967296) :
    Calls Tryz.prog 32 #[.int .u32 n] w fun e w' =>
      e = .returned (.string (strOfNums (fourL n))) ∧ Below w.heap.size w w' := by
  go_enter Tryz.func32, Tryz.ntmps32
  go_wp2
  refine wp_loop_rounds 5 ?_
  have hcv := four_conv n w
  repeat any_goals (rw [rounds_succ]; go_wp2)
  go_ret
  exact ⟨rfl, (Below.refl _ _).alloc (Nat.le_refl _) _⟩
end Go.Proofs.YtlagllfbomaehaaGreatDoor.Hand
