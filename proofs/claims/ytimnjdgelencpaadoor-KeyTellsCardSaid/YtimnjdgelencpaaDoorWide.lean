/- col.wide: a number's eight bytes, the highest first. Condition: the number is below 2^64 and not below 0. -/
import Derived.Test.YtimnjdgelencpaaDoorWords
import Derived.Lib.Hide
import Derived.Test.YtimnjdgelencpaaDoorProg
namespace Go.Proofs.YtimnjdgelencpaaDoor.Hand
open Go.RowKit Go.Proofs Go.Proofs.YtimnjdgelencpaaDoorW
def wideL (n : Int) : List Int := [n / 72057594037927936, n / 281474976710656 % 256, n / 1099511627776 % 256, n / 4294967296 % 256, n / 16777216 % 256, n / 65536 % 256, n / 256 % 256, n % 256]
theorem wide_conv (n : Int) (w : World) : ∀ c : Nat, (convert 57 9 (.slice (some ⟨w.heap.size, 0, none⟩) 8 c)).run Tryd.prog (w.alloc (.cells #[.int .u8 (n / 72057594037927936), .int .u8 (n / 281474976710656 % 256), .int .u8 (n / 1099511627776 % 256), .int .u8 (n / 4294967296 % 256), .int .u8 (n / 16777216 % 256), .int .u8 (n / 65536 % 256), .int .u8 (n / 256 % 256), .int .u8 (n % 256)] 89)) = .ok (.string (strOfNums (wideL n))) (w.alloc (.cells #[.int .u8 (n / 72057594037927936), .int .u8 (n / 281474976710656 % 256), .int .u8 (n / 1099511627776 % 256), .int .u8 (n / 4294967296 % 256), .int .u8 (n / 16777216 % 256), .int .u8 (n / 65536 % 256), .int .u8 (n / 256 % 256), .int .u8 (n % 256)] 89)) := by
  intro c
  refine run_convert_bytes_arg _ 57 5 Tryd.underlying57 Tryd.underlying5 w.heap.size 0 8 c (wideL n) rfl (fun i hi => ?_) 9 Tryd.underlying9
  have e : ∀ j : Nat, j < 8 → (w.alloc (.cells #[.int .u8 (n / 72057594037927936), .int .u8 (n / 281474976710656 % 256), .int .u8 (n / 1099511627776 % 256), .int .u8 (n / 4294967296 % 256), .int .u8 (n / 16777216 % 256), .int .u8 (n / 65536 % 256), .int .u8 (n / 256 % 256), .int .u8 (n % 256)] 89)).cell? ⟨w.heap.size, j, none⟩ = some (.int .u8 ((wideL n).getD j 0)) := by
    intro j hj
    have hb := heap_alloc_new w (.cells #[.int .u8 (n / 72057594037927936), .int .u8 (n / 281474976710656 % 256), .int .u8 (n / 1099511627776 % 256), .int .u8 (n / 4294967296 % 256), .int .u8 (n / 16777216 % 256), .int .u8 (n / 65536 % 256), .int .u8 (n / 256 % 256), .int .u8 (n % 256)] 89)
    rw [PrintWords.blk_cell hb j]
    match j, hj with
    | 0, _ => rfl
    | 1, _ => rfl
    | 2, _ => rfl
    | 3, _ => rfl
    | 4, _ => rfl
    | 5, _ => rfl
    | 6, _ => rfl
    | 7, _ => rfl
  rw [Nat.zero_add]
  exact e i hi
set_option maxHeartbeats 4000000 in
set_option maxRecDepth 100000 in
theorem wide_any (n : Int) (w : World) (h0 : 0 ≤ n) (h1 : n < 18446744073709551616) :
    Calls Tryd.prog 36 #[.int .u64 n] w fun e w' =>
      e = .returned (.string (strOfNums (wideL n))) ∧ Below w.heap.size w w' := by
  go_enter Tryd.func36, Tryd.ntmps36
  go_wp2
  refine wp_loop_rounds 9 ?_
  have hcv := wide_conv n w
  repeat any_goals (rw [rounds_succ]; go_wp2)
  go_ret
  exact ⟨rfl, (Below.refl _ _).alloc (Nat.le_refl _) _⟩
end Go.Proofs.YtimnjdgelencpaaDoor.Hand
