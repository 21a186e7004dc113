/- Cuts of texts, sizes of columns: small words of the laws of columns. -/
import Derived.Test.YtimnjdgelencpaaDoorCol
import Derived.Test.YtimnjdgelencpaaDoorAG4
namespace Go.Proofs.YtimnjdgelencpaaDoor.A
open Go Go.RowKit Go.Proofs Go.Proofs.YtimnjdgelencpaaDoorW Go.Proofs.YtimnjdgelencpaaDoorW.PrintWords Go.Proofs.YtimnjdgelencpaaDoorW.PrintMore Go.Proofs.YtimnjdgelencpaaDoor.Spec
set_option linter.unusedSimpArgs false
set_option linter.unusedVariables false
def s60 (s : ByteArray) : ByteArray := s.extract 0 (mn (s.size : Int) 60).toNat
theorem mn_le (a b : Int) (h : 0 ≤ a) (hb : 0 ≤ b) : 0 ≤ mn a b ∧ mn a b ≤ a ∧ mn a b ≤ b := by unfold mn; split <;> omega
theorem cutn (s : ByteArray) (m : Int) (hm : 0 ≤ m) : (s.extract 0 (mn (s.size : Int) m).toNat).size ≤ m.toNat := by
  have := mn_le (s.size : Int) m (by omega) hm
  rw [ByteArray.size_extract]; omega
theorem s60_size (s : ByteArray) : (s60 s).size ≤ 60 := cutn s 60 (by decide)
theorem cut_eq (k i u : Int) (s : ByteArray) : withylaw03_Cut.f k i u s = some (k, i, u, s60 s) := by
  have := mn_le (s.size : Int) 60 (by omega) (by decide)
  unfold withylaw03_Cut.f
  rw [if_pos this.1, if_pos this.2.1]; rfl
theorem cput_len (c : Cl) : (cput c).length ≤ 2 * c.s.length + 20 := by
  have h1 := vput_len c.u.toNat
  have h2 := esc_le c.s
  unfold cput
  (repeat' split) <;> simp [be_len] <;> omega
end Go.Proofs.YtimnjdgelencpaaDoor.A
