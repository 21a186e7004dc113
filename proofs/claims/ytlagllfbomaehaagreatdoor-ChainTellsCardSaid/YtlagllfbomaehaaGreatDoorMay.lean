/- head.may, head.number of it: what is wrong with a page that is to be, as a number. Condition: the number that tells whether the head may be is known. -/
import Derived.Test.YtlagllfbomaehaaGreatDoorErr
import Derived.Test.YtlagllfbomaehaaGreatDoorAHeadRight
namespace Go.Proofs.YtlagllfbomaehaaGreatDoor.A
open Go Go.RowKit Go.Proofs Go.Proofs.YtlagllfbomaehaaGreatDoorW Go.Proofs.YtlagllfbomaehaaGreatDoorW.PrintWords Go.Proofs.YtlagllfbomaehaaGreatDoor.Hand
set_option linter.unusedVariables false
def FaultOr (w : World) (v : Value) (c : Int) : Prop := (c = 0 ∧ v = .nilIface) ∨ ((c = 4 ∨ c = 3 ∨ c = 8) ∧ IsFault w v c)
theorem number_or (v : Value) (c : Int) (w : World) (h : FaultOr w v c) : Calls Tryz.prog 29 #[v] w fun e w' => e = .returned (.int .i64 c) ∧ Below w.heap.size w w' := by
  rcases h with ⟨rfl, rfl⟩ | ⟨hc, hv⟩
  · exact number_nil w
  · exact number_fault v c w hv hc
theorem bcell {W w1 : World} (hb : Below W.heap.size W w1) : (∀ b o, b < W.heap.size → w1.cell? ⟨b, o, none⟩ = W.cell? ⟨b, o, none⟩) ∧ (∀ b o, b < W.heap.size → w1.frozen? ⟨b, o, none⟩ = W.frozen? ⟨b, o, none⟩) :=
  ⟨fun b o h => hb.cell (p := ⟨b, o, none⟩) h, fun b o h => hb.frozen (p := ⟨b, o, none⟩) h⟩
def mayC (p : Int) (t : Bool) (n : Int) : Int := if sizeB p then (if t then (if n > p - 16 then 8 else 0) else 3) else 4
theorem sizeB_le {p : Int} (h : sizeB p = true) : 128 ≤ p ∧ p ≤ 1024 := by
  have := of_decide_eq_true h
  omega
set_option maxHeartbeats 4000000 in
theorem may_any (k : Nat) (h0 h1 h2 h3 h4 : Int) (body : ByteArray) (p : Int) (t : Bool) (w : World) (hb : body.size ≤ 1000000) (hR : sizeB p = true → head_Right.f k h0 h1 h2 h3 h4 = some t) :
    Calls Tryz.prog 30 #[.agg #[.int .i64 h0, .int .i64 h1, .int .i64 h2, .int .i64 h3, .int .i64 h4], .string body, .int .i64 p] w fun e w' => (∃ v, e = .returned v ∧ FaultOr w' v (mayC p t body.size)) ∧ Below w.heap.size w w' := by
  by_cases hs : sizeB p = true
  · have HR := Lib.hid (hR hs)
    have hp := sizeB_le hs
    clear hR
    cases t with
    | false =>
      rw [show mayC p false body.size = 3 from by unfold mayC; rw [if_pos hs]; rfl]
      go_enter Tryz.func30, Tryz.ntmps30
      go_wp2_with (first
          | (go_at_call 19; refine (size_any _ _).mono ?_; rintro e w1 ⟨rfl, hb1⟩; rw [hs]; obtain ⟨hc1, hf1⟩ := bcell hb1)
          | (go_at_call 50; refine (head_Right.calls k _ _ _ _ _ _ _ HR.out).mono ?_; rintro e w2 ⟨rfl, hb2⟩)
          | (go_at_call 49; refine (fault_any _ _ _).mono ?_; rintro e w3 ⟨⟨v, rfl, hv⟩, hb3⟩))
      go_ret
      exact ⟨⟨v, rfl, .inr ⟨.inr (.inl rfl), hv⟩⟩, below_step (below_step (below_step ((Below.refl w.heap.size w).alloc (Nat.le_refl _) _) hb1) hb2) hb3⟩
    | true =>
      by_cases hbig : (body.size : Int) > p - 16
      · have hg : p - 16 < (body.size : Int) := hbig
        rw [show mayC p true body.size = 8 from by unfold mayC; rw [if_pos hs, if_pos rfl, if_pos hbig]]
        go_enter Tryz.func30, Tryz.ntmps30
        go_wp2_with (first
            | (go_at_call 19; refine (size_any _ _).mono ?_; rintro e w1 ⟨rfl, hb1⟩; rw [hs]; obtain ⟨hc1, hf1⟩ := bcell hb1)
            | (go_at_call 50; refine (head_Right.calls k _ _ _ _ _ _ _ HR.out).mono ?_; rintro e w2 ⟨rfl, hb2⟩)
            | (go_at_call 49; refine (fault_any _ _ _).mono ?_; rintro e w3 ⟨⟨v, rfl, hv⟩, hb3⟩))
        go_ret
        exact ⟨⟨v, rfl, .inr ⟨.inr (.inr rfl), hv⟩⟩, below_step (below_step (below_step ((Below.refl w.heap.size w).alloc (Nat.le_refl _) _) hb1) hb2) hb3⟩
      · have hg : ¬ p - 16 < (body.size : Int) := hbig
        rw [show mayC p true body.size = 0 from by unfold mayC; rw [if_pos hs, if_pos rfl, if_neg hbig]]
        go_enter Tryz.func30, Tryz.ntmps30
        go_wp2_with (first
            | (go_at_call 19; refine (size_any _ _).mono ?_; rintro e w1 ⟨rfl, hb1⟩; rw [hs]; obtain ⟨hc1, hf1⟩ := bcell hb1)
            | (go_at_call 50; refine (head_Right.calls k _ _ _ _ _ _ _ HR.out).mono ?_; rintro e w2 ⟨rfl, hb2⟩)
            | (go_at_call 49; refine (fault_any _ _ _).mono ?_; rintro e w3 ⟨⟨v, rfl, hv⟩, hb3⟩))
        go_ret
        exact ⟨⟨_, rfl, .inl ⟨rfl, rfl⟩⟩, below_step (below_step ((Below.refl w.heap.size w).alloc (Nat.le_refl _) _) hb1) hb2⟩
  · have hs : sizeB p = false := by simpa using hs
    clear hR
    rw [show mayC p t body.size = 4 from by unfold mayC; rw [hs]; rfl]
    go_enter Tryz.func30, Tryz.ntmps30
    go_wp2_with (first
        | (go_at_call 19; refine (size_any _ _).mono ?_; rintro e w1 ⟨rfl, hb1⟩; rw [hs]; obtain ⟨hc1, hf1⟩ := bcell hb1)
        | (go_at_call 49; refine (fault_any _ _ _).mono ?_; rintro e w3 ⟨⟨v, rfl, hv⟩, hb3⟩))
    go_ret
    exact ⟨⟨v, rfl, .inr ⟨.inl rfl, hv⟩⟩, below_step (below_step ((Below.refl w.heap.size w).alloc (Nat.le_refl _) _) hb1) hb3⟩
end Go.Proofs.YtlagllfbomaehaaGreatDoor.A
