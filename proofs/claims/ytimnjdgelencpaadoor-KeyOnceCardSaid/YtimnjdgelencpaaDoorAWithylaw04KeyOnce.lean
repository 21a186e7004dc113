-- Written by this session's drive.py: the print's program with contracts by hand among the functions. Not trusted: Lean checks it.
import Derived.Test.YtimnjdgelencpaaDoorAx0
import Derived.Test.YtimnjdgelencpaaDoorAKeyPut
import Derived.Test.YtimnjdgelencpaaDoorAKeyGet
import Derived.Test.YtimnjdgelencpaaDoorAWithylaw04right
import Derived.Test.YtimnjdgelencpaaDoorAWithylaw04fixed
namespace Go.Proofs.YtimnjdgelencpaaDoor.A
open Go.RowKit Go.Proofs.YtimnjdgelencpaaDoorW.PrintWords Go.Proofs.YtimnjdgelencpaaDoorW.PrintLast Go.Proofs.YtimnjdgelencpaaDoorW.PrintMore
attribute [local go_sem] max2_int min2_int max_two min_two max_three min_three max_four min_four   -- for this text's walks alone
attribute [local go_sem] Go.Proofs.YtimnjdgelencpaaDoor.Own.gtr_string Go.Proofs.YtimnjdgelencpaaDoor.Own.leq_string Go.Proofs.YtimnjdgelencpaaDoor.Own.geq_string Go.Proofs.YtimnjdgelencpaaDoor.Own.ba_get
set_option linter.unusedVariables false
set_option linter.unusedSimpArgs false

/-! ### withylaw04_KeyOnce: function 10 -/
def withylaw04_KeyOnce.f (k : Nat) (a0 : ByteArray) : Option (Bool) := if 0 ≤ (mn (a0.size : Int) 200) then (if (mn (a0.size : Int) 200) ≤ (a0.size : Int) then ((key_Get.f k (a0.extract 0 ((mn (a0.size : Int) 200) : Int).toNat)).bind fun bt643 => (if bt643.2 = 0 then ((key_Put.f k bt643.1).bind fun bt647 => (if bt647.2 = 0 then (if bt647.1.toList = (a0.extract 0 ((mn (a0.size : Int) 200) : Int).toNat).toList then ((withylaw04_right.f k bt643.1).bind fun t649 => (if t649 = true then ((withylaw04_fixed.f k).bind fun t650 => (some t650)) else (none))) else (none)) else (none))) else (if (bt643.1.length : Int) = 0 then ((withylaw04_fixed.f k).bind fun t651 => (some t651)) else (none)))) else (none)) else (none)
theorem withylaw04_KeyOnce.mono : ∀ a0 k, LeO (withylaw04_KeyOnce.f k a0) (withylaw04_KeyOnce.f (k + 1) a0) := by
  intro a0 k
  unfold withylaw04_KeyOnce.f
  repeat' first
      | (with_reducible exact key_Get.mono _ _)
      | (with_reducible exact key_Put.mono _ _)
      | (with_reducible exact withylaw04_fixed.mono _)
      | (with_reducible exact withylaw04_right.mono _ _)
      | (with_reducible exact LeO.refl _)
      | (with_reducible exact LeO.none _)
      | (with_reducible refine LeO.ite ?_ ?_)
      | (with_reducible refine LeO.bind ?_ (fun _ => ?_))
      | exact key_Get.mono _ _
      | exact key_Put.mono _ _
      | exact withylaw04_fixed.mono _
      | exact withylaw04_right.mono _ _
      | exact LeO.none _
      | refine LeO.ite ?_ ?_
      | refine LeO.bind ?_ (fun _ => ?_)
set_option maxHeartbeats 8000000 in
set_option maxRecDepth 100000 in
theorem withylaw04_KeyOnce.calls (k : Nat) (a0 : ByteArray) (r : Bool) (w : World) (h : withylaw04_KeyOnce.f k a0 = some r) :
    Calls Tryd.prog 10 #[.string a0] w fun e w' => e = .returned (.bool r) ∧ Below w.heap.size w w' := by
  have HB := Aside0.mk (Below.refl w.heap.size w)
  have H : (if 0 ≤ (mn (a0.size : Int) 200) then (if (mn (a0.size : Int) 200) ≤ (a0.size : Int) then ((key_Get.f k (a0.extract 0 ((mn (a0.size : Int) 200) : Int).toNat)).bind fun bt643 => (if bt643.2 = 0 then ((key_Put.f k bt643.1).bind fun bt647 => (if bt647.2 = 0 then (if bt647.1.toList = (a0.extract 0 ((mn (a0.size : Int) 200) : Int).toNat).toList then ((withylaw04_right.f k bt643.1).bind fun t649 => (if t649 = true then ((withylaw04_fixed.f k).bind fun t650 => (some t650)) else (none))) else (none)) else (none))) else (if (bt643.1.length : Int) = 0 then ((withylaw04_fixed.f k).bind fun t651 => (some t651)) else (none)))) else (none)) else (none)) = some r := h
  clear h
  obtain ⟨ji2, hji2⟩ : ∃ j_ : Int, (mn (a0.size : Int) 200) = j_ := ⟨_, rfl⟩
  replace H : (if 0 ≤ (ji2) then (if (ji2) ≤ (a0.size : Int) then ((key_Get.f k (a0.extract 0 ((ji2) : Int).toNat)).bind fun bt643 => (if bt643.2 = 0 then ((key_Put.f k bt643.1).bind fun bt647 => (if bt647.2 = 0 then (if bt647.1.toList = (a0.extract 0 ((ji2) : Int).toNat).toList then ((withylaw04_right.f k bt643.1).bind fun t649 => (if t649 = true then ((withylaw04_fixed.f k).bind fun t650 => (some t650)) else (none))) else (none)) else (none))) else (if (bt643.1.length : Int) = 0 then ((withylaw04_fixed.f k).bind fun t651 => (some t651)) else (none)))) else (none)) else (none)) = some r := by first | (rw [hji2] at H; exact H) | (simp only [hji2] at H ⊢; exact H)
  (try (have hji2h : ji2 ≤ 200 := by (rw [← hji2]; unfold mn; (repeat' split) <;> omega)))
  (try (have hji2g : ji2 ≤ 64 := by omega))
  (try (have hji2l : 0 ≤ ji2 := by (rw [← hji2]; unfold mn; (repeat' split) <;> omega)))
  (try (have hji2m : 0 ≤ ji2 := by omega))
  have hji2_ : (if 200 < (a0.size : Int) then 200 else (a0.size : Int)) = ji2 := hji2
  by_cases c3 : 0 ≤ (ji2)
  · rw [if_pos c3] at H
    have c3b0 := eq_true c3
    have c3b1 : decide (0 ≤ (ji2)) = true := decide_eq_true c3
    clear c3
    by_cases c4 : (ji2) ≤ (a0.size : Int)
    · rw [if_pos c4] at H
      have c4b0 := eq_true c4
      have c4b1 : decide ((ji2) ≤ (a0.size : Int)) = true := decide_eq_true c4
      clear c4
      replace H := Option.bind_eq_some_iff.mp H
      obtain ⟨⟨t643, t644⟩, A50, H⟩ := H
      replace H : (if t644 = 0 then ((key_Put.f k t643).bind fun bt647 => (if bt647.2 = 0 then (if bt647.1.toList = (a0.extract 0 ((ji2) : Int).toNat).toList then ((withylaw04_right.f k t643).bind fun t649 => (if t649 = true then ((withylaw04_fixed.f k).bind fun t650 => (some t650)) else (none))) else (none)) else (none))) else (if (t643.length : Int) = 0 then ((withylaw04_fixed.f k).bind fun t651 => (some t651)) else (none))) = some r := H
      have A5 := Aside0.mk A50
      clear A50
      by_cases c6 : t644 = 0
      · rw [if_pos c6] at H
        have c6b0 : (t644 == 0) = true := beq_iff_eq.mpr c6
        have c6b1 : (t644 != 0) = false := bne_eq_false_iff_eq.mpr c6
        clear c6
        replace H := Option.bind_eq_some_iff.mp H
        obtain ⟨⟨t647, t648⟩, A70, H⟩ := H
        replace H : (if t648 = 0 then (if t647.toList = (a0.extract 0 ((ji2) : Int).toNat).toList then ((withylaw04_right.f k t643).bind fun t649 => (if t649 = true then ((withylaw04_fixed.f k).bind fun t650 => (some t650)) else (none))) else (none)) else (none)) = some r := H
        have A7 := Aside0.mk A70
        clear A70
        by_cases c8 : t648 = 0
        · rw [if_pos c8] at H
          have c8b0 : (t648 == 0) = true := beq_iff_eq.mpr c8
          have c8b1 : (t648 != 0) = false := bne_eq_false_iff_eq.mpr c8
          clear c8
          by_cases c9 : t647.toList = (a0.extract 0 ((ji2) : Int).toNat).toList
          · rw [if_pos c9] at H
            have c9b0 : (t647.toList == (a0.extract 0 ((ji2) : Int).toNat).toList) = true := beq_iff_eq.mpr c9
            have c9b1 : (t647.toList != (a0.extract 0 ((ji2) : Int).toNat).toList) = false := bne_eq_false_iff_eq.mpr c9
            clear c9
            replace H := Option.bind_eq_some_iff.mp H
            obtain ⟨t649, A100, H⟩ := H
            replace H : (if t649 = true then ((withylaw04_fixed.f k).bind fun t650 => (some t650)) else (none)) = some r := H
            have A10 := Aside0.mk A100
            clear A100
            by_cases c11 : t649 = true
            · subst c11
              have H1 : ((withylaw04_fixed.f k).bind fun t650 => (some t650)) = some r := by rw [if_pos rfl] at H; exact H
              clear H
              have H := H1
              clear H1
              replace H := Option.bind_eq_some_iff.mp H
              obtain ⟨t650, A120, H⟩ := H
              replace H : (some t650) = some r := H
              have A12 := Aside0.mk A120
              clear A120
              obtain rfl := Option.some.inj H
              go_enter Tryd.func10, Tryd.ntmps10
              go_wp2_with (first | ((with_reducible refine gate_callee (f := 23) rfl ?_); refine goesL_ (some 14) rfl rfl Tryd.func23 (by kernel_rfl) rfl #[.string (a0.extract 0 ((ji2) : Int).toNat)] rfl (by (try simp only [List.map_toArray, List.map_cons, List.map_nil]); first | done | (simp only [hji2]; rfl) | rfl | (simp only [List.length_drop, List.length_take]; rfl)) ?_; (with_reducible refine (key_Get.calls k (a0.extract 0 ((ji2) : Int).toNat) t643 t644 _ A5.out).mono ?_); rintro e w13 ⟨v645, rfl, ho0, hb⟩; refine ⟨_, rfl, ?_⟩; have n0_ := Aside0.mk (Kd.R_lower ho0 (below_size (by repeat (first | (with_reducible first | exact HB.out | apply below_alloc | apply pw_below_drewN | apply below_drew1) | exact HB.out)))); have n1_ := Aside0.mk (below_step (by repeat (first | (with_reducible first | exact HB.out | apply below_alloc | apply pw_below_drewN | apply below_drew1) | exact HB.out)) hb); clear HB; have HO646 := n0_; have HB := n1_; clear n0_ n1_; (try clear hb); (try clear hb2); (try clear hk); (try clear hi); (try clear ho0); obtain ⟨Ao14, co14, eo14⟩ := Kd.R_slice HO646.out; subst eo14) | ((with_reducible refine gate_callee (f := 20) rfl ?_); refine goesL_ (some 27) rfl rfl Tryd.func20 (by kernel_rfl) rfl #[.slice Ao14 t643.length co14] rfl (by (try simp only [List.map_toArray, List.map_cons, List.map_nil]); first | done | rfl | (simp only [List.length_drop, List.length_take]; rfl)) ?_; (with_reducible refine (key_Put.calls k _ _ t643 t647 t648 _ ?side1 ?side2 A7.out).mono ?_); (case side1 => repeat (first | exact (Kd.R_reads' HO646.out).2.2 | (with_reducible refine Kd.C_alloc ?_ _) | (with_reducible refine Kd.C_drewN ?_ _) | (with_reducible refine Kd.C_drew ?_))); (case side2 => exact (Kd.R_reads' HO646.out).2.1); rintro e w15 ⟨rfl, hb⟩; refine ⟨_, rfl, ?_⟩; have n0_ := Aside0.mk (Kd.R_below (by (with_reducible repeat (first | apply Kd.R_alloc | apply Kd.R_drewN | apply Kd.R_drew)); exact HO646.out) hb); have n1_ := Aside0.mk (below_step (by repeat (first | (with_reducible first | exact HB.out | apply below_alloc | apply pw_below_drewN | apply below_drew1) | exact HB.out)) hb); clear HO646; clear HB; have HO646 := n0_; have HB := n1_; clear n0_ n1_; (try clear hb); (try clear hb2); (try clear hk); (try clear hi)) | (go_at_call 27; (with_reducible refine (withylaw04_right.calls k _ _ t643 true _ ?side1 ?side2 A10.out).mono ?_); (case side1 => repeat (first | exact (Kd.R_reads' HO646.out).2.2 | (with_reducible refine Kd.C_alloc ?_ _) | (with_reducible refine Kd.C_drewN ?_ _) | (with_reducible refine Kd.C_drew ?_))); (case side2 => exact (Kd.R_reads' HO646.out).2.1); rintro e w16 ⟨rfl, hb⟩; have n0_ := Aside0.mk (Kd.R_below (by (with_reducible repeat (first | apply Kd.R_alloc | apply Kd.R_drewN | apply Kd.R_drew)); exact HO646.out) hb); have n1_ := Aside0.mk (below_step (by repeat (first | (with_reducible first | exact HB.out | apply below_alloc | apply pw_below_drewN | apply below_drew1) | exact HB.out)) hb); clear HO646; clear HB; have HO646 := n0_; have HB := n1_; clear n0_ n1_; (try clear hb); (try clear hb2); (try clear hk); (try clear hi)) | (go_at_call 31; (with_reducible refine (withylaw04_fixed.calls k  t650 _ A12.out).mono ?_); rintro e w17 ⟨rfl, hb⟩; have n0_ := Aside0.mk (Kd.R_below (by (with_reducible repeat (first | apply Kd.R_alloc | apply Kd.R_drewN | apply Kd.R_drew)); exact HO646.out) hb); have n1_ := Aside0.mk (below_step (by repeat (first | (with_reducible first | exact HB.out | apply below_alloc | apply pw_below_drewN | apply below_drew1) | exact HB.out)) hb); clear HO646; clear HB; have HO646 := n0_; have HB := n1_; clear n0_ n1_; (try clear hb); (try clear hb2); (try clear hk); (try clear hi)))
              go_ret
              exact ⟨by first | rfl | (simp [errW_none, errW_some] <;> rfl) | (simp only [← hji2]; first | rfl | (simp [errW_none, errW_some] <;> rfl)) | (simp [*, errW_none, errW_some] <;> rfl), by repeat (first | (with_reducible first | exact HB.out | apply below_alloc | apply pw_below_drewN | apply below_drew1) | exact HB.out)⟩
            · replace c11 := Bool.eq_false_iff.mpr c11
              subst c11
              have H1 : (none) = some r := by rw [if_neg (show ¬ (false = true) by decide)] at H; exact H
              clear H
              have H := H1
              clear H1
              exact absurd H (by simp)
          · rw [if_neg c9] at H
            exact absurd H (by simp)
        · rw [if_neg c8] at H
          exact absurd H (by simp)
      · rw [if_neg c6] at H
        have c6b0 : (t644 == 0) = false := beq_eq_false_iff_ne.mpr c6
        have c6b1 : (t644 != 0) = true := bne_iff_ne.mpr c6
        by_cases c18 : (t643.length : Int) = 0
        · rw [if_pos c18] at H
          have c18b0 : ((t643.length : Int) == 0) = true := beq_iff_eq.mpr c18
          have c18b1 : ((t643.length : Int) != 0) = false := bne_eq_false_iff_eq.mpr c18
          clear c18
          replace H := Option.bind_eq_some_iff.mp H
          obtain ⟨t651, A190, H⟩ := H
          replace H : (some t651) = some r := H
          have A19 := Aside0.mk A190
          clear A190
          obtain rfl := Option.some.inj H
          go_enter Tryd.func10, Tryd.ntmps10
          go_wp2_with (first | ((with_reducible refine gate_callee (f := 23) rfl ?_); refine goesL_ (some 14) rfl rfl Tryd.func23 (by kernel_rfl) rfl #[.string (a0.extract 0 ((ji2) : Int).toNat)] rfl (by (try simp only [List.map_toArray, List.map_cons, List.map_nil]); first | done | (simp only [hji2]; rfl) | rfl | (simp only [List.length_drop, List.length_take]; rfl)) ?_; (with_reducible refine (key_Get.calls k (a0.extract 0 ((ji2) : Int).toNat) t643 t644 _ A5.out).mono ?_); rintro e w20 ⟨v645, rfl, ho0, hb⟩; refine ⟨_, rfl, ?_⟩; have n0_ := Aside0.mk (Kd.R_lower ho0 (below_size (by repeat (first | (with_reducible first | exact HB.out | apply below_alloc | apply pw_below_drewN | apply below_drew1) | exact HB.out)))); have n1_ := Aside0.mk (below_step (by repeat (first | (with_reducible first | exact HB.out | apply below_alloc | apply pw_below_drewN | apply below_drew1) | exact HB.out)) hb); clear HB; have HO646 := n0_; have HB := n1_; clear n0_ n1_; (try clear hb); (try clear hb2); (try clear hk); (try clear hi); (try clear ho0); obtain ⟨Ao21, co21, eo21⟩ := Kd.R_slice HO646.out; subst eo21) | (go_at_call 31; (with_reducible refine (withylaw04_fixed.calls k  t651 _ A19.out).mono ?_); rintro e w22 ⟨rfl, hb⟩; have n0_ := Aside0.mk (Kd.R_below (by (with_reducible repeat (first | apply Kd.R_alloc | apply Kd.R_drewN | apply Kd.R_drew)); exact HO646.out) hb); have n1_ := Aside0.mk (below_step (by repeat (first | (with_reducible first | exact HB.out | apply below_alloc | apply pw_below_drewN | apply below_drew1) | exact HB.out)) hb); clear HO646; clear HB; have HO646 := n0_; have HB := n1_; clear n0_ n1_; (try clear hb); (try clear hb2); (try clear hk); (try clear hi)))
          go_ret
          exact ⟨by first | rfl | (simp [errW_none, errW_some] <;> rfl) | (simp only [← hji2]; first | rfl | (simp [errW_none, errW_some] <;> rfl)) | (simp [*, errW_none, errW_some] <;> rfl), by repeat (first | (with_reducible first | exact HB.out | apply below_alloc | apply pw_below_drewN | apply below_drew1) | exact HB.out)⟩
        · rw [if_neg c18] at H
          exact absurd H (by simp)
    · rw [if_neg c4] at H
      exact absurd H (by simp)
  · rw [if_neg c3] at H
    exact absurd H (by simp)

end Go.Proofs.YtimnjdgelencpaaDoor.A
