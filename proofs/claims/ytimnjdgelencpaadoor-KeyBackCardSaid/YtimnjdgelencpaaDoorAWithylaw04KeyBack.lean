-- Written by this session's drive.py: the print's program with contracts by hand among the functions. Not trusted: Lean checks it.
import Derived.Test.YtimnjdgelencpaaDoorAx0
import Derived.Test.YtimnjdgelencpaaDoorAWithylaw04Cut
import Derived.Test.YtimnjdgelencpaaDoorAKeyPut
import Derived.Test.YtimnjdgelencpaaDoorAWithylaw04Ref
import Derived.Test.YtimnjdgelencpaaDoorAKeyGet
import Derived.Test.YtimnjdgelencpaaDoorAWithylaw04right
import Derived.Test.YtimnjdgelencpaaDoorAWithyref04Same
import Derived.Test.YtimnjdgelencpaaDoorAWithylaw04fixed
namespace Go.Proofs.YtimnjdgelencpaaDoor.A
open Go.RowKit Go.Proofs.YtimnjdgelencpaaDoorW.PrintWords Go.Proofs.YtimnjdgelencpaaDoorW.PrintLast Go.Proofs.YtimnjdgelencpaaDoorW.PrintMore
attribute [local go_sem] max2_int min2_int max_two min_two max_three min_three max_four min_four   -- for this text's walks alone
attribute [local go_sem] Go.Proofs.YtimnjdgelencpaaDoor.Own.gtr_string Go.Proofs.YtimnjdgelencpaaDoor.Own.leq_string Go.Proofs.YtimnjdgelencpaaDoor.Own.geq_string Go.Proofs.YtimnjdgelencpaaDoor.Own.ba_get
set_option linter.unusedVariables false
set_option linter.unusedSimpArgs false

/-! ### withylaw04_KeyBack: function 9 -/
def withylaw04_KeyBack.j0 : Nat → List (S24) → Int → Int → ByteArray → Int → Bool → Option (Bool)
  | 0, _, _, _, _, _, _ => none
  | k + 1, x0, x1, x2, x7, x8, x28 => if x28 = true then (if x8 = 3 then (if x7.toList = ([] : List UInt8) then ((withylaw04_right.f k x0).bind fun t618 => (if t618 = true then (none) else ((withylaw04_fixed.f k).bind fun t619 => (some t619)))) else (none)) else (none)) else ((key_Get.f k x7).bind fun bt620 => (if (x7.size : Int) = 0 then (none) else (if 0 ≤ (Int.tmod (wrap64 (x1)) (x7.size : Int)) then (if (Int.tmod (wrap64 (x1)) (x7.size : Int)) ≤ (x7.size : Int) then ((key_Get.f k (x7.extract 0 ((Int.tmod (wrap64 (x1)) (x7.size : Int)) : Int).toNat)).bind fun bt624 => ((some (([x2] : List Int) : List Int)).bind fun y628 => (if x7.size + (strOfNums y628).size ≤ 9223372036854775807 then ((key_Get.f k (x7 ++ (strOfNums y628))).bind fun bt631 => ((withylaw04_Ref.f k bt620.1).bind fun t635 => ((withylaw04_Ref.f k x0).bind fun t638 => ((withyref04_Same.f k t635 t638).bind fun t641 => (if t641 = true then (if bt620.2 = 0 then (if bt624.2 = 7 then (if bt631.2 = 3 then ((withylaw04_fixed.f k).bind fun t642 => (some t642)) else (none)) else (none)) else (none)) else (none)))))) else (none)))) else (none)) else (none))))
def withylaw04_KeyBack.f (k : Nat) (l0 : List (S24)) (a1 : Int) (a2 : Int) : Option (Bool) := (withylaw04_Cut.f k l0).bind fun t613 => ((key_Put.f k t613).bind fun bt616 => (if bt616.2 = 0 then (withylaw04_KeyBack.j0 k t613 a1 a2 bt616.1 bt616.2 ((bt616.1.size : Int) == 0)) else (withylaw04_KeyBack.j0 k t613 a1 a2 bt616.1 bt616.2 true)))
theorem withylaw04_KeyBack.mono_l : ∀ k, (∀ y0 y1 y2 y3 y4 y5, LeO (withylaw04_KeyBack.j0 k y0 y1 y2 y3 y4 y5) (withylaw04_KeyBack.j0 (k + 1) y0 y1 y2 y3 y4 y5))
  | 0 => fun _ _ _ _ _ _ r h => by simp [withylaw04_KeyBack.j0] at h
  | k + 1 => by
    have ih0 := withylaw04_KeyBack.mono_l k
    · intro y0 y1 y2 y3 y4 y5
      unfold withylaw04_KeyBack.j0
      repeat' first
      | (with_reducible exact ih0 _ _ _ _ _ _)
      | (with_reducible exact key_Get.mono _ _)
      | (with_reducible exact key_Put.mono _ _)
      | (with_reducible exact withylaw04_Cut.mono _ _)
      | (with_reducible exact withylaw04_Ref.mono _ _)
      | (with_reducible exact withylaw04_fixed.mono _)
      | (with_reducible exact withylaw04_right.mono _ _)
      | (with_reducible exact withyref04_Same.mono _ _ _)
      | (with_reducible exact LeO.refl _)
      | (with_reducible exact LeO.none _)
      | (with_reducible refine LeO.ite ?_ ?_)
      | (with_reducible refine LeO.bind ?_ (fun _ => ?_))
      | exact ih0 _ _ _ _ _ _
      | exact key_Get.mono _ _
      | exact key_Put.mono _ _
      | exact withylaw04_Cut.mono _ _
      | exact withylaw04_Ref.mono _ _
      | exact withylaw04_fixed.mono _
      | exact withylaw04_right.mono _ _
      | exact withyref04_Same.mono _ _ _
      | exact LeO.none _
      | refine LeO.ite ?_ ?_
      | refine LeO.bind ?_ (fun _ => ?_)
theorem withylaw04_KeyBack.mono : ∀ a0 a1 a2 k, LeO (withylaw04_KeyBack.f k a0 a1 a2) (withylaw04_KeyBack.f (k + 1) a0 a1 a2) := by
  intro a0 a1 a2 k
  have ih0 := withylaw04_KeyBack.mono_l k
  unfold withylaw04_KeyBack.f
  repeat' first
      | (with_reducible exact ih0 _ _ _ _ _ _)
      | (with_reducible exact key_Get.mono _ _)
      | (with_reducible exact key_Put.mono _ _)
      | (with_reducible exact withylaw04_Cut.mono _ _)
      | (with_reducible exact withylaw04_Ref.mono _ _)
      | (with_reducible exact withylaw04_fixed.mono _)
      | (with_reducible exact withylaw04_right.mono _ _)
      | (with_reducible exact withyref04_Same.mono _ _ _)
      | (with_reducible exact LeO.refl _)
      | (with_reducible exact LeO.none _)
      | (with_reducible refine LeO.ite ?_ ?_)
      | (with_reducible refine LeO.bind ?_ (fun _ => ?_))
      | exact ih0 _ _ _ _ _ _
      | exact key_Get.mono _ _
      | exact key_Put.mono _ _
      | exact withylaw04_Cut.mono _ _
      | exact withylaw04_Ref.mono _ _
      | exact withylaw04_fixed.mono _
      | exact withylaw04_right.mono _ _
      | exact withyref04_Same.mono _ _ _
      | exact LeO.none _
      | refine LeO.ite ?_ ?_
      | refine LeO.bind ?_ (fun _ => ?_)
set_option maxHeartbeats 8000000 in
set_option maxRecDepth 100000 in
theorem withylaw04_KeyBack.calls (k : Nat) (A0 : Option Addr) (c0 : Nat) (l0 : List (S24)) (a1 : Int) (a2 : Int) (r : Bool) (w : World) (hr0 : Kd.C k24 w A0 l0.length l0) (hc0 : l0.length ≤ c0) (h : withylaw04_KeyBack.f k l0 a1 a2 = some r) :
    Calls Tryd.prog 9 #[.slice A0 l0.length c0, .int .u8 a1, .int .u8 a2] w fun e w' => e = .returned (.bool r) ∧ Below w.heap.size w w' := by
  have HR0 := Aside0.mk hr0
  have HC0 := Aside0.mk hc0
  clear hr0 hc0
  have HB := Aside0.mk (Below.refl w.heap.size w)
  have H : ((withylaw04_Cut.f k l0).bind fun t613 => ((key_Put.f k t613).bind fun bt616 => (if bt616.2 = 0 then (withylaw04_KeyBack.j0 k t613 a1 a2 bt616.1 bt616.2 ((bt616.1.size : Int) == 0)) else (withylaw04_KeyBack.j0 k t613 a1 a2 bt616.1 bt616.2 true)))) = some r := h
  clear h
  replace H := Option.bind_eq_some_iff.mp H
  obtain ⟨t613, A40, H⟩ := H
  replace H : ((key_Put.f k t613).bind fun bt616 => (if bt616.2 = 0 then (withylaw04_KeyBack.j0 k t613 a1 a2 bt616.1 bt616.2 ((bt616.1.size : Int) == 0)) else (withylaw04_KeyBack.j0 k t613 a1 a2 bt616.1 bt616.2 true))) = some r := H
  have A4 := Aside0.mk A40
  clear A40
  replace H := Option.bind_eq_some_iff.mp H
  obtain ⟨⟨t616, t617⟩, A50, H⟩ := H
  replace H : (if t617 = 0 then (withylaw04_KeyBack.j0 k t613 a1 a2 t616 t617 ((t616.size : Int) == 0)) else (withylaw04_KeyBack.j0 k t613 a1 a2 t616 t617 true)) = some r := H
  have A5 := Aside0.mk A50
  clear A50
  have HC6 := Aside0.mk H
  clear H
  go_enter Tryd.func9, Tryd.ntmps9
  go_upto_region 3 with (first | ((with_reducible refine gate_callee (f := 19) rfl ?_); refine goesL_ (some 16) rfl rfl Tryd.func19 (by kernel_rfl) rfl #[.slice A0 l0.length c0] rfl (by (try simp only [List.map_toArray, List.map_cons, List.map_nil]); first | done | rfl | (simp only [List.length_drop, List.length_take]; rfl)) ?_; (with_reducible refine (withylaw04_Cut.calls k _ _ l0 t613 _ ?side1 ?side2 A4.out).mono ?_); (case side1 => repeat (first | exact HR0.out | (with_reducible refine Kd.C_alloc ?_ _) | (with_reducible refine Kd.C_drewN ?_ _) | (with_reducible refine Kd.C_drew ?_))); (case side2 => exact HC0.out); rintro e w7 ⟨v614, rfl, ho0, hb⟩; refine ⟨_, rfl, ?_⟩; have n0_ := Aside0.mk (Kd.R_lower ho0 (below_size (by repeat (first | (with_reducible first | exact HB.out | apply below_alloc | apply pw_below_drewN | apply below_drew1) | exact HB.out)))); have n1_ := Aside0.mk (below_step (by repeat (first | (with_reducible first | exact HB.out | apply below_alloc | apply pw_below_drewN | apply below_drew1) | exact HB.out)) hb); clear HB; have HO615 := n0_; have HB := n1_; clear n0_ n1_; (try clear hb); (try clear hb2); (try clear hk); (try clear hi); (try clear ho0); obtain ⟨Ao8, co8, eo8⟩ := Kd.R_slice HO615.out; subst eo8) | ((with_reducible refine gate_callee (f := 20) rfl ?_); refine goesL_ (some 19) rfl rfl Tryd.func20 (by kernel_rfl) rfl #[.slice Ao8 t613.length co8] rfl (by (try simp only [List.map_toArray, List.map_cons, List.map_nil]); first | done | rfl | (simp only [List.length_drop, List.length_take]; rfl)) ?_; (with_reducible refine (key_Put.calls k _ _ t613 t616 t617 _ ?side1 ?side2 A5.out).mono ?_); (case side1 => repeat (first | exact (Kd.R_reads' HO615.out).2.2 | (with_reducible refine Kd.C_alloc ?_ _) | (with_reducible refine Kd.C_drewN ?_ _) | (with_reducible refine Kd.C_drew ?_))); (case side2 => exact (Kd.R_reads' HO615.out).2.1); rintro e w9 ⟨rfl, hb⟩; refine ⟨_, rfl, ?_⟩; have n0_ := Aside0.mk (Kd.R_below (by (with_reducible repeat (first | apply Kd.R_alloc | apply Kd.R_drewN | apply Kd.R_drew)); exact HO615.out) hb); have n1_ := Aside0.mk (below_step (by repeat (first | (with_reducible first | exact HB.out | apply below_alloc | apply pw_below_drewN | apply below_drew1) | exact HB.out)) hb); clear HO615; clear HB; have HO615 := n0_; have HB := n1_; clear n0_ n1_; (try clear hb); (try clear hb2); (try clear hk); (try clear hi)))
  (try simp only [Act.put, List.setIfInBounds_toArray, List.set_cons_zero, List.set_cons_succ])
  go_cut [28] (fun v28 wc => ∃ (kq : Nat) (x28_5 : Bool), v28 = .bool x28_5 ∧ Aside0 (withylaw04_KeyBack.j0 kq t613 a1 a2 t616 t617 x28_5 = some r) ∧ Aside0 (kq ≤ k) ∧ Aside0 (Kd.R k24 24 wc w.heap.size (fun _ => True) (.slice Ao8 t613.length co8) t613) ∧ Aside0 (Below w.heap.size w wc))
  case first =>
    have H := HC6.out
    clear HC6
    by_cases c10 : t617 = 0
    · rw [if_pos c10] at H
      have c10b0 : (t617 == 0) = true := beq_iff_eq.mpr c10
      have c10b1 : (t617 != 0) = false := bne_eq_false_iff_eq.mpr c10
      clear c10
      (first | rw [c10b0] | (simp only [i64_w, i32_w]; rw [c10b0]) | skip)
      have H' := Aside0.mk H
      clear H
      go_wp2
      go_meet
      case rel => exact ⟨_, (((t616.size : Int) == 0)), (by first | rfl | (simp; done) | (simp [*]; done)), H', ⟨by first | omega | exact Nat.le_refl _⟩, ⟨by (with_reducible repeat (first | apply Kd.R_alloc | apply Kd.R_drewN | apply Kd.R_drew)); exact HO615.out⟩, ⟨by repeat (first | (with_reducible first | exact HB.out | apply below_alloc | apply pw_below_drewN | apply below_drew1) | exact HB.out)⟩⟩
    · rw [if_neg c10] at H
      have c10b0 : (t617 == 0) = false := beq_eq_false_iff_ne.mpr c10
      have c10b1 : (t617 != 0) = true := bne_iff_ne.mpr c10
      (first | rw [c10b0] | (simp only [i64_w, i32_w]; rw [c10b0]) | skip)
      have H' := Aside0.mk H
      clear H
      go_wp2
      go_meet
      case rel => exact ⟨_, (true), (by first | rfl | (simp; done) | (simp [*]; done)), H', ⟨by first | omega | exact Nat.le_refl _⟩, ⟨by (with_reducible repeat (first | apply Kd.R_alloc | apply Kd.R_drewN | apply Kd.R_drew)); exact HO615.out⟩, ⟨by repeat (first | (with_reducible first | exact HB.out | apply below_alloc | apply pw_below_drewN | apply below_drew1) | exact HB.out)⟩⟩
  case rest =>
    clear HC6
    try clear c1
    try clear c2
    try clear p2
    try clear c9
    try clear c10
    try clear c10b0
    try clear c10b1
    obtain ⟨kq, x28_5, rfl, HA, HJ5, HO_0, HB⟩ := hcut
    cases kq with
    | zero => exact absurd HA.out (by simp [withylaw04_KeyBack.j0])
    | succ kj5 =>
      have H := HA.out
      clear HA
      simp only [withylaw04_KeyBack.j0] at H
      by_cases c11 : x28_5 = true
      · subst c11
        have H1 : (if t617 = 3 then (if t616.toList = ([] : List UInt8) then ((withylaw04_right.f kj5 t613).bind fun t618 => (if t618 = true then (none) else ((withylaw04_fixed.f kj5).bind fun t619 => (some t619)))) else (none)) else (none)) = some r := by rw [if_pos rfl] at H; exact H
        clear H
        have H := H1
        clear H1
        by_cases c12 : t617 = 3
        · rw [if_pos c12] at H
          have c12b0 : (t617 == 3) = true := beq_iff_eq.mpr c12
          have c12b1 : (t617 != 3) = false := bne_eq_false_iff_eq.mpr c12
          clear c12
          by_cases c13 : t616.toList = ([] : List UInt8)
          · rw [if_pos c13] at H
            have c13b0 : (t616.toList == ([] : List UInt8)) = true := beq_iff_eq.mpr c13
            have c13b1 : (t616.toList != ([] : List UInt8)) = false := bne_eq_false_iff_eq.mpr c13
            clear c13
            replace H := Option.bind_eq_some_iff.mp H
            obtain ⟨t618, A140, H⟩ := H
            replace H : (if t618 = true then (none) else ((withylaw04_fixed.f kj5).bind fun t619 => (some t619))) = some r := H
            have A14 := Aside0.mk A140
            clear A140
            by_cases c15 : t618 = true
            · subst c15
              have H1 : (none) = some r := by rw [if_pos rfl] at H; exact H
              clear H
              have H := H1
              clear H1
              exact absurd H (by simp)
            · replace c15 := Bool.eq_false_iff.mpr c15
              subst c15
              have H1 : ((withylaw04_fixed.f kj5).bind fun t619 => (some t619)) = some r := by rw [if_neg (show ¬ (false = true) by decide)] at H; exact H
              clear H
              have H := H1
              clear H1
              replace H := Option.bind_eq_some_iff.mp H
              obtain ⟨t619, A160, H⟩ := H
              replace H : (some t619) = some r := H
              have A16 := Aside0.mk A160
              clear A160
              obtain rfl := Option.some.inj H
              go_wp2_with (first | (go_at_call 27; (with_reducible refine (withylaw04_right.calls kj5 _ _ t613 false _ ?side1 ?side2 A14.out).mono ?_); (case side1 => repeat (first | exact (Kd.R_reads' HO_0.out).2.2 | (with_reducible refine Kd.C_alloc ?_ _) | (with_reducible refine Kd.C_drewN ?_ _) | (with_reducible refine Kd.C_drew ?_))); (case side2 => exact (Kd.R_reads' HO_0.out).2.1); rintro e w17 ⟨rfl, hb⟩; have n0_ := Aside0.mk (Kd.R_below (by (with_reducible repeat (first | apply Kd.R_alloc | apply Kd.R_drewN | apply Kd.R_drew)); exact HO_0.out) hb); have n1_ := Aside0.mk (below_step (by repeat (first | (with_reducible first | exact HB.out | apply below_alloc | apply pw_below_drewN | apply below_drew1) | exact HB.out)) hb); clear HO_0; clear HB; have HO_0 := n0_; have HB := n1_; clear n0_ n1_; (try clear hb); (try clear hb2); (try clear hk); (try clear hi)) | (go_at_call 31; (with_reducible refine (withylaw04_fixed.calls kj5  t619 _ A16.out).mono ?_); rintro e w18 ⟨rfl, hb⟩; have n0_ := Aside0.mk (Kd.R_below (by (with_reducible repeat (first | apply Kd.R_alloc | apply Kd.R_drewN | apply Kd.R_drew)); exact HO_0.out) hb); have n1_ := Aside0.mk (below_step (by repeat (first | (with_reducible first | exact HB.out | apply below_alloc | apply pw_below_drewN | apply below_drew1) | exact HB.out)) hb); clear HO_0; clear HB; have HO_0 := n0_; have HB := n1_; clear n0_ n1_; (try clear hb); (try clear hb2); (try clear hk); (try clear hi)))
              go_ret
              exact ⟨by first | rfl | (simp [errW_none, errW_some] <;> rfl) | (simp [*, errW_none, errW_some] <;> rfl), by repeat (first | (with_reducible first | exact HB.out | apply below_alloc | apply pw_below_drewN | apply below_drew1) | exact HB.out)⟩
          · rw [if_neg c13] at H
            exact absurd H (by simp)
        · rw [if_neg c12] at H
          exact absurd H (by simp)
      · replace c11 := Bool.eq_false_iff.mpr c11
        subst c11
        have H1 : ((key_Get.f kj5 t616).bind fun bt620 => (if (t616.size : Int) = 0 then (none) else (if 0 ≤ (Int.tmod (wrap64 (a1)) (t616.size : Int)) then (if (Int.tmod (wrap64 (a1)) (t616.size : Int)) ≤ (t616.size : Int) then ((key_Get.f kj5 (t616.extract 0 ((Int.tmod (wrap64 (a1)) (t616.size : Int)) : Int).toNat)).bind fun bt624 => ((some (([a2] : List Int) : List Int)).bind fun y628 => (if t616.size + (strOfNums y628).size ≤ 9223372036854775807 then ((key_Get.f kj5 (t616 ++ (strOfNums y628))).bind fun bt631 => ((withylaw04_Ref.f kj5 bt620.1).bind fun t635 => ((withylaw04_Ref.f kj5 t613).bind fun t638 => ((withyref04_Same.f kj5 t635 t638).bind fun t641 => (if t641 = true then (if bt620.2 = 0 then (if bt624.2 = 7 then (if bt631.2 = 3 then ((withylaw04_fixed.f kj5).bind fun t642 => (some t642)) else (none)) else (none)) else (none)) else (none)))))) else (none)))) else (none)) else (none)))) = some r := by rw [if_neg (show ¬ (false = true) by decide)] at H; exact H
        clear H
        have H := H1
        clear H1
        replace H := Option.bind_eq_some_iff.mp H
        obtain ⟨⟨t620, t621⟩, A190, H⟩ := H
        replace H : (if (t616.size : Int) = 0 then (none) else (if 0 ≤ (Int.tmod (wrap64 (a1)) (t616.size : Int)) then (if (Int.tmod (wrap64 (a1)) (t616.size : Int)) ≤ (t616.size : Int) then ((key_Get.f kj5 (t616.extract 0 ((Int.tmod (wrap64 (a1)) (t616.size : Int)) : Int).toNat)).bind fun bt624 => ((some (([a2] : List Int) : List Int)).bind fun y628 => (if t616.size + (strOfNums y628).size ≤ 9223372036854775807 then ((key_Get.f kj5 (t616 ++ (strOfNums y628))).bind fun bt631 => ((withylaw04_Ref.f kj5 t620).bind fun t635 => ((withylaw04_Ref.f kj5 t613).bind fun t638 => ((withyref04_Same.f kj5 t635 t638).bind fun t641 => (if t641 = true then (if t621 = 0 then (if bt624.2 = 7 then (if bt631.2 = 3 then ((withylaw04_fixed.f kj5).bind fun t642 => (some t642)) else (none)) else (none)) else (none)) else (none)))))) else (none)))) else (none)) else (none))) = some r := H
        have A19 := Aside0.mk A190
        clear A190
        by_cases c20 : (t616.size : Int) = 0
        · rw [if_pos c20] at H
          exact absurd H (by simp)
        · rw [if_neg c20] at H
          have c20b0 : ((t616.size : Int) == 0) = false := beq_eq_false_iff_ne.mpr c20
          have c20b1 : ((t616.size : Int) != 0) = true := bne_iff_ne.mpr c20
          obtain ⟨ji21, hji21⟩ : ∃ j_ : Int, (Int.tmod (wrap64 (a1)) (t616.size : Int)) = j_ := ⟨_, rfl⟩
          replace H : (if 0 ≤ (ji21) then (if (ji21) ≤ (t616.size : Int) then ((key_Get.f kj5 (t616.extract 0 ((ji21) : Int).toNat)).bind fun bt624 => ((some (([a2] : List Int) : List Int)).bind fun y628 => (if t616.size + (strOfNums y628).size ≤ 9223372036854775807 then ((key_Get.f kj5 (t616 ++ (strOfNums y628))).bind fun bt631 => ((withylaw04_Ref.f kj5 t620).bind fun t635 => ((withylaw04_Ref.f kj5 t613).bind fun t638 => ((withyref04_Same.f kj5 t635 t638).bind fun t641 => (if t641 = true then (if t621 = 0 then (if bt624.2 = 7 then (if bt631.2 = 3 then ((withylaw04_fixed.f kj5).bind fun t642 => (some t642)) else (none)) else (none)) else (none)) else (none)))))) else (none)))) else (none)) else (none)) = some r := by first | (rw [hji21] at H; exact H) | (simp only [hji21] at H ⊢; exact H)
          (try rw [hji21] at A19)
          by_cases c22 : 0 ≤ (ji21)
          · rw [if_pos c22] at H
            have c22b0 := eq_true c22
            have c22b1 : decide (0 ≤ (ji21)) = true := decide_eq_true c22
            clear c22
            by_cases c23 : (ji21) ≤ (t616.size : Int)
            · rw [if_pos c23] at H
              have c23b0 := eq_true c23
              have c23b1 : decide ((ji21) ≤ (t616.size : Int)) = true := decide_eq_true c23
              clear c23
              replace H := Option.bind_eq_some_iff.mp H
              obtain ⟨⟨t624, t625⟩, A240, H⟩ := H
              replace H : ((some (([a2] : List Int) : List Int)).bind fun y628 => (if t616.size + (strOfNums y628).size ≤ 9223372036854775807 then ((key_Get.f kj5 (t616 ++ (strOfNums y628))).bind fun bt631 => ((withylaw04_Ref.f kj5 t620).bind fun t635 => ((withylaw04_Ref.f kj5 t613).bind fun t638 => ((withyref04_Same.f kj5 t635 t638).bind fun t641 => (if t641 = true then (if t621 = 0 then (if t625 = 7 then (if bt631.2 = 3 then ((withylaw04_fixed.f kj5).bind fun t642 => (some t642)) else (none)) else (none)) else (none)) else (none)))))) else (none))) = some r := H
              have A24 := Aside0.mk A240
              clear A240
              obtain ⟨y628, hy628⟩ : ∃ y_ : List Int, y_ = (([a2] : List Int)) := ⟨_, rfl⟩
              replace H : (if t616.size + (strOfNums y628).size ≤ 9223372036854775807 then ((key_Get.f kj5 (t616 ++ (strOfNums y628))).bind fun bt631 => ((withylaw04_Ref.f kj5 t620).bind fun t635 => ((withylaw04_Ref.f kj5 t613).bind fun t638 => ((withyref04_Same.f kj5 t635 t638).bind fun t641 => (if t641 = true then (if t621 = 0 then (if t625 = 7 then (if bt631.2 = 3 then ((withylaw04_fixed.f kj5).bind fun t642 => (some t642)) else (none)) else (none)) else (none)) else (none)))))) else (none)) = some r := by first | (rw [hy628]; with_reducible exact H) | (have H2_ := (Option.bind_some _ _).symm.trans H; rw [hy628]; with_reducible exact H2_) | (have H2_ := (Option.bind_some _ _).symm.trans H; with_reducible exact H2_) | with_reducible exact H | (rw [hy628]; exact H) | exact H
              have Ny628 := Aside0.mk hy628
              clear hy628
              by_cases c25 : t616.size + (strOfNums y628).size ≤ 9223372036854775807
              · rw [if_pos c25] at H
                have c25b0 := eq_true c25
                have c25b1 : decide (t616.size + (strOfNums y628).size ≤ 9223372036854775807) = true := decide_eq_true c25
                try have c25b2 : (9223372036854775807 < t616.size + (strOfNums y628).size) = False := eq_false (Nat.not_lt.2 c25)
                replace H := Option.bind_eq_some_iff.mp H
                obtain ⟨⟨t631, t632⟩, A260, H⟩ := H
                replace H : ((withylaw04_Ref.f kj5 t620).bind fun t635 => ((withylaw04_Ref.f kj5 t613).bind fun t638 => ((withyref04_Same.f kj5 t635 t638).bind fun t641 => (if t641 = true then (if t621 = 0 then (if t625 = 7 then (if t632 = 3 then ((withylaw04_fixed.f kj5).bind fun t642 => (some t642)) else (none)) else (none)) else (none)) else (none))))) = some r := H
                have A26 := Aside0.mk A260
                clear A260
                replace H := Option.bind_eq_some_iff.mp H
                obtain ⟨t635, A270, H⟩ := H
                replace H : ((withylaw04_Ref.f kj5 t613).bind fun t638 => ((withyref04_Same.f kj5 t635 t638).bind fun t641 => (if t641 = true then (if t621 = 0 then (if t625 = 7 then (if t632 = 3 then ((withylaw04_fixed.f kj5).bind fun t642 => (some t642)) else (none)) else (none)) else (none)) else (none)))) = some r := H
                have A27 := Aside0.mk A270
                clear A270
                replace H := Option.bind_eq_some_iff.mp H
                obtain ⟨t638, A280, H⟩ := H
                replace H : ((withyref04_Same.f kj5 t635 t638).bind fun t641 => (if t641 = true then (if t621 = 0 then (if t625 = 7 then (if t632 = 3 then ((withylaw04_fixed.f kj5).bind fun t642 => (some t642)) else (none)) else (none)) else (none)) else (none))) = some r := H
                have A28 := Aside0.mk A280
                clear A280
                replace H := Option.bind_eq_some_iff.mp H
                obtain ⟨t641, A290, H⟩ := H
                replace H : (if t641 = true then (if t621 = 0 then (if t625 = 7 then (if t632 = 3 then ((withylaw04_fixed.f kj5).bind fun t642 => (some t642)) else (none)) else (none)) else (none)) else (none)) = some r := H
                have A29 := Aside0.mk A290
                clear A290
                by_cases c30 : t641 = true
                · subst c30
                  have H1 : (if t621 = 0 then (if t625 = 7 then (if t632 = 3 then ((withylaw04_fixed.f kj5).bind fun t642 => (some t642)) else (none)) else (none)) else (none)) = some r := by rw [if_pos rfl] at H; exact H
                  clear H
                  have H := H1
                  clear H1
                  by_cases c31 : t621 = 0
                  · rw [if_pos c31] at H
                    have c31b0 : (t621 == 0) = true := beq_iff_eq.mpr c31
                    have c31b1 : (t621 != 0) = false := bne_eq_false_iff_eq.mpr c31
                    clear c31
                    by_cases c32 : t625 = 7
                    · rw [if_pos c32] at H
                      have c32b0 : (t625 == 7) = true := beq_iff_eq.mpr c32
                      have c32b1 : (t625 != 7) = false := bne_eq_false_iff_eq.mpr c32
                      clear c32
                      by_cases c33 : t632 = 3
                      · rw [if_pos c33] at H
                        have c33b0 : (t632 == 3) = true := beq_iff_eq.mpr c33
                        have c33b1 : (t632 != 3) = false := bne_eq_false_iff_eq.mpr c33
                        clear c33
                        replace H := Option.bind_eq_some_iff.mp H
                        obtain ⟨t642, A340, H⟩ := H
                        replace H : (some t642) = some r := H
                        have A34 := Aside0.mk A340
                        clear A340
                        obtain rfl := Option.some.inj H
                        go_wp2_with (first | ((with_reducible refine gate_callee (f := 23) rfl ?_); refine goesL_ (some 45) rfl rfl Tryd.func23 (by kernel_rfl) rfl #[.string t616] rfl (by (try simp only [List.map_toArray, List.map_cons, List.map_nil]); first | done | rfl | (simp only [List.length_drop, List.length_take]; rfl)) ?_; (with_reducible refine (key_Get.calls kj5 t616 t620 t621 _ A19.out).mono ?_); rintro e w35 ⟨v622, rfl, ho0, hb⟩; refine ⟨_, rfl, ?_⟩; have n0_ := Aside0.mk (Kd.R_elder' (by (with_reducible repeat (first | apply Kd.R_alloc | apply Kd.R_drewN | apply Kd.R_drew)); exact HO_0.out) (Kd.R_base ho0) hb); have n1_ := Aside0.mk (Kd.R_lower (Kd.R_new' ho0 (Kd.R_lt (by (with_reducible repeat (first | apply Kd.R_alloc | apply Kd.R_drewN | apply Kd.R_drew)); exact HO_0.out))) (below_size (by repeat (first | (with_reducible first | exact HB.out | apply below_alloc | apply pw_below_drewN | apply below_drew1) | exact HB.out)))); have n2_ := Aside0.mk (below_step (by repeat (first | (with_reducible first | exact HB.out | apply below_alloc | apply pw_below_drewN | apply below_drew1) | exact HB.out)) hb); clear HO_0; clear HB; have HO_0 := n0_; have HO623 := n1_; have HB := n2_; clear n0_ n1_ n2_; (try clear hb); (try clear hb2); (try clear hk); (try clear hi); (try clear ho0)) | ((with_reducible refine gate_callee (f := 23) rfl ?_); refine goesL_ (some 56) rfl rfl Tryd.func23 (by kernel_rfl) rfl #[.string (t616.extract 0 ((ji21) : Int).toNat)] rfl (by (try simp only [List.map_toArray, List.map_cons, List.map_nil]); first | done | (simp only [hji21]; rfl) | rfl | (simp only [List.length_drop, List.length_take]; rfl)) ?_; (with_reducible refine (key_Get.calls kj5 (t616.extract 0 ((ji21) : Int).toNat) t624 t625 _ A24.out).mono ?_); rintro e w36 ⟨v626, rfl, ho0, hb⟩; refine ⟨_, rfl, ?_⟩; have n0_ := Aside0.mk (Kd.R_elder' (by (with_reducible repeat (first | apply Kd.R_alloc | apply Kd.R_drewN | apply Kd.R_drew)); exact HO_0.out) (Kd.R_base ho0) hb); have n1_ := Aside0.mk (Kd.R_elder' (by (with_reducible repeat (first | apply Kd.R_alloc | apply Kd.R_drewN | apply Kd.R_drew)); exact HO623.out) (Kd.R_base ho0) hb); have n2_ := Aside0.mk (Kd.R_lower (Kd.R_new' (Kd.R_new' ho0 (Kd.R_lt (by (with_reducible repeat (first | apply Kd.R_alloc | apply Kd.R_drewN | apply Kd.R_drew)); exact HO_0.out))) (Kd.R_lt (by (with_reducible repeat (first | apply Kd.R_alloc | apply Kd.R_drewN | apply Kd.R_drew)); exact HO623.out))) (below_size (by repeat (first | (with_reducible first | exact HB.out | apply below_alloc | apply pw_below_drewN | apply below_drew1) | exact HB.out)))); have n3_ := Aside0.mk (below_step (by repeat (first | (with_reducible first | exact HB.out | apply below_alloc | apply pw_below_drewN | apply below_drew1) | exact HB.out)) hb); clear HO_0; clear HO623; clear HB; have HO_0 := n0_; have HO623 := n1_; have HO627 := n2_; have HB := n3_; clear n0_ n1_ n2_ n3_; (try clear hb); (try clear hb2); (try clear hk); (try clear hi); (try clear ho0)) | ((with_reducible refine gate_dst (N := 62) rfl ?_); (try (refine gate_guard (by rfl) ?_; dsimp only)); refine Kd.R_lit (Kd.int .u8) _ 5 ?hg (N := 62) ?hd (xs := ([a2] : List Int)) (inner := [.int .u8 a2]) (ok := fun _ => True) (okp := fun _ => True) ?hr ?hp (fun _ hk => hk) trivial (Below.refl _ _) (Nat.le_refl _) (by simp) ?_; (case hd => rfl); (case hg => rfl); (case hr => first | (go_simp; done) | (go_simp; rfl)); (case hp => exact (Reps.one (show Kd.M (Kd.int .u8) _ _ _ a2 [.int .u8 a2] from rfl) (Reps.none _ _))); intro v629 w37 ho38 hb hg_ hnew_; clear hg_ hnew_; (first | rw [← Ny628.out] at ho38 | (simp only [Int.reduceToNat] at ho38; rw [← Ny628.out] at ho38)); have n0_ := Aside0.mk (Kd.R_below (by (with_reducible repeat (first | apply Kd.R_alloc | apply Kd.R_drewN | apply Kd.R_drew)); exact HO_0.out) hb); have n1_ := Aside0.mk (Kd.R_below (by (with_reducible repeat (first | apply Kd.R_alloc | apply Kd.R_drewN | apply Kd.R_drew)); exact HO623.out) hb); have n2_ := Aside0.mk (Kd.R_below (by (with_reducible repeat (first | apply Kd.R_alloc | apply Kd.R_drewN | apply Kd.R_drew)); exact HO627.out) hb); have n3_ := Aside0.mk (Kd.R_lower ho38 (below_size (by repeat (first | (with_reducible first | exact HB.out | apply below_alloc | apply pw_below_drewN | apply below_drew1) | exact HB.out)))); have n4_ := Aside0.mk (below_step (by repeat (first | (with_reducible first | exact HB.out | apply below_alloc | apply pw_below_drewN | apply below_drew1) | exact HB.out)) hb); clear HO_0; clear HO623; clear HO627; clear HB; have HO_0 := n0_; have HO623 := n1_; have HO627 := n2_; have HO630 := n3_; have HB := n4_; clear n0_ n1_ n2_ n3_ n4_; clear hb ho38; have hcv39 := own_string (P := Tryd.prog) Tryd.underlying57 Tryd.underlying5 Tryd.underlying9 (Kd.own_of_R HO630.out); have hcv40 := fun nq_ : Nat => own_string (P := Tryd.prog) Tryd.underlying57 Tryd.underlying5 Tryd.underlying9 (Kd.own_of_R (Kd.R_drewN HO630.out nq_))) | ((with_reducible refine gate_callee (f := 23) rfl ?_); refine goesL_ (some 65) rfl rfl Tryd.func23 (by kernel_rfl) rfl #[.string (t616 ++ (strOfNums y628))] rfl (by (try simp only [List.map_toArray, List.map_cons, List.map_nil]); first | done | rfl | (simp only [List.length_drop, List.length_take]; rfl)) ?_; (with_reducible refine (key_Get.calls kj5 (t616 ++ (strOfNums y628)) t631 t632 _ A26.out).mono ?_); rintro e w41 ⟨v633, rfl, ho0, hb⟩; refine ⟨_, rfl, ?_⟩; have n0_ := Aside0.mk (Kd.R_elder' (by (with_reducible repeat (first | apply Kd.R_alloc | apply Kd.R_drewN | apply Kd.R_drew)); exact HO_0.out) (Kd.R_base ho0) hb); have n1_ := Aside0.mk (Kd.R_elder' (by (with_reducible repeat (first | apply Kd.R_alloc | apply Kd.R_drewN | apply Kd.R_drew)); exact HO623.out) (Kd.R_base ho0) hb); have n2_ := Aside0.mk (Kd.R_elder' (by (with_reducible repeat (first | apply Kd.R_alloc | apply Kd.R_drewN | apply Kd.R_drew)); exact HO627.out) (Kd.R_base ho0) hb); have n3_ := Aside0.mk (Kd.R_below (by (with_reducible repeat (first | apply Kd.R_alloc | apply Kd.R_drewN | apply Kd.R_drew)); exact HO630.out) hb); have n4_ := Aside0.mk (Kd.R_lower (Kd.R_new' (Kd.R_new' (Kd.R_new' ho0 (Kd.R_lt (by (with_reducible repeat (first | apply Kd.R_alloc | apply Kd.R_drewN | apply Kd.R_drew)); exact HO_0.out))) (Kd.R_lt (by (with_reducible repeat (first | apply Kd.R_alloc | apply Kd.R_drewN | apply Kd.R_drew)); exact HO623.out))) (Kd.R_lt (by (with_reducible repeat (first | apply Kd.R_alloc | apply Kd.R_drewN | apply Kd.R_drew)); exact HO627.out))) (below_size (by repeat (first | (with_reducible first | exact HB.out | apply below_alloc | apply pw_below_drewN | apply below_drew1) | exact HB.out)))); have n5_ := Aside0.mk (below_step (by repeat (first | (with_reducible first | exact HB.out | apply below_alloc | apply pw_below_drewN | apply below_drew1) | exact HB.out)) hb); clear HO_0; clear HO623; clear HO627; clear HO630; clear HB; have HO_0 := n0_; have HO623 := n1_; have HO627 := n2_; have HO630 := n3_; have HO634 := n4_; have HB := n5_; clear n0_ n1_ n2_ n3_ n4_ n5_; (try clear hb); (try clear hb2); (try clear hk); (try clear hi); (try clear ho0); obtain ⟨Ao42, co42, eo42⟩ := Kd.R_slice HO623.out; subst eo42) | ((with_reducible refine gate_callee (f := 22) rfl ?_); refine goesL_ (some 69) rfl rfl Tryd.func22 (by kernel_rfl) rfl #[.slice Ao42 t620.length co42] rfl (by (try simp only [List.map_toArray, List.map_cons, List.map_nil]); first | done | rfl | (simp only [List.length_drop, List.length_take]; rfl)) ?_; (with_reducible refine (withylaw04_Ref.calls kj5 _ _ t620 t635 _ ?side1 ?side2 A27.out).mono ?_); (case side1 => repeat (first | exact (Kd.R_reads' HO623.out).2.2 | (with_reducible refine Kd.C_alloc ?_ _) | (with_reducible refine Kd.C_drewN ?_ _) | (with_reducible refine Kd.C_drew ?_))); (case side2 => exact (Kd.R_reads' HO623.out).2.1); rintro e w43 ⟨v636, rfl, ho0, hb⟩; refine ⟨_, rfl, ?_⟩; have n0_ := Aside0.mk (Kd.R_below (by (with_reducible repeat (first | apply Kd.R_alloc | apply Kd.R_drewN | apply Kd.R_drew)); exact HO_0.out) hb); have n1_ := Aside0.mk (Kd.R_below (by (with_reducible repeat (first | apply Kd.R_alloc | apply Kd.R_drewN | apply Kd.R_drew)); exact HO623.out) hb); have n2_ := Aside0.mk (Kd.R_below (by (with_reducible repeat (first | apply Kd.R_alloc | apply Kd.R_drewN | apply Kd.R_drew)); exact HO627.out) hb); have n3_ := Aside0.mk (Kd.R_below (by (with_reducible repeat (first | apply Kd.R_alloc | apply Kd.R_drewN | apply Kd.R_drew)); exact HO630.out) hb); have n4_ := Aside0.mk (Kd.R_below (by (with_reducible repeat (first | apply Kd.R_alloc | apply Kd.R_drewN | apply Kd.R_drew)); exact HO634.out) hb); have n5_ := Aside0.mk (Kd.R_lower ho0 (below_size (by repeat (first | (with_reducible first | exact HB.out | apply below_alloc | apply pw_below_drewN | apply below_drew1) | exact HB.out)))); have n6_ := Aside0.mk (below_step (by repeat (first | (with_reducible first | exact HB.out | apply below_alloc | apply pw_below_drewN | apply below_drew1) | exact HB.out)) hb); clear HO_0; clear HO623; clear HO627; clear HO630; clear HO634; clear HB; have HO_0 := n0_; have HO623 := n1_; have HO627 := n2_; have HO630 := n3_; have HO634 := n4_; have HO637 := n5_; have HB := n6_; clear n0_ n1_ n2_ n3_ n4_ n5_ n6_; (try clear hb); (try clear hb2); (try clear hk); (try clear hi); (try clear ho0)) | ((with_reducible refine gate_callee (f := 22) rfl ?_); refine goesL_ (some 71) rfl rfl Tryd.func22 (by kernel_rfl) rfl #[.slice Ao8 t613.length co8] rfl (by (try simp only [List.map_toArray, List.map_cons, List.map_nil]); first | done | rfl | (simp only [List.length_drop, List.length_take]; rfl)) ?_; (with_reducible refine (withylaw04_Ref.calls kj5 _ _ t613 t638 _ ?side1 ?side2 A28.out).mono ?_); (case side1 => repeat (first | exact (Kd.R_reads' HO_0.out).2.2 | (with_reducible refine Kd.C_alloc ?_ _) | (with_reducible refine Kd.C_drewN ?_ _) | (with_reducible refine Kd.C_drew ?_))); (case side2 => exact (Kd.R_reads' HO_0.out).2.1); rintro e w44 ⟨v639, rfl, ho0, hb⟩; refine ⟨_, rfl, ?_⟩; have n0_ := Aside0.mk (Kd.R_below (by (with_reducible repeat (first | apply Kd.R_alloc | apply Kd.R_drewN | apply Kd.R_drew)); exact HO_0.out) hb); have n1_ := Aside0.mk (Kd.R_below (by (with_reducible repeat (first | apply Kd.R_alloc | apply Kd.R_drewN | apply Kd.R_drew)); exact HO623.out) hb); have n2_ := Aside0.mk (Kd.R_below (by (with_reducible repeat (first | apply Kd.R_alloc | apply Kd.R_drewN | apply Kd.R_drew)); exact HO627.out) hb); have n3_ := Aside0.mk (Kd.R_below (by (with_reducible repeat (first | apply Kd.R_alloc | apply Kd.R_drewN | apply Kd.R_drew)); exact HO630.out) hb); have n4_ := Aside0.mk (Kd.R_below (by (with_reducible repeat (first | apply Kd.R_alloc | apply Kd.R_drewN | apply Kd.R_drew)); exact HO634.out) hb); have n5_ := Aside0.mk (Kd.R_elder' (by (with_reducible repeat (first | apply Kd.R_alloc | apply Kd.R_drewN | apply Kd.R_drew)); exact HO637.out) (Kd.R_base ho0) hb); have n6_ := Aside0.mk (Kd.R_lower (Kd.R_new' ho0 (Kd.R_lt (by (with_reducible repeat (first | apply Kd.R_alloc | apply Kd.R_drewN | apply Kd.R_drew)); exact HO637.out))) (below_size (by repeat (first | (with_reducible first | exact HB.out | apply below_alloc | apply pw_below_drewN | apply below_drew1) | exact HB.out)))); have n7_ := Aside0.mk (below_step (by repeat (first | (with_reducible first | exact HB.out | apply below_alloc | apply pw_below_drewN | apply below_drew1) | exact HB.out)) hb); clear HO_0; clear HO623; clear HO627; clear HO630; clear HO634; clear HO637; clear HB; have HO_0 := n0_; have HO623 := n1_; have HO627 := n2_; have HO630 := n3_; have HO634 := n4_; have HO637 := n5_; have HO640 := n6_; have HB := n7_; clear n0_ n1_ n2_ n3_ n4_ n5_ n6_ n7_; (try clear hb); (try clear hb2); (try clear hk); (try clear hi); (try clear ho0); obtain ⟨Ao45, co45, eo45⟩ := Kd.R_slice HO637.out; subst eo45; obtain ⟨Ao46, co46, eo46⟩ := Kd.R_slice HO640.out; subst eo46) | ((with_reducible refine gate_callee (f := 30) rfl ?_); refine goesL_ (some 72) rfl rfl Tryd.func30 (by kernel_rfl) rfl #[.slice Ao45 t635.length co45, .slice Ao46 t638.length co46] rfl (by (try simp only [List.map_toArray, List.map_cons, List.map_nil]); first | done | rfl | (simp only [List.length_drop, List.length_take]; rfl)) ?_; (with_reducible refine (withyref04_Same.calls kj5 _ _ t635 _ _ t638 true _ ?side1 ?side2 ?side3 ?side4 A29.out).mono ?_); (case side1 => repeat (first | exact (Kd.R_reads' HO637.out).2.2 | (with_reducible refine Kd.C_alloc ?_ _) | (with_reducible refine Kd.C_drewN ?_ _) | (with_reducible refine Kd.C_drew ?_))); (case side2 => exact (Kd.R_reads' HO637.out).2.1); (case side3 => repeat (first | exact (Kd.R_reads' HO640.out).2.2 | (with_reducible refine Kd.C_alloc ?_ _) | (with_reducible refine Kd.C_drewN ?_ _) | (with_reducible refine Kd.C_drew ?_))); (case side4 => exact (Kd.R_reads' HO640.out).2.1); rintro e w' ⟨rfl, ⟨nd, rfl⟩⟩; refine ⟨_, rfl, ?_⟩) | (go_at_call 31; (with_reducible refine (withylaw04_fixed.calls kj5  t642 _ A34.out).mono ?_); rintro e w47 ⟨rfl, hb⟩; have n0_ := Aside0.mk (Kd.R_below (by (with_reducible repeat (first | apply Kd.R_alloc | apply Kd.R_drewN | apply Kd.R_drew)); exact HO_0.out) hb); have n1_ := Aside0.mk (Kd.R_below (by (with_reducible repeat (first | apply Kd.R_alloc | apply Kd.R_drewN | apply Kd.R_drew)); exact HO623.out) hb); have n2_ := Aside0.mk (Kd.R_below (by (with_reducible repeat (first | apply Kd.R_alloc | apply Kd.R_drewN | apply Kd.R_drew)); exact HO627.out) hb); have n3_ := Aside0.mk (Kd.R_below (by (with_reducible repeat (first | apply Kd.R_alloc | apply Kd.R_drewN | apply Kd.R_drew)); exact HO630.out) hb); have n4_ := Aside0.mk (Kd.R_below (by (with_reducible repeat (first | apply Kd.R_alloc | apply Kd.R_drewN | apply Kd.R_drew)); exact HO634.out) hb); have n5_ := Aside0.mk (Kd.R_below (by (with_reducible repeat (first | apply Kd.R_alloc | apply Kd.R_drewN | apply Kd.R_drew)); exact HO637.out) hb); have n6_ := Aside0.mk (Kd.R_below (by (with_reducible repeat (first | apply Kd.R_alloc | apply Kd.R_drewN | apply Kd.R_drew)); exact HO640.out) hb); have n7_ := Aside0.mk (below_step (by repeat (first | (with_reducible first | exact HB.out | apply below_alloc | apply pw_below_drewN | apply below_drew1) | exact HB.out)) hb); clear HO_0; clear HO623; clear HO627; clear HO630; clear HO634; clear HO637; clear HO640; clear HB; have HO_0 := n0_; have HO623 := n1_; have HO627 := n2_; have HO630 := n3_; have HO634 := n4_; have HO637 := n5_; have HO640 := n6_; have HB := n7_; clear n0_ n1_ n2_ n3_ n4_ n5_ n6_ n7_; (try clear hb); (try clear hb2); (try clear hk); (try clear hi)))
                        go_ret
                        exact ⟨by first | rfl | (simp [errW_none, errW_some] <;> rfl) | (simp only [← hji21]; first | rfl | (simp [errW_none, errW_some] <;> rfl)) | (simp [*, errW_none, errW_some] <;> rfl), by repeat (first | (with_reducible first | exact HB.out | apply below_alloc | apply pw_below_drewN | apply below_drew1) | exact HB.out)⟩
                      · rw [if_neg c33] at H
                        exact absurd H (by simp)
                    · rw [if_neg c32] at H
                      exact absurd H (by simp)
                  · rw [if_neg c31] at H
                    exact absurd H (by simp)
                · replace c30 := Bool.eq_false_iff.mpr c30
                  subst c30
                  have H1 : (none) = some r := by rw [if_neg (show ¬ (false = true) by decide)] at H; exact H
                  clear H
                  have H := H1
                  clear H1
                  exact absurd H (by simp)
              · rw [if_neg c25] at H
                exact absurd H (by simp)
            · rw [if_neg c23] at H
              exact absurd H (by simp)
          · rw [if_neg c22] at H
            exact absurd H (by simp)

end Go.Proofs.YtimnjdgelencpaaDoor.A
