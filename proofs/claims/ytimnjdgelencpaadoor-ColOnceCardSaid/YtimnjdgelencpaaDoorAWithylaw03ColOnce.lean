-- Written by this session's drive.py: the print's program with contracts by hand among the functions. Not trusted: Lean checks it.
import Derived.Test.YtimnjdgelencpaaDoorAx0
import Derived.Test.YtimnjdgelencpaaDoorAEqA24
import Derived.Test.YtimnjdgelencpaaDoorAColRight
import Derived.Test.YtimnjdgelencpaaDoorAColPut
import Derived.Test.YtimnjdgelencpaaDoorAColGet
import Derived.Test.YtimnjdgelencpaaDoorAWithylaw03fixed
namespace Go.Proofs.YtimnjdgelencpaaDoor.A
open Go.RowKit Go.Proofs.YtimnjdgelencpaaDoorW.PrintWords Go.Proofs.YtimnjdgelencpaaDoorW.PrintLast Go.Proofs.YtimnjdgelencpaaDoorW.PrintMore
attribute [local go_sem] max2_int min2_int max_two min_two max_three min_three max_four min_four   -- for this text's walks alone
attribute [local go_sem] Go.Proofs.YtimnjdgelencpaaDoor.Own.gtr_string Go.Proofs.YtimnjdgelencpaaDoor.Own.leq_string Go.Proofs.YtimnjdgelencpaaDoor.Own.geq_string Go.Proofs.YtimnjdgelencpaaDoor.Own.ba_get
set_option linter.unusedVariables false
set_option linter.unusedSimpArgs false

attribute [local go_sem high] eqA24
/-! ### withylaw03_ColOnce: function 5 -/
def withylaw03_ColOnce.f (k : Nat) (a0 : ByteArray) (a1 : Int) : Option (Bool) := if 0 ≤ (mn (a0.size : Int) 100) then (if (mn (a0.size : Int) 100) ≤ (a0.size : Int) then ((col_Get.f k (a0.extract 0 ((mn (a0.size : Int) 100) : Int).toNat) a1).bind fun bt277 => (if bt277.2.2.2.2.2 = 0 then ((col_Put.f k bt277.1 bt277.2.1 bt277.2.2.1 bt277.2.2.2.1).bind fun bt284 => (if bt284.2 = 0 then ((col_Right.f k bt277.1 bt277.2.1 bt277.2.2.1 bt277.2.2.2.1).bind fun t286 => (if t286 = true then (if a1 ≥ 0 then (if bt277.2.2.2.2.1 > a1 then (if bt277.2.2.2.2.1 ≤ ((a0.extract 0 ((mn (a0.size : Int) 100) : Int).toNat).size : Int) then (if 0 ≤ a1 then (if a1 ≤ bt277.2.2.2.2.1 then (if bt284.1.toList = ((a0.extract 0 ((mn (a0.size : Int) 100) : Int).toNat).extract (a1 : Int).toNat (bt277.2.2.2.2.1 : Int).toNat).toList then ((withylaw03_fixed.f k).bind fun t287 => (some t287)) else (none)) else (none)) else (none)) else (none)) else (none)) else (none)) else (none))) else (none))) else (if (bt277.1 == 0 && (bt277.2.1 == 0 && (bt277.2.2.1 == 0 && (bt277.2.2.2.1.toList == ([] : List UInt8))))) = true then (if bt277.2.2.2.2.1 = 0 then ((withylaw03_fixed.f k).bind fun t288 => (some t288)) else (none)) else (none)))) else (none)) else (none)
theorem withylaw03_ColOnce.mono : ∀ a0 a1 k, LeO (withylaw03_ColOnce.f k a0 a1) (withylaw03_ColOnce.f (k + 1) a0 a1) := by
  intro a0 a1 k
  unfold withylaw03_ColOnce.f
  repeat' first
      | (with_reducible exact col_Get.mono _ _ _)
      | (with_reducible exact col_Put.mono _ _ _ _ _)
      | (with_reducible exact col_Right.mono _ _ _ _ _)
      | (with_reducible exact withylaw03_fixed.mono _)
      | (with_reducible exact LeO.refl _)
      | (with_reducible exact LeO.none _)
      | (with_reducible refine LeO.ite ?_ ?_)
      | (with_reducible refine LeO.bind ?_ (fun _ => ?_))
      | exact col_Get.mono _ _ _
      | exact col_Put.mono _ _ _ _ _
      | exact col_Right.mono _ _ _ _ _
      | exact withylaw03_fixed.mono _
      | exact LeO.none _
      | refine LeO.ite ?_ ?_
      | refine LeO.bind ?_ (fun _ => ?_)
set_option maxHeartbeats 8000000 in
set_option maxRecDepth 100000 in
theorem withylaw03_ColOnce.calls (k : Nat) (a0 : ByteArray) (a1 : Int) (r : Bool) (w : World) (h : withylaw03_ColOnce.f k a0 a1 = some r) :
    Calls Tryd.prog 5 #[.string a0, .int .i64 a1] w fun e w' => e = .returned (.bool r) ∧ Below w.heap.size w w' := by
  have hu24 := Tryd.underlying24
  have HB := Aside0.mk (Below.refl w.heap.size w)
  have H : (if 0 ≤ (mn (a0.size : Int) 100) then (if (mn (a0.size : Int) 100) ≤ (a0.size : Int) then ((col_Get.f k (a0.extract 0 ((mn (a0.size : Int) 100) : Int).toNat) a1).bind fun bt277 => (if bt277.2.2.2.2.2 = 0 then ((col_Put.f k bt277.1 bt277.2.1 bt277.2.2.1 bt277.2.2.2.1).bind fun bt284 => (if bt284.2 = 0 then ((col_Right.f k bt277.1 bt277.2.1 bt277.2.2.1 bt277.2.2.2.1).bind fun t286 => (if t286 = true then (if a1 ≥ 0 then (if bt277.2.2.2.2.1 > a1 then (if bt277.2.2.2.2.1 ≤ ((a0.extract 0 ((mn (a0.size : Int) 100) : Int).toNat).size : Int) then (if 0 ≤ a1 then (if a1 ≤ bt277.2.2.2.2.1 then (if bt284.1.toList = ((a0.extract 0 ((mn (a0.size : Int) 100) : Int).toNat).extract (a1 : Int).toNat (bt277.2.2.2.2.1 : Int).toNat).toList then ((withylaw03_fixed.f k).bind fun t287 => (some t287)) else (none)) else (none)) else (none)) else (none)) else (none)) else (none)) else (none))) else (none))) else (if (bt277.1 == 0 && (bt277.2.1 == 0 && (bt277.2.2.1 == 0 && (bt277.2.2.2.1.toList == ([] : List UInt8))))) = true then (if bt277.2.2.2.2.1 = 0 then ((withylaw03_fixed.f k).bind fun t288 => (some t288)) else (none)) else (none)))) else (none)) else (none)) = some r := h
  clear h
  obtain ⟨ji3, hji3⟩ : ∃ j_ : Int, (mn (a0.size : Int) 100) = j_ := ⟨_, rfl⟩
  replace H : (if 0 ≤ (ji3) then (if (ji3) ≤ (a0.size : Int) then ((col_Get.f k (a0.extract 0 ((ji3) : Int).toNat) a1).bind fun bt277 => (if bt277.2.2.2.2.2 = 0 then ((col_Put.f k bt277.1 bt277.2.1 bt277.2.2.1 bt277.2.2.2.1).bind fun bt284 => (if bt284.2 = 0 then ((col_Right.f k bt277.1 bt277.2.1 bt277.2.2.1 bt277.2.2.2.1).bind fun t286 => (if t286 = true then (if a1 ≥ 0 then (if bt277.2.2.2.2.1 > a1 then (if bt277.2.2.2.2.1 ≤ ((a0.extract 0 ((ji3) : Int).toNat).size : Int) then (if 0 ≤ a1 then (if a1 ≤ bt277.2.2.2.2.1 then (if bt284.1.toList = ((a0.extract 0 ((ji3) : Int).toNat).extract (a1 : Int).toNat (bt277.2.2.2.2.1 : Int).toNat).toList then ((withylaw03_fixed.f k).bind fun t287 => (some t287)) else (none)) else (none)) else (none)) else (none)) else (none)) else (none)) else (none))) else (none))) else (if (bt277.1 == 0 && (bt277.2.1 == 0 && (bt277.2.2.1 == 0 && (bt277.2.2.2.1.toList == ([] : List UInt8))))) = true then (if bt277.2.2.2.2.1 = 0 then ((withylaw03_fixed.f k).bind fun t288 => (some t288)) else (none)) else (none)))) else (none)) else (none)) = some r := by first | (rw [hji3] at H; exact H) | (simp only [hji3] at H ⊢; exact H)
  (try (have hji3h : ji3 ≤ 100 := by (rw [← hji3]; unfold mn; (repeat' split) <;> omega)))
  (try (have hji3g : ji3 ≤ 64 := by omega))
  (try (have hji3l : 0 ≤ ji3 := by (rw [← hji3]; unfold mn; (repeat' split) <;> omega)))
  (try (have hji3m : 0 ≤ ji3 := by omega))
  have hji3W : 0 ≤ ji3 ∧ ji3 ≤ (a0.size : Int) := by rw [← hji3]; unfold mn; split <;> omega
  have hji3Y : ((a0.extract 0 ((ji3) : Int).toNat).size : Int) = ji3 := by rw [ByteArray.size_extract]; omega
  have hji3V : (((ji3) : Int).toNat : Int) = ji3 := by omega
  have hji3U : min ((ji3) : Int).toNat a0.size = ((ji3) : Int).toNat := by omega
  have hji3T : max ji3 0 = ji3 := by omega
  have hji3S : min ji3 (a0.size : Int) = ji3 := by omega
  have hji3_ : (if 100 < (a0.size : Int) then 100 else (a0.size : Int)) = ji3 := hji3
  by_cases c4 : 0 ≤ (ji3)
  · rw [if_pos c4] at H
    have c4b0 := eq_true c4
    have c4b1 : decide (0 ≤ (ji3)) = true := decide_eq_true c4
    clear c4
    by_cases c5 : (ji3) ≤ (a0.size : Int)
    · rw [if_pos c5] at H
      have c5b0 := eq_true c5
      have c5b1 : decide ((ji3) ≤ (a0.size : Int)) = true := decide_eq_true c5
      clear c5
      replace H := Option.bind_eq_some_iff.mp H
      obtain ⟨⟨t277, t278, t279, t280, t281, t282⟩, A60, H⟩ := H
      (try simp only [hji3Y] at A60)
      replace H : (if t282 = 0 then ((col_Put.f k t277 t278 t279 t280).bind fun bt284 => (if bt284.2 = 0 then ((col_Right.f k t277 t278 t279 t280).bind fun t286 => (if t286 = true then (if a1 ≥ 0 then (if t281 > a1 then (if t281 ≤ ((a0.extract 0 ((ji3) : Int).toNat).size : Int) then (if 0 ≤ a1 then (if a1 ≤ t281 then (if bt284.1.toList = ((a0.extract 0 ((ji3) : Int).toNat).extract (a1 : Int).toNat (t281 : Int).toNat).toList then ((withylaw03_fixed.f k).bind fun t287 => (some t287)) else (none)) else (none)) else (none)) else (none)) else (none)) else (none)) else (none))) else (none))) else (if (t277 == 0 && (t278 == 0 && (t279 == 0 && (t280.toList == ([] : List UInt8))))) = true then (if t281 = 0 then ((withylaw03_fixed.f k).bind fun t288 => (some t288)) else (none)) else (none))) = some r := H
      have A6 := Aside0.mk A60
      clear A60
      by_cases c7 : t282 = 0
      · rw [if_pos c7] at H
        have c7b0 : (t282 == 0) = true := beq_iff_eq.mpr c7
        have c7b1 : (t282 != 0) = false := bne_eq_false_iff_eq.mpr c7
        clear c7
        replace H := Option.bind_eq_some_iff.mp H
        obtain ⟨⟨t284, t285⟩, A80, H⟩ := H
        (try simp only [hji3Y] at A80)
        replace H : (if t285 = 0 then ((col_Right.f k t277 t278 t279 t280).bind fun t286 => (if t286 = true then (if a1 ≥ 0 then (if t281 > a1 then (if t281 ≤ ((a0.extract 0 ((ji3) : Int).toNat).size : Int) then (if 0 ≤ a1 then (if a1 ≤ t281 then (if t284.toList = ((a0.extract 0 ((ji3) : Int).toNat).extract (a1 : Int).toNat (t281 : Int).toNat).toList then ((withylaw03_fixed.f k).bind fun t287 => (some t287)) else (none)) else (none)) else (none)) else (none)) else (none)) else (none)) else (none))) else (none)) = some r := H
        have A8 := Aside0.mk A80
        clear A80
        by_cases c9 : t285 = 0
        · rw [if_pos c9] at H
          have c9b0 : (t285 == 0) = true := beq_iff_eq.mpr c9
          have c9b1 : (t285 != 0) = false := bne_eq_false_iff_eq.mpr c9
          clear c9
          replace H := Option.bind_eq_some_iff.mp H
          obtain ⟨t286, A100, H⟩ := H
          (try simp only [hji3Y] at A100)
          replace H : (if t286 = true then (if a1 ≥ 0 then (if t281 > a1 then (if t281 ≤ ((a0.extract 0 ((ji3) : Int).toNat).size : Int) then (if 0 ≤ a1 then (if a1 ≤ t281 then (if t284.toList = ((a0.extract 0 ((ji3) : Int).toNat).extract (a1 : Int).toNat (t281 : Int).toNat).toList then ((withylaw03_fixed.f k).bind fun t287 => (some t287)) else (none)) else (none)) else (none)) else (none)) else (none)) else (none)) else (none)) = some r := H
          have A10 := Aside0.mk A100
          clear A100
          by_cases c11 : t286 = true
          · subst c11
            have H1 : (if a1 ≥ 0 then (if t281 > a1 then (if t281 ≤ ((a0.extract 0 ((ji3) : Int).toNat).size : Int) then (if 0 ≤ a1 then (if a1 ≤ t281 then (if t284.toList = ((a0.extract 0 ((ji3) : Int).toNat).extract (a1 : Int).toNat (t281 : Int).toNat).toList then ((withylaw03_fixed.f k).bind fun t287 => (some t287)) else (none)) else (none)) else (none)) else (none)) else (none)) else (none)) = some r := by rw [if_pos rfl] at H; exact H
            clear H
            have H := H1
            clear H1
            by_cases c12 : a1 ≥ 0
            · rw [if_pos c12] at H
              have c12b0 : decide (0 ≤ a1) = true := decide_eq_true c12
              clear c12
              by_cases c13 : t281 > a1
              · rw [if_pos c13] at H
                have c13b0 : decide (a1 < t281) = true := decide_eq_true c13
                clear c13
                by_cases c14 : t281 ≤ ((a0.extract 0 ((ji3) : Int).toNat).size : Int)
                · rw [if_pos c14] at H
                  have c14b0 : decide (t281 ≤ ((a0.extract 0 ((ji3) : Int).toNat).size : Int)) = true := decide_eq_true c14
                  (try (have c14b0z := c14b0; simp only [hji3Y] at c14b0z))
                  clear c14
                  by_cases c15 : 0 ≤ a1
                  · rw [if_pos c15] at H
                    have c15b0 := eq_true c15
                    have c15b1 : decide (0 ≤ a1) = true := decide_eq_true c15
                    clear c15
                    by_cases c16 : a1 ≤ t281
                    · rw [if_pos c16] at H
                      have c16b0 := eq_true c16
                      have c16b1 : decide (a1 ≤ t281) = true := decide_eq_true c16
                      clear c16
                      have c17b0 := eq_true (of_decide_eq_true (by first | (with_reducible assumption) | assumption) : t281 ≤ ((a0.extract 0 ((ji3) : Int).toNat).size : Int))
                      have c17b8 : (t281 ≤ ji3) = True := by rw [← hji3Y]; exact c17b0
                      have c17b9 : (ji3 < t281) = False := eq_false (by have := of_eq_true c17b8; omega)
                      (try (have c17b0z := c17b0; simp only [hji3Y] at c17b0z))
                      by_cases c18 : t284.toList = ((a0.extract 0 ((ji3) : Int).toNat).extract (a1 : Int).toNat (t281 : Int).toNat).toList
                      · rw [if_pos c18] at H
                        have c18b0 : (t284.toList == ((a0.extract 0 ((ji3) : Int).toNat).extract (a1 : Int).toNat (t281 : Int).toNat).toList) = true := beq_iff_eq.mpr c18
                        have c18b1 : (t284.toList != ((a0.extract 0 ((ji3) : Int).toNat).extract (a1 : Int).toNat (t281 : Int).toNat).toList) = false := bne_eq_false_iff_eq.mpr c18
                        clear c18
                        replace H := Option.bind_eq_some_iff.mp H
                        obtain ⟨t287, A190, H⟩ := H
                        (try simp only [hji3Y] at A190)
                        replace H : (some t287) = some r := H
                        have A19 := Aside0.mk A190
                        clear A190
                        obtain rfl := Option.some.inj H
                        go_enter Tryd.func5, Tryd.ntmps5
                        go_wp2_with (first | ((with_reducible refine gate_callee (f := 18) rfl ?_); refine goesL_ (some 18) rfl rfl Tryd.func18 (by kernel_rfl) rfl #[.string (a0.extract 0 ((ji3) : Int).toNat), .int .i64 a1] rfl (by (try simp only [List.map_toArray, List.map_cons, List.map_nil]); first | done | (simp only [hji3]; rfl) | rfl | (simp only [List.length_drop, List.length_take]; rfl)) ?_; (with_reducible refine (col_Get.calls k (a0.extract 0 ((ji3) : Int).toNat) a1 t277 t278 t279 t280 t281 t282 _ A6.out).mono ?_); rintro e w20 ⟨rfl, hb⟩; refine ⟨_, rfl, ?_⟩; have n0_ := Aside0.mk (below_step (by repeat (first | (with_reducible first | exact HB.out | apply below_alloc | apply pw_below_drewN | apply below_drew1) | exact HB.out)) hb); clear HB; have HB := n0_; clear n0_; (try clear hb); (try clear hb2); (try clear hk); (try clear hi)) | ((with_reducible refine gate_dst (N := 5) rfl ?_); (try (refine gate_guard (by rfl) ?_; dsimp only)); refine box_event ?hg (N := 5) ?hd (cs := #[.int .i64 0, .int .i64 0, .int .u64 0, .string (⟨#[]⟩ : ByteArray)]) (t := 24) ?hr ?_; (case hd => rfl); (case hg => rfl); (case hr => first | (go_simp; done) | (go_simp; rfl)); intro gb283 hg w21 hbox hb; have n0_ := Aside0.mk (below_step (by repeat (first | (with_reducible first | exact HB.out | apply below_alloc | apply pw_below_drewN | apply below_drew1) | exact HB.out)) hb); have n1_ := Aside0.mk (hbox); have n2_ := Aside0.mk ((by rw [hg]; exact (below_size (by repeat (first | (with_reducible first | exact HB.out | apply below_alloc | apply pw_below_drewN | apply below_drew1) | exact HB.out))) : w.heap.size ≤ gb283)); have n3_ := Aside0.mk ((by rw [hg]; exact (below_size (by repeat (first | (with_reducible first | exact HB.out | apply below_alloc | apply pw_below_drewN | apply below_drew1) | exact HB.out))) : w.heap.size ≤ gb283)); clear HB; have HB := n0_; have BK283 := n1_; have GW283 := n2_; have GE283 := n3_; clear n0_ n1_ n2_ n3_; clear hb hbox hg; have hcz22_0 : w21.cell? ⟨gb283, 0, none⟩ = some (.int .i64 0) := (blk_cell BK283.out 0).trans rfl; have hcz22_1 : w21.cell? ⟨gb283, 1, none⟩ = some (.int .i64 0) := (blk_cell BK283.out 1).trans rfl; have hcz22_2 : w21.cell? ⟨gb283, 2, none⟩ = some (.int .u64 0) := (blk_cell BK283.out 2).trans rfl; have hcz22_3 : w21.cell? ⟨gb283, 3, none⟩ = some (.string (⟨#[]⟩ : ByteArray)) := (blk_cell BK283.out 3).trans rfl; have hfz22_0 := blk_frozen BK283.out 0; have hfz22_1 := blk_frozen BK283.out 1; have hfz22_2 := blk_frozen BK283.out 2; have hfz22_3 := blk_frozen BK283.out 3) | ((with_reducible refine gate_callee (f := 14) rfl ?_); refine goesL_ (some 36) rfl rfl Tryd.func14 (by kernel_rfl) rfl #[.agg #[.int .i64 t277, .int .i64 t278, .int .u64 t279, .string t280]] rfl (by (try simp only [List.map_toArray, List.map_cons, List.map_nil]); first | done | rfl | (simp only [List.length_drop, List.length_take]; rfl)) ?_; (with_reducible refine (col_Put.calls k t277 t278 t279 t280 t284 t285 _ A8.out).mono ?_); rintro e w23 ⟨rfl, hb⟩; refine ⟨_, rfl, ?_⟩; have n0_ := Aside0.mk (blk_below (g := gb283) (o := .cells #[.int .i64 t277, .int .i64 t278, .int .u64 t279, .string t280] 24 (0, 0)) (by (with_reducible repeat (first | refine blk_drewN ?_ _ | refine blk_drew ?_ | refine blk_alloc ?_ _)); refine blk_put (cs := #[.int .i64 t277, .int .i64 t278, .int .u64 t279, .string (⟨#[]⟩ : ByteArray)]) ?_ 3 _ rfl; (with_reducible repeat (first | refine blk_drewN ?_ _ | refine blk_drew ?_ | refine blk_alloc ?_ _)); refine blk_put (cs := #[.int .i64 t277, .int .i64 t278, .int .u64 0, .string (⟨#[]⟩ : ByteArray)]) ?_ 2 _ rfl; (with_reducible repeat (first | refine blk_drewN ?_ _ | refine blk_drew ?_ | refine blk_alloc ?_ _)); refine blk_put (cs := #[.int .i64 t277, .int .i64 0, .int .u64 0, .string (⟨#[]⟩ : ByteArray)]) ?_ 1 _ rfl; (with_reducible repeat (first | refine blk_drewN ?_ _ | refine blk_drew ?_ | refine blk_alloc ?_ _)); refine blk_put (cs := #[.int .i64 0, .int .i64 0, .int .u64 0, .string (⟨#[]⟩ : ByteArray)]) ?_ 0 _ rfl; (with_reducible repeat (first | refine blk_drewN ?_ _ | refine blk_drew ?_ | refine blk_alloc ?_ _)); exact BK283.out) hb); have n1_ := Aside0.mk (below_step (by repeat (first | (with_reducible first | exact HB.out | apply below_alloc | apply pw_below_drewN | apply below_drew1 | refine below_set ?_ GE283.out) | exact HB.out)) hb); clear BK283; clear HB; have BK283 := n0_; have HB := n1_; clear n0_ n1_; (try clear hb); (try clear hb2); (try clear hk); (try clear hi); have hcz24_0 : w23.cell? ⟨gb283, 0, none⟩ = some (.int .i64 t277) := (blk_cell BK283.out 0).trans rfl; have hcz24_1 : w23.cell? ⟨gb283, 1, none⟩ = some (.int .i64 t278) := (blk_cell BK283.out 1).trans rfl; have hcz24_2 : w23.cell? ⟨gb283, 2, none⟩ = some (.int .u64 t279) := (blk_cell BK283.out 2).trans rfl; have hcz24_3 : w23.cell? ⟨gb283, 3, none⟩ = some (.string t280) := (blk_cell BK283.out 3).trans rfl; have hfz24_0 := blk_frozen BK283.out 0; have hfz24_1 := blk_frozen BK283.out 1; have hfz24_2 := blk_frozen BK283.out 2; have hfz24_3 := blk_frozen BK283.out 3) | (go_at_call 17; (with_reducible refine (col_Right.calls k t277 t278 t279 t280 true _ A10.out).mono ?_); rintro e w25 ⟨rfl, hb⟩; have n0_ := Aside0.mk (blk_below (g := gb283) (o := .cells #[.int .i64 t277, .int .i64 t278, .int .u64 t279, .string t280] 24 (0, 0)) (by (with_reducible repeat (first | refine blk_drewN ?_ _ | refine blk_drew ?_ | refine blk_alloc ?_ _)); exact BK283.out) hb); have n1_ := Aside0.mk (below_step (by repeat (first | (with_reducible first | exact HB.out | apply below_alloc | apply pw_below_drewN | apply below_drew1 | refine below_set ?_ GE283.out) | exact HB.out)) hb); clear BK283; clear HB; have BK283 := n0_; have HB := n1_; clear n0_ n1_; (try clear hb); (try clear hb2); (try clear hk); (try clear hi)) | (go_at_call 15; (with_reducible refine (withylaw03_fixed.calls k  t287 _ A19.out).mono ?_); rintro e w26 ⟨rfl, hb⟩; have n0_ := Aside0.mk (blk_below (g := gb283) (o := .cells #[.int .i64 t277, .int .i64 t278, .int .u64 t279, .string t280] 24 (0, 0)) (by (with_reducible repeat (first | refine blk_drewN ?_ _ | refine blk_drew ?_ | refine blk_alloc ?_ _)); exact BK283.out) hb); have n1_ := Aside0.mk (below_step (by repeat (first | (with_reducible first | exact HB.out | apply below_alloc | apply pw_below_drewN | apply below_drew1 | refine below_set ?_ GE283.out) | exact HB.out)) hb); clear BK283; clear HB; have BK283 := n0_; have HB := n1_; clear n0_ n1_; (try clear hb); (try clear hb2); (try clear hk); (try clear hi)))
                        go_ret
                        exact ⟨by first | rfl | (simp [errW_none, errW_some] <;> rfl) | (simp only [← hji3]; first | rfl | (simp [errW_none, errW_some] <;> rfl)) | (simp [*, errW_none, errW_some] <;> rfl), by repeat (first | (with_reducible first | exact HB.out | apply below_alloc | apply pw_below_drewN | apply below_drew1 | refine below_set ?_ GE283.out) | exact HB.out)⟩
                      · rw [if_neg c18] at H
                        exact absurd H (by simp)
                    · rw [if_neg c16] at H
                      exact absurd H (by simp)
                  · rw [if_neg c15] at H
                    exact absurd H (by simp)
                · rw [if_neg c14] at H
                  exact absurd H (by simp)
              · rw [if_neg c13] at H
                exact absurd H (by simp)
            · rw [if_neg c12] at H
              exact absurd H (by simp)
          · replace c11 := Bool.eq_false_iff.mpr c11
            subst c11
            have H1 : (none) = some r := by rw [if_neg (show ¬ (false = true) by decide)] at H; exact H
            clear H
            have H := H1
            clear H1
            exact absurd H (by simp)
        · rw [if_neg c9] at H
          exact absurd H (by simp)
      · rw [if_neg c7] at H
        have c7b0 : (t282 == 0) = false := beq_eq_false_iff_ne.mpr c7
        have c7b1 : (t282 != 0) = true := bne_iff_ne.mpr c7
        by_cases c27 : (t277 == 0 && (t278 == 0 && (t279 == 0 && (t280.toList == ([] : List UInt8))))) = true
        · rw [if_pos c27] at H
          have c27b0 : (t277 = 0 ∧ t278 = 0 ∧ t279 = 0 ∧ t280.toList = []) = True := eq_true (by simpa using c27)
          clear c27
          by_cases c28 : t281 = 0
          · rw [if_pos c28] at H
            have c28b0 : (t281 == 0) = true := beq_iff_eq.mpr c28
            have c28b1 : (t281 != 0) = false := bne_eq_false_iff_eq.mpr c28
            clear c28
            replace H := Option.bind_eq_some_iff.mp H
            obtain ⟨t288, A290, H⟩ := H
            (try simp only [hji3Y] at A290)
            replace H : (some t288) = some r := H
            have A29 := Aside0.mk A290
            clear A290
            obtain rfl := Option.some.inj H
            go_enter Tryd.func5, Tryd.ntmps5
            go_wp2_with (first | ((with_reducible refine gate_callee (f := 18) rfl ?_); refine goesL_ (some 18) rfl rfl Tryd.func18 (by kernel_rfl) rfl #[.string (a0.extract 0 ((ji3) : Int).toNat), .int .i64 a1] rfl (by (try simp only [List.map_toArray, List.map_cons, List.map_nil]); first | done | (simp only [hji3]; rfl) | rfl | (simp only [List.length_drop, List.length_take]; rfl)) ?_; (with_reducible refine (col_Get.calls k (a0.extract 0 ((ji3) : Int).toNat) a1 t277 t278 t279 t280 t281 t282 _ A6.out).mono ?_); rintro e w30 ⟨rfl, hb⟩; refine ⟨_, rfl, ?_⟩; have n0_ := Aside0.mk (below_step (by repeat (first | (with_reducible first | exact HB.out | apply below_alloc | apply pw_below_drewN | apply below_drew1) | exact HB.out)) hb); clear HB; have HB := n0_; clear n0_; (try clear hb); (try clear hb2); (try clear hk); (try clear hi)) | ((with_reducible refine gate_dst (N := 5) rfl ?_); (try (refine gate_guard (by rfl) ?_; dsimp only)); refine box_event ?hg (N := 5) ?hd (cs := #[.int .i64 0, .int .i64 0, .int .u64 0, .string (⟨#[]⟩ : ByteArray)]) (t := 24) ?hr ?_; (case hd => rfl); (case hg => rfl); (case hr => first | (go_simp; done) | (go_simp; rfl)); intro gb283 hg w31 hbox hb; have n0_ := Aside0.mk (below_step (by repeat (first | (with_reducible first | exact HB.out | apply below_alloc | apply pw_below_drewN | apply below_drew1) | exact HB.out)) hb); have n1_ := Aside0.mk (hbox); have n2_ := Aside0.mk ((by rw [hg]; exact (below_size (by repeat (first | (with_reducible first | exact HB.out | apply below_alloc | apply pw_below_drewN | apply below_drew1) | exact HB.out))) : w.heap.size ≤ gb283)); have n3_ := Aside0.mk ((by rw [hg]; exact (below_size (by repeat (first | (with_reducible first | exact HB.out | apply below_alloc | apply pw_below_drewN | apply below_drew1) | exact HB.out))) : w.heap.size ≤ gb283)); clear HB; have HB := n0_; have BK283 := n1_; have GW283 := n2_; have GE283 := n3_; clear n0_ n1_ n2_ n3_; clear hb hbox hg; have hcz32_0 : w31.cell? ⟨gb283, 0, none⟩ = some (.int .i64 0) := (blk_cell BK283.out 0).trans rfl; have hcz32_1 : w31.cell? ⟨gb283, 1, none⟩ = some (.int .i64 0) := (blk_cell BK283.out 1).trans rfl; have hcz32_2 : w31.cell? ⟨gb283, 2, none⟩ = some (.int .u64 0) := (blk_cell BK283.out 2).trans rfl; have hcz32_3 : w31.cell? ⟨gb283, 3, none⟩ = some (.string (⟨#[]⟩ : ByteArray)) := (blk_cell BK283.out 3).trans rfl; have hfz32_0 := blk_frozen BK283.out 0; have hfz32_1 := blk_frozen BK283.out 1; have hfz32_2 := blk_frozen BK283.out 2; have hfz32_3 := blk_frozen BK283.out 3) | (go_at_call 15; (with_reducible refine (withylaw03_fixed.calls k  t288 _ A29.out).mono ?_); rintro e w33 ⟨rfl, hb⟩; have n0_ := Aside0.mk (blk_below (g := gb283) (o := .cells #[.int .i64 t277, .int .i64 t278, .int .u64 t279, .string t280] 24 (0, 0)) (by (with_reducible repeat (first | refine blk_drewN ?_ _ | refine blk_drew ?_ | refine blk_alloc ?_ _)); refine blk_put (cs := #[.int .i64 t277, .int .i64 t278, .int .u64 t279, .string (⟨#[]⟩ : ByteArray)]) ?_ 3 _ rfl; (with_reducible repeat (first | refine blk_drewN ?_ _ | refine blk_drew ?_ | refine blk_alloc ?_ _)); refine blk_put (cs := #[.int .i64 t277, .int .i64 t278, .int .u64 0, .string (⟨#[]⟩ : ByteArray)]) ?_ 2 _ rfl; (with_reducible repeat (first | refine blk_drewN ?_ _ | refine blk_drew ?_ | refine blk_alloc ?_ _)); refine blk_put (cs := #[.int .i64 t277, .int .i64 0, .int .u64 0, .string (⟨#[]⟩ : ByteArray)]) ?_ 1 _ rfl; (with_reducible repeat (first | refine blk_drewN ?_ _ | refine blk_drew ?_ | refine blk_alloc ?_ _)); refine blk_put (cs := #[.int .i64 0, .int .i64 0, .int .u64 0, .string (⟨#[]⟩ : ByteArray)]) ?_ 0 _ rfl; (with_reducible repeat (first | refine blk_drewN ?_ _ | refine blk_drew ?_ | refine blk_alloc ?_ _)); exact BK283.out) hb); have n1_ := Aside0.mk (below_step (by repeat (first | (with_reducible first | exact HB.out | apply below_alloc | apply pw_below_drewN | apply below_drew1 | refine below_set ?_ GE283.out) | exact HB.out)) hb); clear BK283; clear HB; have BK283 := n0_; have HB := n1_; clear n0_ n1_; (try clear hb); (try clear hb2); (try clear hk); (try clear hi)))
            go_ret
            exact ⟨by first | rfl | (simp [errW_none, errW_some] <;> rfl) | (simp only [← hji3]; first | rfl | (simp [errW_none, errW_some] <;> rfl)) | (simp [*, errW_none, errW_some] <;> rfl), by repeat (first | (with_reducible first | exact HB.out | apply below_alloc | apply pw_below_drewN | apply below_drew1 | refine below_set ?_ GE283.out) | exact HB.out)⟩
          · rw [if_neg c28] at H
            exact absurd H (by simp)
        · rw [if_neg c27] at H
          exact absurd H (by simp)
    · rw [if_neg c5] at H
      exact absurd H (by simp)
  · rw [if_neg c4] at H
    exact absurd H (by simp)

end Go.Proofs.YtimnjdgelencpaaDoor.A
