-- Written by this session's drive.py: the print's program with contracts by hand among the functions. Not trusted: Lean checks it.
import Derived.Test.YtlagllfbomaehaaDoorAx0
import Derived.Test.YtlagllfbomaehaaDoorAChainPages
import Derived.Test.YtlagllfbomaehaaDoorAWithylaw12fixed
import Derived.Test.YtlagllfbomaehaaDoorAWithyref06Size
namespace Go.Proofs.YtlagllfbomaehaaDoor.A
open Go.RowKit Go.Proofs.YtlagllfbomaehaaDoorW.PrintWords Go.Proofs.YtlagllfbomaehaaDoorW.PrintLast Go.Proofs.YtlagllfbomaehaaDoorW.PrintMore
attribute [local go_sem] max2_int min2_int max_two min_two max_three min_three max_four min_four   -- for this text's walks alone
attribute [local go_sem] Go.Proofs.YtlagllfbomaehaaDoor.Own.gtr_string Go.Proofs.YtlagllfbomaehaaDoor.Own.leq_string Go.Proofs.YtlagllfbomaehaaDoor.Own.geq_string Go.Proofs.YtlagllfbomaehaaDoor.Own.ba_get
set_option linter.unusedVariables false
set_option linter.unusedSimpArgs false

/-! ### withylaw12_ChainPages: function 5 -/
def withylaw12_ChainPages.j0 : Nat → Int → Int → Int → Int → Int → Int → Option (Bool)
  | 0, _, _, _, _, _, _ => none
  | k + 1, x2, x7, x8, x9, x10, x11 => (chain_Pages.f (wrap64 (x7 + x8)) x2).bind fun t251 => ((chain_Pages.f (wrap64 (x7 + 1)) x2).bind fun t252 => (if t252 = (wrap64 (x9 + x11)) then (if t251 ≤ (wrap64 (x9 + x10)) then (if t251 ≥ (mx x9 x10) then ((chain_Pages.f (wrap64 (-x7)) x2).bind fun t253 => (if t253 = 0 then (if (wrap64 (x9 * (wrap64 (x2 - 16)))) ≥ x7 then (if (wrap64 ((wrap64 (x9 - 1)) * (wrap64 (x2 - 16)))) < (mx x7 1) then ((withylaw12_fixed.f k).bind fun t254 => (some t254)) else (none)) else (none)) else (none))) else (none)) else (none)) else (none)))
def withylaw12_ChainPages.f (k : Nat) (a0 : Int) (a1 : Int) (a2 : Int) : Option (Bool) := (withyref06_Size.f a2).bind fun t247 => (if t247 = true then ((chain_Pages.f (Int.tmod (wrap64 (a0)) 1048576) a2).bind fun t249 => ((chain_Pages.f (Int.tmod (wrap64 (a1)) 1048576) a2).bind fun t250 => (if (wrap64 (a2 - 16)) = 0 then (none) else (if (Int.tmod (Int.tmod (wrap64 (a0)) 1048576) (wrap64 (a2 - 16))) = 0 then (withylaw12_ChainPages.j0 k a2 (Int.tmod (wrap64 (a0)) 1048576) (Int.tmod (wrap64 (a1)) 1048576) t249 t250 1) else (withylaw12_ChainPages.j0 k a2 (Int.tmod (wrap64 (a0)) 1048576) (Int.tmod (wrap64 (a1)) 1048576) t249 t250 0))))) else ((withylaw12_fixed.f k).bind fun t248 => (some t248)))
theorem withylaw12_ChainPages.mono_l : ∀ k, (∀ y0 y1 y2 y3 y4 y5, LeO (withylaw12_ChainPages.j0 k y0 y1 y2 y3 y4 y5) (withylaw12_ChainPages.j0 (k + 1) y0 y1 y2 y3 y4 y5))
  | 0 => fun _ _ _ _ _ _ r h => by simp [withylaw12_ChainPages.j0] at h
  | k + 1 => by
    have ih0 := withylaw12_ChainPages.mono_l k
    · intro y0 y1 y2 y3 y4 y5
      unfold withylaw12_ChainPages.j0
      repeat' first
      | (with_reducible exact ih0 _ _ _ _ _ _)
      | (with_reducible exact withylaw12_fixed.mono _)
      | (with_reducible exact LeO.refl _)
      | (with_reducible exact LeO.none _)
      | (with_reducible refine LeO.ite ?_ ?_)
      | (with_reducible refine LeO.bind ?_ (fun _ => ?_))
      | exact ih0 _ _ _ _ _ _
      | exact withylaw12_fixed.mono _
      | exact LeO.none _
      | refine LeO.ite ?_ ?_
      | refine LeO.bind ?_ (fun _ => ?_)
theorem withylaw12_ChainPages.mono : ∀ a0 a1 a2 k, LeO (withylaw12_ChainPages.f k a0 a1 a2) (withylaw12_ChainPages.f (k + 1) a0 a1 a2) := by
  intro a0 a1 a2 k
  have ih0 := withylaw12_ChainPages.mono_l k
  unfold withylaw12_ChainPages.f
  repeat' first
      | (with_reducible exact ih0 _ _ _ _ _ _)
      | (with_reducible exact withylaw12_fixed.mono _)
      | (with_reducible exact LeO.refl _)
      | (with_reducible exact LeO.none _)
      | (with_reducible refine LeO.ite ?_ ?_)
      | (with_reducible refine LeO.bind ?_ (fun _ => ?_))
      | exact ih0 _ _ _ _ _ _
      | exact withylaw12_fixed.mono _
      | exact LeO.none _
      | refine LeO.ite ?_ ?_
      | refine LeO.bind ?_ (fun _ => ?_)
set_option maxHeartbeats 8000000 in
set_option maxRecDepth 100000 in
theorem withylaw12_ChainPages.calls (k : Nat) (a0 : Int) (a1 : Int) (a2 : Int) (r : Bool) (w : World) (h : withylaw12_ChainPages.f k a0 a1 a2 = some r) :
    Calls Tryd.prog 5 #[.int .u32 a0, .int .u32 a1, .int .i64 a2] w fun e w' => e = .returned (.bool r) ∧ Below w.heap.size w w' := by
  have HB := Aside0.mk (Below.refl w.heap.size w)
  have H : ((withyref06_Size.f a2).bind fun t247 => (if t247 = true then ((chain_Pages.f (Int.tmod (wrap64 (a0)) 1048576) a2).bind fun t249 => ((chain_Pages.f (Int.tmod (wrap64 (a1)) 1048576) a2).bind fun t250 => (if (wrap64 (a2 - 16)) = 0 then (none) else (if (Int.tmod (Int.tmod (wrap64 (a0)) 1048576) (wrap64 (a2 - 16))) = 0 then (withylaw12_ChainPages.j0 k a2 (Int.tmod (wrap64 (a0)) 1048576) (Int.tmod (wrap64 (a1)) 1048576) t249 t250 1) else (withylaw12_ChainPages.j0 k a2 (Int.tmod (wrap64 (a0)) 1048576) (Int.tmod (wrap64 (a1)) 1048576) t249 t250 0))))) else ((withylaw12_fixed.f k).bind fun t248 => (some t248)))) = some r := h
  clear h
  replace H := Option.bind_eq_some_iff.mp H
  obtain ⟨t247, A40, H⟩ := H
  replace H : (if t247 = true then ((chain_Pages.f (Int.tmod (wrap64 (a0)) 1048576) a2).bind fun t249 => ((chain_Pages.f (Int.tmod (wrap64 (a1)) 1048576) a2).bind fun t250 => (if (wrap64 (a2 - 16)) = 0 then (none) else (if (Int.tmod (Int.tmod (wrap64 (a0)) 1048576) (wrap64 (a2 - 16))) = 0 then (withylaw12_ChainPages.j0 k a2 (Int.tmod (wrap64 (a0)) 1048576) (Int.tmod (wrap64 (a1)) 1048576) t249 t250 1) else (withylaw12_ChainPages.j0 k a2 (Int.tmod (wrap64 (a0)) 1048576) (Int.tmod (wrap64 (a1)) 1048576) t249 t250 0))))) else ((withylaw12_fixed.f k).bind fun t248 => (some t248))) = some r := H
  have A4 := Aside0.mk A40
  clear A40
  by_cases c5 : t247 = true
  · subst c5
    have H1 : ((chain_Pages.f (Int.tmod (wrap64 (a0)) 1048576) a2).bind fun t249 => ((chain_Pages.f (Int.tmod (wrap64 (a1)) 1048576) a2).bind fun t250 => (if (wrap64 (a2 - 16)) = 0 then (none) else (if (Int.tmod (Int.tmod (wrap64 (a0)) 1048576) (wrap64 (a2 - 16))) = 0 then (withylaw12_ChainPages.j0 k a2 (Int.tmod (wrap64 (a0)) 1048576) (Int.tmod (wrap64 (a1)) 1048576) t249 t250 1) else (withylaw12_ChainPages.j0 k a2 (Int.tmod (wrap64 (a0)) 1048576) (Int.tmod (wrap64 (a1)) 1048576) t249 t250 0))))) = some r := by rw [if_pos rfl] at H; exact H
    clear H
    have H := H1
    clear H1
    replace H := Option.bind_eq_some_iff.mp H
    obtain ⟨t249, A60, H⟩ := H
    replace H : ((chain_Pages.f (Int.tmod (wrap64 (a1)) 1048576) a2).bind fun t250 => (if (wrap64 (a2 - 16)) = 0 then (none) else (if (Int.tmod (Int.tmod (wrap64 (a0)) 1048576) (wrap64 (a2 - 16))) = 0 then (withylaw12_ChainPages.j0 k a2 (Int.tmod (wrap64 (a0)) 1048576) (Int.tmod (wrap64 (a1)) 1048576) t249 t250 1) else (withylaw12_ChainPages.j0 k a2 (Int.tmod (wrap64 (a0)) 1048576) (Int.tmod (wrap64 (a1)) 1048576) t249 t250 0)))) = some r := H
    have A6 := Aside0.mk A60
    clear A60
    replace H := Option.bind_eq_some_iff.mp H
    obtain ⟨t250, A70, H⟩ := H
    replace H : (if (wrap64 (a2 - 16)) = 0 then (none) else (if (Int.tmod (Int.tmod (wrap64 (a0)) 1048576) (wrap64 (a2 - 16))) = 0 then (withylaw12_ChainPages.j0 k a2 (Int.tmod (wrap64 (a0)) 1048576) (Int.tmod (wrap64 (a1)) 1048576) t249 t250 1) else (withylaw12_ChainPages.j0 k a2 (Int.tmod (wrap64 (a0)) 1048576) (Int.tmod (wrap64 (a1)) 1048576) t249 t250 0))) = some r := H
    have A7 := Aside0.mk A70
    clear A70
    by_cases c8 : (wrap64 (a2 - 16)) = 0
    · rw [if_pos c8] at H
      exact absurd H (by simp)
    · rw [if_neg c8] at H
      have c8b0 : ((wrap64 (a2 - 16)) == 0) = false := beq_eq_false_iff_ne.mpr c8
      have c8b1 : ((wrap64 (a2 - 16)) != 0) = true := bne_iff_ne.mpr c8
      have HC9 := Aside0.mk H
      clear H
      go_enter Tryd.func5, Tryd.ntmps5
      go_upto_if 33 with (first | ((with_reducible refine gate_callee (f := 13) rfl ?_); refine goesL_ (some 14) rfl rfl Tryd.func13 (by kernel_rfl) rfl #[.int .i64 a2] rfl (by (try simp only [List.map_toArray, List.map_cons, List.map_nil]); first | done | rfl | (simp only [List.length_drop, List.length_take]; rfl)) ?_; (with_reducible refine (withyref06_Size.calls a2 true _ A4.out).mono ?_); rintro e w' ⟨rfl, ⟨nd, rfl⟩⟩; refine ⟨_, rfl, ?_⟩) | ((with_reducible refine gate_callee (f := 15) rfl ?_); refine goesL_ (some 25) rfl rfl Tryd.func15 (by kernel_rfl) rfl #[.int .i64 (Int.tmod (wrap64 (a0)) 1048576), .int .i64 a2] rfl (by (try simp only [List.map_toArray, List.map_cons, List.map_nil]); first | done | rfl | (simp only [List.length_drop, List.length_take]; rfl)) ?_; (with_reducible refine (chain_Pages.calls (Int.tmod (wrap64 (a0)) 1048576) a2 t249 _ A6.out).mono ?_); rintro e w10 ⟨rfl, hb⟩; refine ⟨_, rfl, ?_⟩; have n0_ := Aside0.mk (below_step (by repeat (first | (with_reducible first | exact HB.out | apply below_alloc | apply pw_below_drewN | apply below_drew1) | exact HB.out)) hb); clear HB; have HB := n0_; clear n0_; (try clear hb); (try clear hb2); (try clear hk); (try clear hi)) | ((with_reducible refine gate_callee (f := 15) rfl ?_); refine goesL_ (some 28) rfl rfl Tryd.func15 (by kernel_rfl) rfl #[.int .i64 (Int.tmod (wrap64 (a1)) 1048576), .int .i64 a2] rfl (by (try simp only [List.map_toArray, List.map_cons, List.map_nil]); first | done | rfl | (simp only [List.length_drop, List.length_take]; rfl)) ?_; (with_reducible refine (chain_Pages.calls (Int.tmod (wrap64 (a1)) 1048576) a2 t250 _ A7.out).mono ?_); rintro e w11 ⟨rfl, hb⟩; refine ⟨_, rfl, ?_⟩; have n0_ := Aside0.mk (below_step (by repeat (first | (with_reducible first | exact HB.out | apply below_alloc | apply pw_below_drewN | apply below_drew1) | exact HB.out)) hb); clear HB; have HB := n0_; clear n0_; (try clear hb); (try clear hb2); (try clear hk); (try clear hi)))
      (try simp only [Act.put, List.setIfInBounds_toArray, List.set_cons_zero, List.set_cons_succ])
      go_cut [11] (fun v11 wc => ∃ (kq : Nat) (x11_8 : Int), v11 = .int .i64 x11_8 ∧ Aside0 (withylaw12_ChainPages.j0 kq a2 (Int.tmod (wrap64 (a0)) 1048576) (Int.tmod (wrap64 (a1)) 1048576) t249 t250 x11_8 = some r) ∧ Aside0 (kq ≤ k) ∧ Aside0 (Below w.heap.size w wc))
      case first =>
        have H := HC9.out
        clear HC9
        by_cases c12 : (Int.tmod (Int.tmod (wrap64 (a0)) 1048576) (wrap64 (a2 - 16))) = 0
        · rw [if_pos c12] at H
          have c12b0 : ((Int.tmod (Int.tmod (wrap64 (a0)) 1048576) (wrap64 (a2 - 16))) == 0) = true := beq_iff_eq.mpr c12
          have c12b1 : ((Int.tmod (Int.tmod (wrap64 (a0)) 1048576) (wrap64 (a2 - 16))) != 0) = false := bne_eq_false_iff_eq.mpr c12
          clear c12
          (first | rw [c12b0] | (simp only [i64_w, i32_w]; rw [c12b0]) | skip)
          have H' := Aside0.mk H
          clear H
          go_wp2
          go_meet
          case rel => exact ⟨_, (1), (by first | rfl | (simp; done) | (simp [*]; done)), H', ⟨by first | omega | exact Nat.le_refl _⟩, ⟨by repeat (first | (with_reducible first | exact HB.out | apply below_alloc | apply pw_below_drewN | apply below_drew1) | exact HB.out)⟩⟩
        · rw [if_neg c12] at H
          have c12b0 : ((Int.tmod (Int.tmod (wrap64 (a0)) 1048576) (wrap64 (a2 - 16))) == 0) = false := beq_eq_false_iff_ne.mpr c12
          have c12b1 : ((Int.tmod (Int.tmod (wrap64 (a0)) 1048576) (wrap64 (a2 - 16))) != 0) = true := bne_iff_ne.mpr c12
          (first | rw [c12b0] | (simp only [i64_w, i32_w]; rw [c12b0]) | skip)
          have H' := Aside0.mk H
          clear H
          go_wp2
          go_meet
          case rel => exact ⟨_, (0), (by first | rfl | (simp; done) | (simp [*]; done)), H', ⟨by first | omega | exact Nat.le_refl _⟩, ⟨by repeat (first | (with_reducible first | exact HB.out | apply below_alloc | apply pw_below_drewN | apply below_drew1) | exact HB.out)⟩⟩
      case rest =>
        clear HC9
        try clear c1
        try clear p2
        try clear c5
        try clear p6
        try clear c8
        try clear c8b0
        try clear c8b1
        try clear c12
        try clear c12b0
        try clear c12b1
        obtain ⟨kq, x11_8, rfl, HA, HJ8, HB⟩ := hcut
        cases kq with
        | zero => exact absurd HA.out (by simp [withylaw12_ChainPages.j0])
        | succ kj8 =>
          have H := HA.out
          clear HA
          simp only [withylaw12_ChainPages.j0] at H
          replace H := Option.bind_eq_some_iff.mp H
          obtain ⟨t251, A130, H⟩ := H
          replace H : ((chain_Pages.f (wrap64 ((Int.tmod (wrap64 (a0)) 1048576) + 1)) a2).bind fun t252 => (if t252 = (wrap64 (t249 + x11_8)) then (if t251 ≤ (wrap64 (t249 + t250)) then (if t251 ≥ (mx t249 t250) then ((chain_Pages.f (wrap64 (-(Int.tmod (wrap64 (a0)) 1048576))) a2).bind fun t253 => (if t253 = 0 then (if (wrap64 (t249 * (wrap64 (a2 - 16)))) ≥ (Int.tmod (wrap64 (a0)) 1048576) then (if (wrap64 ((wrap64 (t249 - 1)) * (wrap64 (a2 - 16)))) < (mx (Int.tmod (wrap64 (a0)) 1048576) 1) then ((withylaw12_fixed.f kj8).bind fun t254 => (some t254)) else (none)) else (none)) else (none))) else (none)) else (none)) else (none))) = some r := H
          have A13 := Aside0.mk A130
          clear A130
          replace H := Option.bind_eq_some_iff.mp H
          obtain ⟨t252, A140, H⟩ := H
          replace H : (if t252 = (wrap64 (t249 + x11_8)) then (if t251 ≤ (wrap64 (t249 + t250)) then (if t251 ≥ (mx t249 t250) then ((chain_Pages.f (wrap64 (-(Int.tmod (wrap64 (a0)) 1048576))) a2).bind fun t253 => (if t253 = 0 then (if (wrap64 (t249 * (wrap64 (a2 - 16)))) ≥ (Int.tmod (wrap64 (a0)) 1048576) then (if (wrap64 ((wrap64 (t249 - 1)) * (wrap64 (a2 - 16)))) < (mx (Int.tmod (wrap64 (a0)) 1048576) 1) then ((withylaw12_fixed.f kj8).bind fun t254 => (some t254)) else (none)) else (none)) else (none))) else (none)) else (none)) else (none)) = some r := H
          have A14 := Aside0.mk A140
          clear A140
          by_cases c15 : t252 = (wrap64 (t249 + x11_8))
          · rw [if_pos c15] at H
            have c15b0 : (t252 == (wrap64 (t249 + x11_8))) = true := beq_iff_eq.mpr c15
            have c15b1 : (t252 != (wrap64 (t249 + x11_8))) = false := bne_eq_false_iff_eq.mpr c15
            clear c15
            by_cases c16 : t251 ≤ (wrap64 (t249 + t250))
            · rw [if_pos c16] at H
              have c16b0 : decide (t251 ≤ (wrap64 (t249 + t250))) = true := decide_eq_true c16
              clear c16
              obtain ⟨ji17, hji17⟩ : ∃ j_ : Int, (mx t249 t250) = j_ := ⟨_, rfl⟩
              replace H : (if t251 ≥ (ji17) then ((chain_Pages.f (wrap64 (-(Int.tmod (wrap64 (a0)) 1048576))) a2).bind fun t253 => (if t253 = 0 then (if (wrap64 (t249 * (wrap64 (a2 - 16)))) ≥ (Int.tmod (wrap64 (a0)) 1048576) then (if (wrap64 ((wrap64 (t249 - 1)) * (wrap64 (a2 - 16)))) < (mx (Int.tmod (wrap64 (a0)) 1048576) 1) then ((withylaw12_fixed.f kj8).bind fun t254 => (some t254)) else (none)) else (none)) else (none))) else (none)) = some r := by first | (rw [hji17] at H; exact H) | (simp only [hji17] at H ⊢; exact H)
              (try rw [hji17] at A13)
              (try rw [hji17] at A14)
              have hji17_ : (if t249 < t250 then t250 else t249) = ji17 := hji17
              by_cases c18 : t251 ≥ (ji17)
              · rw [if_pos c18] at H
                have c18b0 : decide ((ji17) ≤ t251) = true := decide_eq_true c18
                clear c18
                replace H := Option.bind_eq_some_iff.mp H
                obtain ⟨t253, A190, H⟩ := H
                replace H : (if t253 = 0 then (if (wrap64 (t249 * (wrap64 (a2 - 16)))) ≥ (Int.tmod (wrap64 (a0)) 1048576) then (if (wrap64 ((wrap64 (t249 - 1)) * (wrap64 (a2 - 16)))) < (mx (Int.tmod (wrap64 (a0)) 1048576) 1) then ((withylaw12_fixed.f kj8).bind fun t254 => (some t254)) else (none)) else (none)) else (none)) = some r := H
                have A19 := Aside0.mk A190
                clear A190
                by_cases c20 : t253 = 0
                · rw [if_pos c20] at H
                  have c20b0 : (t253 == 0) = true := beq_iff_eq.mpr c20
                  have c20b1 : (t253 != 0) = false := bne_eq_false_iff_eq.mpr c20
                  clear c20
                  by_cases c21 : (wrap64 (t249 * (wrap64 (a2 - 16)))) ≥ (Int.tmod (wrap64 (a0)) 1048576)
                  · rw [if_pos c21] at H
                    have c21b0 : decide ((Int.tmod (wrap64 (a0)) 1048576) ≤ (wrap64 (t249 * (wrap64 (a2 - 16))))) = true := decide_eq_true c21
                    clear c21
                    obtain ⟨ji22, hji22⟩ : ∃ j_ : Int, (mx (Int.tmod (wrap64 (a0)) 1048576) 1) = j_ := ⟨_, rfl⟩
                    replace H : (if (wrap64 ((wrap64 (t249 - 1)) * (wrap64 (a2 - 16)))) < (ji22) then ((withylaw12_fixed.f kj8).bind fun t254 => (some t254)) else (none)) = some r := by first | (rw [hji22] at H; exact H) | (simp only [hji22] at H ⊢; exact H)
                    (try rw [hji22] at A13)
                    (try rw [hji22] at A14)
                    (try rw [hji22] at A19)
                    have hji22_ : (if (Int.tmod (wrap64 (a0)) 1048576) < 1 then 1 else (Int.tmod (wrap64 (a0)) 1048576)) = ji22 := hji22
                    by_cases c23 : (wrap64 ((wrap64 (t249 - 1)) * (wrap64 (a2 - 16)))) < (ji22)
                    · rw [if_pos c23] at H
                      have c23b0 : decide ((wrap64 ((wrap64 (t249 - 1)) * (wrap64 (a2 - 16)))) < (ji22)) = true := decide_eq_true c23
                      clear c23
                      replace H := Option.bind_eq_some_iff.mp H
                      obtain ⟨t254, A240, H⟩ := H
                      replace H : (some t254) = some r := H
                      have A24 := Aside0.mk A240
                      clear A240
                      obtain rfl := Option.some.inj H
                      go_wp2_with (first | ((with_reducible refine gate_callee (f := 15) rfl ?_); refine goesL_ (some 38) rfl rfl Tryd.func15 (by kernel_rfl) rfl #[.int .i64 (wrap64 ((Int.tmod (wrap64 (a0)) 1048576) + (Int.tmod (wrap64 (a1)) 1048576))), .int .i64 a2] rfl (by (try simp only [List.map_toArray, List.map_cons, List.map_nil]); first | done | rfl | (simp only [List.length_drop, List.length_take]; rfl)) ?_; (with_reducible refine (chain_Pages.calls (wrap64 ((Int.tmod (wrap64 (a0)) 1048576) + (Int.tmod (wrap64 (a1)) 1048576))) a2 t251 _ A13.out).mono ?_); rintro e w25 ⟨rfl, hb⟩; refine ⟨_, rfl, ?_⟩; have n0_ := Aside0.mk (below_step (by repeat (first | (with_reducible first | exact HB.out | apply below_alloc | apply pw_below_drewN | apply below_drew1) | exact HB.out)) hb); clear HB; have HB := n0_; clear n0_; (try clear hb); (try clear hb2); (try clear hk); (try clear hi)) | ((with_reducible refine gate_callee (f := 15) rfl ?_); refine goesL_ (some 42) rfl rfl Tryd.func15 (by kernel_rfl) rfl #[.int .i64 (wrap64 ((Int.tmod (wrap64 (a0)) 1048576) + 1)), .int .i64 a2] rfl (by (try simp only [List.map_toArray, List.map_cons, List.map_nil]); first | done | rfl | (simp only [List.length_drop, List.length_take]; rfl)) ?_; (with_reducible refine (chain_Pages.calls (wrap64 ((Int.tmod (wrap64 (a0)) 1048576) + 1)) a2 t252 _ A14.out).mono ?_); rintro e w26 ⟨rfl, hb⟩; refine ⟨_, rfl, ?_⟩; have n0_ := Aside0.mk (below_step (by repeat (first | (with_reducible first | exact HB.out | apply below_alloc | apply pw_below_drewN | apply below_drew1) | exact HB.out)) hb); clear HB; have HB := n0_; clear n0_; (try clear hb); (try clear hb2); (try clear hk); (try clear hi)) | (go_at_call 15; (with_reducible refine (chain_Pages.calls (wrap64 (-(Int.tmod (wrap64 (a0)) 1048576))) a2 t253 _ A19.out).mono ?_); rintro e w27 ⟨rfl, hb⟩; have n0_ := Aside0.mk (below_step (by repeat (first | (with_reducible first | exact HB.out | apply below_alloc | apply pw_below_drewN | apply below_drew1) | exact HB.out)) hb); clear HB; have HB := n0_; clear n0_; (try clear hb); (try clear hb2); (try clear hk); (try clear hi)) | (go_at_call 12; (with_reducible refine (withylaw12_fixed.calls kj8  t254 _ A24.out).mono ?_); rintro e w28 ⟨rfl, hb⟩; have n0_ := Aside0.mk (below_step (by repeat (first | (with_reducible first | exact HB.out | apply below_alloc | apply pw_below_drewN | apply below_drew1) | exact HB.out)) hb); clear HB; have HB := n0_; clear n0_; (try clear hb); (try clear hb2); (try clear hk); (try clear hi)))
                      go_ret
                      exact ⟨by first | rfl | (simp [errW_none, errW_some] <;> rfl) | (simp only [← hji17, ← hji22]; first | rfl | (simp [errW_none, errW_some] <;> rfl)) | (simp [*, errW_none, errW_some] <;> rfl), by repeat (first | (with_reducible first | exact HB.out | apply below_alloc | apply pw_below_drewN | apply below_drew1) | exact HB.out)⟩
                    · rw [if_neg c23] at H
                      exact absurd H (by simp)
                  · rw [if_neg c21] at H
                    exact absurd H (by simp)
                · rw [if_neg c20] at H
                  exact absurd H (by simp)
              · rw [if_neg c18] at H
                exact absurd H (by simp)
            · rw [if_neg c16] at H
              exact absurd H (by simp)
          · rw [if_neg c15] at H
            exact absurd H (by simp)
  · replace c5 := Bool.eq_false_iff.mpr c5
    subst c5
    have H1 : ((withylaw12_fixed.f k).bind fun t248 => (some t248)) = some r := by rw [if_neg (show ¬ (false = true) by decide)] at H; exact H
    clear H
    have H := H1
    clear H1
    replace H := Option.bind_eq_some_iff.mp H
    obtain ⟨t248, A290, H⟩ := H
    replace H : (some t248) = some r := H
    have A29 := Aside0.mk A290
    clear A290
    obtain rfl := Option.some.inj H
    go_enter Tryd.func5, Tryd.ntmps5
    go_wp2_with (first | ((with_reducible refine gate_callee (f := 13) rfl ?_); refine goesL_ (some 14) rfl rfl Tryd.func13 (by kernel_rfl) rfl #[.int .i64 a2] rfl (by (try simp only [List.map_toArray, List.map_cons, List.map_nil]); first | done | rfl | (simp only [List.length_drop, List.length_take]; rfl)) ?_; (with_reducible refine (withyref06_Size.calls a2 false _ A4.out).mono ?_); rintro e w' ⟨rfl, ⟨nd, rfl⟩⟩; refine ⟨_, rfl, ?_⟩) | ((with_reducible refine gate_callee (f := 12) rfl ?_); refine goesL_ (some 16) rfl rfl Tryd.func12 (by kernel_rfl) rfl #[] rfl (by (try simp only [List.map_toArray, List.map_cons, List.map_nil]); first | done | rfl | (simp only [List.length_drop, List.length_take]; rfl)) ?_; (with_reducible refine (withylaw12_fixed.calls k  t248 _ A29.out).mono ?_); rintro e w30 ⟨rfl, hb⟩; refine ⟨_, rfl, ?_⟩; have n0_ := Aside0.mk (below_step (by repeat (first | (with_reducible first | exact HB.out | apply below_alloc | apply pw_below_drewN | apply below_drew1) | exact HB.out)) hb); clear HB; have HB := n0_; clear n0_; (try clear hb); (try clear hb2); (try clear hk); (try clear hi)))
    go_ret
    exact ⟨by first | rfl | (simp [errW_none, errW_some] <;> rfl) | (simp [*, errW_none, errW_some] <;> rfl), by repeat (first | (with_reducible first | exact HB.out | apply below_alloc | apply pw_below_drewN | apply below_drew1) | exact HB.out)⟩

end Go.Proofs.YtlagllfbomaehaaDoor.A
