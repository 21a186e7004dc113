-- Written by this session's drive.py: the print's program with contracts by hand among the functions. Not trusted: Lean checks it.
import Derived.Test.YtlagllfbomaehaaDoorAx0
import Derived.Test.YtlagllfbomaehaaDoorAChainMay
import Derived.Test.YtlagllfbomaehaaDoorAChainParts
import Derived.Test.YtlagllfbomaehaaDoorAChainPages
import Derived.Test.YtlagllfbomaehaaDoorAWithylaw12fixed
import Derived.Test.YtlagllfbomaehaaDoorAWithyref06Size
namespace Go.Proofs.YtlagllfbomaehaaDoor.A
open Go.RowKit Go.Proofs.YtlagllfbomaehaaDoorW.PrintWords Go.Proofs.YtlagllfbomaehaaDoorW.PrintLast Go.Proofs.YtlagllfbomaehaaDoorW.PrintMore
attribute [local go_sem] max2_int min2_int max_two min_two max_three min_three max_four min_four   -- for this text's walks alone
attribute [local go_sem] Go.Proofs.YtlagllfbomaehaaDoor.Own.gtr_string Go.Proofs.YtlagllfbomaehaaDoor.Own.leq_string Go.Proofs.YtlagllfbomaehaaDoor.Own.geq_string Go.Proofs.YtlagllfbomaehaaDoor.Own.ba_get
set_option linter.unusedVariables false
set_option linter.unusedSimpArgs false

/-! ### withylaw12_ChainParts: function 4 -/
def withylaw12_ChainParts.l0 : Nat → ByteArray → Int → List ByteArray → ByteArray → Int → Option (Bool)
  | 0, _, _, _, _, _ => none
  | k + 1, x0, x1, x5, x6, x7 => if x7 < (x5.length : Int) then (if 0 ≤ x7 then (if ((rdOf ByteArray.empty x5 x7).size : Int) < 1 then (none) else (if ((rdOf ByteArray.empty x5 x7).size : Int) > (wrap64 (x1 - 16)) then (none) else (if (wrap64 (x7 + 1)) < (x5.length : Int) then (if ((rdOf ByteArray.empty x5 x7).size : Int) = (wrap64 (x1 - 16)) then ((chain_May.f 1 (wrap64 (2 * (mn 1 (wrap64 ((wrap64 ((x5.length : Int) - 1)) - x7))))) (rdOf ByteArray.empty x5 x7) x1).bind fun t240 => (if t240 = true then (if x6.size + (rdOf ByteArray.empty x5 x7).size ≤ 9223372036854775807 then (withylaw12_ChainParts.l0 k x0 x1 x5 (x6 ++ (rdOf ByteArray.empty x5 x7)) (wrap64 (x7 + 1))) else (none)) else (none))) else (none)) else ((chain_May.f 1 (wrap64 (2 * (mn 1 (wrap64 ((wrap64 ((x5.length : Int) - 1)) - x7))))) (rdOf ByteArray.empty x5 x7) x1).bind fun t243 => (if t243 = true then (if x6.size + (rdOf ByteArray.empty x5 x7).size ≤ 9223372036854775807 then (withylaw12_ChainParts.l0 k x0 x1 x5 (x6 ++ (rdOf ByteArray.empty x5 x7)) (wrap64 (x7 + 1))) else (none)) else (none)))))) else (none)) else (if x6.toList = x0.toList then ((chain_Pages.f (x0.size : Int) x1).bind fun t245 => (if t245 = (x5.length : Int) then ((withylaw12_fixed.f k).bind fun t246 => (some t246)) else (none))) else (none))
def withylaw12_ChainParts.f (k : Nat) (a0 : ByteArray) (a1 : Int) : Option (Bool) := if 0 ≤ (mn (a0.size : Int) 3000) then (if (mn (a0.size : Int) 3000) ≤ (a0.size : Int) then ((withyref06_Size.f a1).bind fun t230 => (if t230 = true then ((chain_Parts.f (a0.extract 0 ((mn (a0.size : Int) 3000) : Int).toNat) a1).bind fun t233 => (withylaw12_ChainParts.l0 k (a0.extract 0 ((mn (a0.size : Int) 3000) : Int).toNat) a1 t233 (⟨#[]⟩ : ByteArray) 0)) else ((chain_May.f 1 0 (⟨#[120]⟩ : ByteArray) a1).bind fun t231 => (if t231 = true then (none) else ((withylaw12_fixed.f k).bind fun t232 => (some t232)))))) else (none)) else (none)
theorem withylaw12_ChainParts.mono_l : ∀ k, (∀ y0 y1 y2 y3 y4, LeO (withylaw12_ChainParts.l0 k y0 y1 y2 y3 y4) (withylaw12_ChainParts.l0 (k + 1) y0 y1 y2 y3 y4))
  | 0 => fun _ _ _ _ _ r h => by simp [withylaw12_ChainParts.l0] at h
  | k + 1 => by
    have ih0 := withylaw12_ChainParts.mono_l k
    · intro y0 y1 y2 y3 y4
      unfold withylaw12_ChainParts.l0
      repeat' first
      | (with_reducible exact ih0 _ _ _ _ _)
      | (with_reducible exact withylaw12_fixed.mono _)
      | (with_reducible exact LeO.refl _)
      | (with_reducible exact LeO.none _)
      | (with_reducible refine LeO.ite ?_ ?_)
      | (with_reducible refine LeO.bind ?_ (fun _ => ?_))
      | exact ih0 _ _ _ _ _
      | exact withylaw12_fixed.mono _
      | exact LeO.none _
      | refine LeO.ite ?_ ?_
      | refine LeO.bind ?_ (fun _ => ?_)
theorem withylaw12_ChainParts.mono : ∀ a0 a1 k, LeO (withylaw12_ChainParts.f k a0 a1) (withylaw12_ChainParts.f (k + 1) a0 a1) := by
  intro a0 a1 k
  have ih0 := withylaw12_ChainParts.mono_l k
  unfold withylaw12_ChainParts.f
  repeat' first
      | (with_reducible exact ih0 _ _ _ _ _)
      | (with_reducible exact withylaw12_fixed.mono _)
      | (with_reducible exact LeO.refl _)
      | (with_reducible exact LeO.none _)
      | (with_reducible refine LeO.ite ?_ ?_)
      | (with_reducible refine LeO.bind ?_ (fun _ => ?_))
      | exact ih0 _ _ _ _ _
      | exact withylaw12_fixed.mono _
      | exact LeO.none _
      | refine LeO.ite ?_ ?_
      | refine LeO.bind ?_ (fun _ => ?_)
set_option maxHeartbeats 8000000 in
set_option maxRecDepth 100000 in
theorem withylaw12_ChainParts.calls (k : Nat) (a0 : ByteArray) (a1 : Int) (r : Bool) (w : World) (h : withylaw12_ChainParts.f k a0 a1 = some r) :
    Calls Tryd.prog 4 #[.string a0, .int .i64 a1] w fun e w' => e = .returned (.bool r) ∧ Below w.heap.size w w' := by
  have hu23 := Tryd.underlying23
  have HB := Aside0.mk (Below.refl w.heap.size w)
  have H : (if 0 ≤ (mn (a0.size : Int) 3000) then (if (mn (a0.size : Int) 3000) ≤ (a0.size : Int) then ((withyref06_Size.f a1).bind fun t230 => (if t230 = true then ((chain_Parts.f (a0.extract 0 ((mn (a0.size : Int) 3000) : Int).toNat) a1).bind fun t233 => (withylaw12_ChainParts.l0 k (a0.extract 0 ((mn (a0.size : Int) 3000) : Int).toNat) a1 t233 (⟨#[]⟩ : ByteArray) 0)) else ((chain_May.f 1 0 (⟨#[120]⟩ : ByteArray) a1).bind fun t231 => (if t231 = true then (none) else ((withylaw12_fixed.f k).bind fun t232 => (some t232)))))) else (none)) else (none)) = some r := h
  clear h
  obtain ⟨ji3, hji3⟩ : ∃ j_ : Int, (mn (a0.size : Int) 3000) = j_ := ⟨_, rfl⟩
  replace H : (if 0 ≤ (ji3) then (if (ji3) ≤ (a0.size : Int) then ((withyref06_Size.f a1).bind fun t230 => (if t230 = true then ((chain_Parts.f (a0.extract 0 ((ji3) : Int).toNat) a1).bind fun t233 => (withylaw12_ChainParts.l0 k (a0.extract 0 ((ji3) : Int).toNat) a1 t233 (⟨#[]⟩ : ByteArray) 0)) else ((chain_May.f 1 0 (⟨#[120]⟩ : ByteArray) a1).bind fun t231 => (if t231 = true then (none) else ((withylaw12_fixed.f k).bind fun t232 => (some t232)))))) else (none)) else (none)) = some r := by first | (rw [hji3] at H; exact H) | (simp only [hji3] at H ⊢; exact H)
  (try (have hji3h : ji3 ≤ 3000 := by (rw [← hji3]; unfold mn; (repeat' split) <;> omega)))
  (try (have hji3g : ji3 ≤ 64 := by omega))
  (try (have hji3l : 0 ≤ ji3 := by (rw [← hji3]; unfold mn; (repeat' split) <;> omega)))
  (try (have hji3m : 0 ≤ ji3 := by omega))
  have hji3W : 0 ≤ ji3 ∧ ji3 ≤ (a0.size : Int) := by rw [← hji3]; unfold mn; split <;> omega
  have hji3Y : ((a0.extract 0 ((ji3) : Int).toNat).size : Int) = ji3 := by rw [ByteArray.size_extract]; omega
  have hji3V : (((ji3) : Int).toNat : Int) = ji3 := by omega
  have hji3U : min ((ji3) : Int).toNat a0.size = ((ji3) : Int).toNat := by omega
  have hji3T : max ji3 0 = ji3 := by omega
  have hji3S : min ji3 (a0.size : Int) = ji3 := by omega
  have hji3_ : (if 3000 < (a0.size : Int) then 3000 else (a0.size : Int)) = ji3 := hji3
  by_cases c4 : 0 ≤ (ji3)
  · rw [if_pos c4] at H
    have c4b0 := eq_true c4
    have c4b1 : decide (0 ≤ (ji3)) = true := decide_eq_true c4
    clear c4
    by_cases c5 : (ji3) ≤ (a0.size : Int)
    · rw [if_pos c5] at H
      have c5b0 := eq_true c5
      have c5b1 : decide ((ji3) ≤ (a0.size : Int)) = true := decide_eq_true c5
      clear c5
      replace H := Option.bind_eq_some_iff.mp H
      obtain ⟨t230, A60, H⟩ := H
      (try simp only [hji3Y] at A60)
      replace H : (if t230 = true then ((chain_Parts.f (a0.extract 0 ((ji3) : Int).toNat) a1).bind fun t233 => (withylaw12_ChainParts.l0 k (a0.extract 0 ((ji3) : Int).toNat) a1 t233 (⟨#[]⟩ : ByteArray) 0)) else ((chain_May.f 1 0 (⟨#[120]⟩ : ByteArray) a1).bind fun t231 => (if t231 = true then (none) else ((withylaw12_fixed.f k).bind fun t232 => (some t232))))) = some r := H
      have A6 := Aside0.mk A60
      clear A60
      by_cases c7 : t230 = true
      · subst c7
        have H1 : ((chain_Parts.f (a0.extract 0 ((ji3) : Int).toNat) a1).bind fun t233 => (withylaw12_ChainParts.l0 k (a0.extract 0 ((ji3) : Int).toNat) a1 t233 (⟨#[]⟩ : ByteArray) 0)) = some r := by rw [if_pos rfl] at H; exact H
        clear H
        have H := H1
        clear H1
        replace H := Option.bind_eq_some_iff.mp H
        obtain ⟨t233, A80, H⟩ := H
        (try simp only [hji3Y] at A80)
        replace H : (withylaw12_ChainParts.l0 k (a0.extract 0 ((ji3) : Int).toNat) a1 t233 (⟨#[]⟩ : ByteArray) 0) = some r := H
        have A8 := Aside0.mk A80
        clear A80
        have H' := Aside0.mk H
        clear H
        go_enter Tryd.func4, Tryd.ntmps4
        go_wp2_with (first | ((with_reducible refine gate_callee (f := 13) rfl ?_); refine goesL_ (some 14) rfl rfl Tryd.func13 (by kernel_rfl) rfl #[.int .i64 a1] rfl (by (try simp only [List.map_toArray, List.map_cons, List.map_nil]); first | done | rfl | (simp only [List.length_drop, List.length_take]; rfl)) ?_; (with_reducible refine (withyref06_Size.calls a1 true _ A6.out).mono ?_); rintro e w' ⟨rfl, ⟨nd, rfl⟩⟩; refine ⟨_, rfl, ?_⟩) | ((with_reducible refine gate_callee (f := 14) rfl ?_); refine goesL_ (some 25) rfl rfl Tryd.func14 (by kernel_rfl) rfl #[.string (a0.extract 0 ((ji3) : Int).toNat), .int .i64 a1] rfl (by (try simp only [List.map_toArray, List.map_cons, List.map_nil]); first | done | (simp only [hji3]; rfl) | rfl | (simp only [List.length_drop, List.length_take]; rfl)) ?_; (with_reducible refine (chain_Parts.calls (a0.extract 0 ((ji3) : Int).toNat) a1 t233 _ A8.out).mono ?_); rintro e w9 ⟨v234, rfl, ho0, hb⟩; refine ⟨_, rfl, ?_⟩; have n0_ := Aside0.mk (Kd.R_lower ho0 (below_size (by repeat (first | (with_reducible first | exact HB.out | apply below_alloc | apply pw_below_drewN | apply below_drew1) | exact HB.out)))); have n1_ := Aside0.mk (below_step (by repeat (first | (with_reducible first | exact HB.out | apply below_alloc | apply pw_below_drewN | apply below_drew1) | exact HB.out)) hb); clear HB; have HO235 := n0_; have HB := n1_; clear n0_ n1_; (try clear hb); (try clear hb2); (try clear hk); (try clear hi); (try clear ho0)))
        go_loopg [6, 7] k (fun kq v6 v7 w' => ∃ (x6_1 : ByteArray) (x7_1 : Int), v6 = .string x6_1 ∧ v7 = .int .i64 x7_1 ∧ Aside0 (withylaw12_ChainParts.l0 kq (a0.extract 0 ((ji3) : Int).toNat) a1 t233 x6_1 x7_1 = some r) ∧ Aside0 (kq ≤ k) ∧ Aside0 (Kd.R Kd.string 9 w' w.heap.size (fun _ => True) v234 t233) ∧ Aside0 (Below w.heap.size w w'))
        case atStart => exact ⟨((⟨#[]⟩ : ByteArray)), (0), (by first | rfl | (simp; done) | (simp [*]; done)), (by first | rfl | (simp; done) | (simp [*]; done)), H', ⟨Nat.le_refl _⟩, ⟨by (with_reducible repeat (first | apply Kd.R_alloc | apply Kd.R_drewN | apply Kd.R_drew)); exact HO235.out⟩, ⟨by repeat (first | (with_reducible first | exact HB.out | apply below_alloc | apply pw_below_drewN | apply below_drew1) | exact HB.out)⟩⟩
        case round =>
          clear H'
          try clear c1
          try clear p2
          try clear c4
          try clear c4b0
          try clear c4b1
          try clear c5
          try clear c5b0
          try clear c5b1
          try clear c7
          obtain ⟨x6_1, x7_1, rfl, rfl, HA, HK1, HO_5, HB⟩ := hrel
          cases gk with
          | zero => exact absurd HA.out (by simp [withylaw12_ChainParts.l0])
          | succ k1 =>
            have H := HA.out
            clear HA
            simp only [withylaw12_ChainParts.l0] at H
            by_cases c10 : x7_1 < (t233.length : Int)
            · rw [if_pos c10] at H
              have c10b0 : decide (x7_1 < (t233.length : Int)) = true := decide_eq_true c10
              clear c10
              by_cases c11 : 0 ≤ x7_1
              · rw [if_pos c11] at H
                have c11b0 : decide (0 ≤ x7_1) = true := decide_eq_true c11
                clear c11
                by_cases c12 : ((rdOf ByteArray.empty t233 x7_1).size : Int) < 1
                · rw [if_pos c12] at H
                  exact absurd H (by simp)
                · rw [if_neg c12] at H
                  have c12b0 : decide (((rdOf ByteArray.empty t233 x7_1).size : Int) < 1) = false := decide_eq_false c12
                  have c12b1 : decide ((rdOf ByteArray.empty t233 x7_1).size < 1) = false := decide_eq_false (by omega)
                  clear c12
                  by_cases c13 : ((rdOf ByteArray.empty t233 x7_1).size : Int) > (wrap64 (a1 - 16))
                  · rw [if_pos c13] at H
                    exact absurd H (by simp)
                  · rw [if_neg c13] at H
                    have c13b0 : decide ((wrap64 (a1 - 16)) < ((rdOf ByteArray.empty t233 x7_1).size : Int)) = false := decide_eq_false c13
                    clear c13
                    by_cases c14 : (wrap64 (x7_1 + 1)) < (t233.length : Int)
                    · rw [if_pos c14] at H
                      have c14b0 : decide ((wrap64 (x7_1 + 1)) < (t233.length : Int)) = true := decide_eq_true c14
                      clear c14
                      by_cases c15 : ((rdOf ByteArray.empty t233 x7_1).size : Int) = (wrap64 (a1 - 16))
                      · rw [if_pos c15] at H
                        have c15b0 : (((rdOf ByteArray.empty t233 x7_1).size : Int) == (wrap64 (a1 - 16))) = true := beq_iff_eq.mpr c15
                        have c15b1 : (((rdOf ByteArray.empty t233 x7_1).size : Int) != (wrap64 (a1 - 16))) = false := bne_eq_false_iff_eq.mpr c15
                        clear c15
                        obtain ⟨ji16, hji16⟩ : ∃ j_ : Int, (mn 1 (wrap64 ((wrap64 ((t233.length : Int) - 1)) - x7_1))) = j_ := ⟨_, rfl⟩
                        replace H : ((chain_May.f 1 (wrap64 (2 * (ji16))) (rdOf ByteArray.empty t233 x7_1) a1).bind fun t240 => (if t240 = true then (if x6_1.size + (rdOf ByteArray.empty t233 x7_1).size ≤ 9223372036854775807 then (withylaw12_ChainParts.l0 k1 (a0.extract 0 ((ji3) : Int).toNat) a1 t233 (x6_1 ++ (rdOf ByteArray.empty t233 x7_1)) (wrap64 (x7_1 + 1))) else (none)) else (none))) = some r := by first | (rw [hji16] at H; exact H) | (simp only [hji16] at H ⊢; exact H)
                        have hji16_ : (if (wrap64 ((wrap64 ((t233.length : Int) - 1)) - x7_1)) < 1 then (wrap64 ((wrap64 ((t233.length : Int) - 1)) - x7_1)) else 1) = ji16 := hji16
                        replace H := Option.bind_eq_some_iff.mp H
                        obtain ⟨t240, A170, H⟩ := H
                        (try simp only [hji3Y] at A170)
                        replace H : (if t240 = true then (if x6_1.size + (rdOf ByteArray.empty t233 x7_1).size ≤ 9223372036854775807 then (withylaw12_ChainParts.l0 k1 (a0.extract 0 ((ji3) : Int).toNat) a1 t233 (x6_1 ++ (rdOf ByteArray.empty t233 x7_1)) (wrap64 (x7_1 + 1))) else (none)) else (none)) = some r := H
                        have A17 := Aside0.mk A170
                        clear A170
                        by_cases c18 : t240 = true
                        · subst c18
                          have H1 : (if x6_1.size + (rdOf ByteArray.empty t233 x7_1).size ≤ 9223372036854775807 then (withylaw12_ChainParts.l0 k1 (a0.extract 0 ((ji3) : Int).toNat) a1 t233 (x6_1 ++ (rdOf ByteArray.empty t233 x7_1)) (wrap64 (x7_1 + 1))) else (none)) = some r := by rw [if_pos rfl] at H; exact H
                          clear H
                          have H := H1
                          clear H1
                          by_cases c19 : x6_1.size + (rdOf ByteArray.empty t233 x7_1).size ≤ 9223372036854775807
                          · rw [if_pos c19] at H
                            have c19b0 := eq_true c19
                            have c19b1 : decide (x6_1.size + (rdOf ByteArray.empty t233 x7_1).size ≤ 9223372036854775807) = true := decide_eq_true c19
                            try have c19b2 : (9223372036854775807 < x6_1.size + (rdOf ByteArray.empty t233 x7_1).size) = False := eq_false (Nat.not_lt.2 c19)
                            have H' := Aside0.mk H
                            clear H
                            obtain ⟨Ao20, co20, eo20⟩ := Kd.R_slice HO_5.out
                            subst eo20
                            have p236 : 0 ≤ (x7_1 : Int) := of_decide_eq_true (by first | (with_reducible assumption) | assumption)
                            have q236 : x7_1 < (t233.length : Int) := of_decide_eq_true (by first | (with_reducible assumption) | assumption)
                            obtain ⟨ad236, e236, hx236_0⟩ := Kd.at_string (Kd.R_reads' HO_5.out).2.2 x7_1 p236 q236
                            cases e236
                            replace p236 := eq_true p236
                            replace q236 := eq_true q236
                            have p237 : 0 ≤ (x7_1 : Int) := of_decide_eq_true (by first | (with_reducible assumption) | assumption)
                            have q237 : x7_1 < (t233.length : Int) := of_decide_eq_true (by first | (with_reducible assumption) | assumption)
                            obtain ⟨ad237, e237, hx237_0⟩ := Kd.at_string (Kd.R_reads' HO_5.out).2.2 x7_1 p237 q237
                            obtain rfl : ad236 = ad237 := (by injection e237)
                            replace p237 := eq_true p237
                            replace q237 := eq_true q237
                            have p238 : 0 ≤ (x7_1 : Int) := of_decide_eq_true (by first | (with_reducible assumption) | assumption)
                            have q238 : x7_1 < (t233.length : Int) := of_decide_eq_true (by first | (with_reducible assumption) | assumption)
                            obtain ⟨ad238, e238, hx238_0⟩ := Kd.at_string (Kd.R_reads' HO_5.out).2.2 x7_1 p238 q238
                            obtain rfl : ad236 = ad238 := (by injection e238)
                            replace p238 := eq_true p238
                            replace q238 := eq_true q238
                            have p239 : 0 ≤ (x7_1 : Int) := of_decide_eq_true (by first | (with_reducible assumption) | assumption)
                            have q239 : x7_1 < (t233.length : Int) := of_decide_eq_true (by first | (with_reducible assumption) | assumption)
                            obtain ⟨ad239, e239, hx239_0⟩ := Kd.at_string (Kd.R_reads' HO_5.out).2.2 x7_1 p239 q239
                            obtain rfl : ad236 = ad239 := (by injection e239)
                            replace p239 := eq_true p239
                            replace q239 := eq_true q239
                            go_wp2_with (first | (go_at_call 10; (with_reducible refine (chain_May.calls 1 (wrap64 (2 * (ji16))) (rdOf ByteArray.empty t233 x7_1) a1 true _ A17.out).mono ?_); rintro e w21 ⟨rfl, hb⟩; have n0_ := Aside0.mk (Kd.R_below (by (with_reducible repeat (first | apply Kd.R_alloc | apply Kd.R_drewN | apply Kd.R_drew)); exact HO_5.out) hb); have n1_ := Aside0.mk (below_step (by repeat (first | (with_reducible first | exact HB.out | apply below_alloc | apply pw_below_drewN | apply below_drew1) | exact HB.out)) hb); clear HO_5; clear HB; have HO_5 := n0_; have HB := n1_; clear n0_ n1_; (try clear hb); (try clear hb2); (try clear hk); (try clear hi); have p241 : 0 ≤ (x7_1 : Int) := of_decide_eq_true (by first | (with_reducible assumption) | assumption); have q241 : x7_1 < (t233.length : Int) := of_decide_eq_true (by first | (with_reducible assumption) | assumption); obtain ⟨ad241, e241, hx241_0⟩ := Kd.at_string (Kd.R_reads' HO_5.out).2.2 x7_1 p241 q241; obtain rfl : ad236 = ad241 := (by injection e241); replace p241 := eq_true p241; replace q241 := eq_true q241))
                            go_roundg k1
                            case measure => have := HK1.out; omega
                            case rel => exact ⟨(x6_1 ++ (rdOf ByteArray.empty t233 x7_1)), (wrap64 (x7_1 + 1)), (by first | rfl | (simp; done) | (simp [*]; done)), (by first | rfl | (simp; done) | (simp [*]; done)), H', ⟨by have := HK1.out; omega⟩, ⟨by (with_reducible repeat (first | apply Kd.R_alloc | apply Kd.R_drewN | apply Kd.R_drew)); exact HO_5.out⟩, ⟨by repeat (first | (with_reducible first | exact HB.out | apply below_alloc | apply pw_below_drewN | apply below_drew1) | exact HB.out)⟩⟩
                          · rw [if_neg c19] at H
                            exact absurd H (by simp)
                        · replace c18 := Bool.eq_false_iff.mpr c18
                          subst c18
                          have H1 : (none) = some r := by rw [if_neg (show ¬ (false = true) by decide)] at H; exact H
                          clear H
                          have H := H1
                          clear H1
                          exact absurd H (by simp)
                      · rw [if_neg c15] at H
                        exact absurd H (by simp)
                    · rw [if_neg c14] at H
                      have c14b0 : decide ((wrap64 (x7_1 + 1)) < (t233.length : Int)) = false := decide_eq_false c14
                      clear c14
                      obtain ⟨ji22, hji22⟩ : ∃ j_ : Int, (mn 1 (wrap64 ((wrap64 ((t233.length : Int) - 1)) - x7_1))) = j_ := ⟨_, rfl⟩
                      replace H : ((chain_May.f 1 (wrap64 (2 * (ji22))) (rdOf ByteArray.empty t233 x7_1) a1).bind fun t243 => (if t243 = true then (if x6_1.size + (rdOf ByteArray.empty t233 x7_1).size ≤ 9223372036854775807 then (withylaw12_ChainParts.l0 k1 (a0.extract 0 ((ji3) : Int).toNat) a1 t233 (x6_1 ++ (rdOf ByteArray.empty t233 x7_1)) (wrap64 (x7_1 + 1))) else (none)) else (none))) = some r := by first | (rw [hji22] at H; exact H) | (simp only [hji22] at H ⊢; exact H)
                      have hji22_ : (if (wrap64 ((wrap64 ((t233.length : Int) - 1)) - x7_1)) < 1 then (wrap64 ((wrap64 ((t233.length : Int) - 1)) - x7_1)) else 1) = ji22 := hji22
                      replace H := Option.bind_eq_some_iff.mp H
                      obtain ⟨t243, A230, H⟩ := H
                      (try simp only [hji3Y] at A230)
                      replace H : (if t243 = true then (if x6_1.size + (rdOf ByteArray.empty t233 x7_1).size ≤ 9223372036854775807 then (withylaw12_ChainParts.l0 k1 (a0.extract 0 ((ji3) : Int).toNat) a1 t233 (x6_1 ++ (rdOf ByteArray.empty t233 x7_1)) (wrap64 (x7_1 + 1))) else (none)) else (none)) = some r := H
                      have A23 := Aside0.mk A230
                      clear A230
                      by_cases c24 : t243 = true
                      · subst c24
                        have H1 : (if x6_1.size + (rdOf ByteArray.empty t233 x7_1).size ≤ 9223372036854775807 then (withylaw12_ChainParts.l0 k1 (a0.extract 0 ((ji3) : Int).toNat) a1 t233 (x6_1 ++ (rdOf ByteArray.empty t233 x7_1)) (wrap64 (x7_1 + 1))) else (none)) = some r := by rw [if_pos rfl] at H; exact H
                        clear H
                        have H := H1
                        clear H1
                        by_cases c25 : x6_1.size + (rdOf ByteArray.empty t233 x7_1).size ≤ 9223372036854775807
                        · rw [if_pos c25] at H
                          have c25b0 := eq_true c25
                          have c25b1 : decide (x6_1.size + (rdOf ByteArray.empty t233 x7_1).size ≤ 9223372036854775807) = true := decide_eq_true c25
                          try have c25b2 : (9223372036854775807 < x6_1.size + (rdOf ByteArray.empty t233 x7_1).size) = False := eq_false (Nat.not_lt.2 c25)
                          have H' := Aside0.mk H
                          clear H
                          obtain ⟨Ao26, co26, eo26⟩ := Kd.R_slice HO_5.out
                          subst eo26
                          have p236 : 0 ≤ (x7_1 : Int) := of_decide_eq_true (by first | (with_reducible assumption) | assumption)
                          have q236 : x7_1 < (t233.length : Int) := of_decide_eq_true (by first | (with_reducible assumption) | assumption)
                          obtain ⟨ad236, e236, hx236_0⟩ := Kd.at_string (Kd.R_reads' HO_5.out).2.2 x7_1 p236 q236
                          cases e236
                          replace p236 := eq_true p236
                          replace q236 := eq_true q236
                          have p237 : 0 ≤ (x7_1 : Int) := of_decide_eq_true (by first | (with_reducible assumption) | assumption)
                          have q237 : x7_1 < (t233.length : Int) := of_decide_eq_true (by first | (with_reducible assumption) | assumption)
                          obtain ⟨ad237, e237, hx237_0⟩ := Kd.at_string (Kd.R_reads' HO_5.out).2.2 x7_1 p237 q237
                          obtain rfl : ad236 = ad237 := (by injection e237)
                          replace p237 := eq_true p237
                          replace q237 := eq_true q237
                          have p242 : 0 ≤ (x7_1 : Int) := of_decide_eq_true (by first | (with_reducible assumption) | assumption)
                          have q242 : x7_1 < (t233.length : Int) := of_decide_eq_true (by first | (with_reducible assumption) | assumption)
                          obtain ⟨ad242, e242, hx242_0⟩ := Kd.at_string (Kd.R_reads' HO_5.out).2.2 x7_1 p242 q242
                          obtain rfl : ad236 = ad242 := (by injection e242)
                          replace p242 := eq_true p242
                          replace q242 := eq_true q242
                          go_wp2_with (first | (go_at_call 10; (with_reducible refine (chain_May.calls 1 (wrap64 (2 * (ji22))) (rdOf ByteArray.empty t233 x7_1) a1 true _ A23.out).mono ?_); rintro e w27 ⟨rfl, hb⟩; have n0_ := Aside0.mk (Kd.R_below (by (with_reducible repeat (first | apply Kd.R_alloc | apply Kd.R_drewN | apply Kd.R_drew)); exact HO_5.out) hb); have n1_ := Aside0.mk (below_step (by repeat (first | (with_reducible first | exact HB.out | apply below_alloc | apply pw_below_drewN | apply below_drew1) | exact HB.out)) hb); clear HO_5; clear HB; have HO_5 := n0_; have HB := n1_; clear n0_ n1_; (try clear hb); (try clear hb2); (try clear hk); (try clear hi); have p244 : 0 ≤ (x7_1 : Int) := of_decide_eq_true (by first | (with_reducible assumption) | assumption); have q244 : x7_1 < (t233.length : Int) := of_decide_eq_true (by first | (with_reducible assumption) | assumption); obtain ⟨ad244, e244, hx244_0⟩ := Kd.at_string (Kd.R_reads' HO_5.out).2.2 x7_1 p244 q244; obtain rfl : ad236 = ad244 := (by injection e244); replace p244 := eq_true p244; replace q244 := eq_true q244))
                          go_roundg k1
                          case measure => have := HK1.out; omega
                          case rel => exact ⟨(x6_1 ++ (rdOf ByteArray.empty t233 x7_1)), (wrap64 (x7_1 + 1)), (by first | rfl | (simp; done) | (simp [*]; done)), (by first | rfl | (simp; done) | (simp [*]; done)), H', ⟨by have := HK1.out; omega⟩, ⟨by (with_reducible repeat (first | apply Kd.R_alloc | apply Kd.R_drewN | apply Kd.R_drew)); exact HO_5.out⟩, ⟨by repeat (first | (with_reducible first | exact HB.out | apply below_alloc | apply pw_below_drewN | apply below_drew1) | exact HB.out)⟩⟩
                        · rw [if_neg c25] at H
                          exact absurd H (by simp)
                      · replace c24 := Bool.eq_false_iff.mpr c24
                        subst c24
                        have H1 : (none) = some r := by rw [if_neg (show ¬ (false = true) by decide)] at H; exact H
                        clear H
                        have H := H1
                        clear H1
                        exact absurd H (by simp)
              · rw [if_neg c11] at H
                exact absurd H (by simp)
            · rw [if_neg c10] at H
              have c10b0 : decide (x7_1 < (t233.length : Int)) = false := decide_eq_false c10
              clear c10
              by_cases c28 : x6_1.toList = (a0.extract 0 ((ji3) : Int).toNat).toList
              · rw [if_pos c28] at H
                have c28b0 : (x6_1.toList == (a0.extract 0 ((ji3) : Int).toNat).toList) = true := beq_iff_eq.mpr c28
                have c28b1 : (x6_1.toList != (a0.extract 0 ((ji3) : Int).toNat).toList) = false := bne_eq_false_iff_eq.mpr c28
                clear c28
                replace H := Option.bind_eq_some_iff.mp H
                obtain ⟨t245, A290, H⟩ := H
                (try simp only [hji3Y] at A290)
                replace H : (if t245 = (t233.length : Int) then ((withylaw12_fixed.f k1).bind fun t246 => (some t246)) else (none)) = some r := H
                have A29 := Aside0.mk A290
                clear A290
                by_cases c30 : t245 = (t233.length : Int)
                · rw [if_pos c30] at H
                  have c30b0 : (t245 == (t233.length : Int)) = true := beq_iff_eq.mpr c30
                  have c30b1 : (t245 != (t233.length : Int)) = false := bne_eq_false_iff_eq.mpr c30
                  clear c30
                  replace H := Option.bind_eq_some_iff.mp H
                  obtain ⟨t246, A310, H⟩ := H
                  (try simp only [hji3Y] at A310)
                  replace H : (some t246) = some r := H
                  have A31 := Aside0.mk A310
                  clear A310
                  obtain rfl := Option.some.inj H
                  obtain ⟨Ao32, co32, eo32⟩ := Kd.R_slice HO_5.out
                  subst eo32
                  go_wp2_with (first | (go_at_call 15; (with_reducible refine (chain_Pages.calls ji3 a1 t245 _ A29.out).mono ?_); rintro e w33 ⟨rfl, hb⟩; have n0_ := Aside0.mk (Kd.R_below (by (with_reducible repeat (first | apply Kd.R_alloc | apply Kd.R_drewN | apply Kd.R_drew)); exact HO_5.out) hb); have n1_ := Aside0.mk (below_step (by repeat (first | (with_reducible first | exact HB.out | apply below_alloc | apply pw_below_drewN | apply below_drew1) | exact HB.out)) hb); clear HO_5; clear HB; have HO_5 := n0_; have HB := n1_; clear n0_ n1_; (try clear hb); (try clear hb2); (try clear hk); (try clear hi)) | (go_at_call 12; (with_reducible refine (withylaw12_fixed.calls k1  t246 _ A31.out).mono ?_); rintro e w34 ⟨rfl, hb⟩; have n0_ := Aside0.mk (Kd.R_below (by (with_reducible repeat (first | apply Kd.R_alloc | apply Kd.R_drewN | apply Kd.R_drew)); exact HO_5.out) hb); have n1_ := Aside0.mk (below_step (by repeat (first | (with_reducible first | exact HB.out | apply below_alloc | apply pw_below_drewN | apply below_drew1) | exact HB.out)) hb); clear HO_5; clear HB; have HO_5 := n0_; have HB := n1_; clear n0_ n1_; (try clear hb); (try clear hb2); (try clear hk); (try clear hi)))
                  go_ret
                  exact ⟨by first | rfl | (simp [errW_none, errW_some] <;> rfl) | (simp only [← hji3]; first | rfl | (simp [errW_none, errW_some] <;> rfl)) | (simp [*, errW_none, errW_some] <;> rfl), by repeat (first | (with_reducible first | exact HB.out | apply below_alloc | apply pw_below_drewN | apply below_drew1) | exact HB.out)⟩
                · rw [if_neg c30] at H
                  exact absurd H (by simp)
              · rw [if_neg c28] at H
                exact absurd H (by simp)
      · replace c7 := Bool.eq_false_iff.mpr c7
        subst c7
        have H1 : ((chain_May.f 1 0 (⟨#[120]⟩ : ByteArray) a1).bind fun t231 => (if t231 = true then (none) else ((withylaw12_fixed.f k).bind fun t232 => (some t232)))) = some r := by rw [if_neg (show ¬ (false = true) by decide)] at H; exact H
        clear H
        have H := H1
        clear H1
        replace H := Option.bind_eq_some_iff.mp H
        obtain ⟨t231, A350, H⟩ := H
        (try simp only [hji3Y] at A350)
        replace H : (if t231 = true then (none) else ((withylaw12_fixed.f k).bind fun t232 => (some t232))) = some r := H
        have A35 := Aside0.mk A350
        clear A350
        by_cases c36 : t231 = true
        · subst c36
          have H1 : (none) = some r := by rw [if_pos rfl] at H; exact H
          clear H
          have H := H1
          clear H1
          exact absurd H (by simp)
        · replace c36 := Bool.eq_false_iff.mpr c36
          subst c36
          have H1 : ((withylaw12_fixed.f k).bind fun t232 => (some t232)) = some r := by rw [if_neg (show ¬ (false = true) by decide)] at H; exact H
          clear H
          have H := H1
          clear H1
          replace H := Option.bind_eq_some_iff.mp H
          obtain ⟨t232, A370, H⟩ := H
          replace H : (some t232) = some r := H
          have A37 := Aside0.mk A370
          clear A370
          obtain rfl := Option.some.inj H
          go_enter Tryd.func4, Tryd.ntmps4
          go_wp2_with (first | ((with_reducible refine gate_callee (f := 13) rfl ?_); refine goesL_ (some 14) rfl rfl Tryd.func13 (by kernel_rfl) rfl #[.int .i64 a1] rfl (by (try simp only [List.map_toArray, List.map_cons, List.map_nil]); first | done | rfl | (simp only [List.length_drop, List.length_take]; rfl)) ?_; (with_reducible refine (withyref06_Size.calls a1 false _ A6.out).mono ?_); rintro e w' ⟨rfl, ⟨nd, rfl⟩⟩; refine ⟨_, rfl, ?_⟩) | ((with_reducible refine gate_callee (f := 10) rfl ?_); refine goesL_ (some 18) rfl rfl Tryd.func10 (by kernel_rfl) rfl #[.agg #[.int .i64 1, .int .i64 0, .string (⟨#[120]⟩ : ByteArray)], .int .i64 a1] rfl (by (try simp only [List.map_toArray, List.map_cons, List.map_nil]); first | done | rfl | (simp only [List.length_drop, List.length_take]; rfl)) ?_; (with_reducible refine (chain_May.calls 1 0 (⟨#[120]⟩ : ByteArray) a1 false _ A35.out).mono ?_); rintro e w38 ⟨rfl, hb⟩; refine ⟨_, rfl, ?_⟩; have n0_ := Aside0.mk (below_step (by repeat (first | (with_reducible first | exact HB.out | apply below_alloc | apply pw_below_drewN | apply below_drew1) | exact HB.out)) hb); clear HB; have HB := n0_; clear n0_; (try clear hb); (try clear hb2); (try clear hk); (try clear hi)) | (go_at_call 12; (with_reducible refine (withylaw12_fixed.calls k  t232 _ A37.out).mono ?_); rintro e w39 ⟨rfl, hb⟩; have n0_ := Aside0.mk (below_step (by repeat (first | (with_reducible first | exact HB.out | apply below_alloc | apply pw_below_drewN | apply below_drew1) | exact HB.out)) hb); clear HB; have HB := n0_; clear n0_; (try clear hb); (try clear hb2); (try clear hk); (try clear hi)))
          go_ret
          exact ⟨by first | rfl | (simp [errW_none, errW_some] <;> rfl) | (simp only [← hji3]; first | rfl | (simp [errW_none, errW_some] <;> rfl)) | (simp [*, errW_none, errW_some] <;> rfl), by repeat (first | (with_reducible first | exact HB.out | apply below_alloc | apply pw_below_drewN | apply below_drew1) | exact HB.out)⟩
    · rw [if_neg c5] at H
      exact absurd H (by simp)
  · rw [if_neg c4] at H
    exact absurd H (by simp)

end Go.Proofs.YtlagllfbomaehaaDoor.A
