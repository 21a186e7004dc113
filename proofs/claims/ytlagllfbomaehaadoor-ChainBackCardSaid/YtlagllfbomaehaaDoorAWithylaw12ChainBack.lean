-- Written by this session's drive.py: the print's program with contracts by hand among the functions. Not trusted: Lean checks it.
import Derived.Test.YtlagllfbomaehaaDoorAx0
import Derived.Test.YtlagllfbomaehaaDoorAEqA23
import Derived.Test.YtlagllfbomaehaaDoorAWithylaw12Cut
import Derived.Test.YtlagllfbomaehaaDoorAChainMay
import Derived.Test.YtlagllfbomaehaaDoorAChainEncode
import Derived.Test.YtlagllfbomaehaaDoorAChainDecode
import Derived.Test.YtlagllfbomaehaaDoorAWithylaw12fixed
namespace Go.Proofs.YtlagllfbomaehaaDoor.A
open Go.RowKit Go.Proofs.YtlagllfbomaehaaDoorW.PrintWords Go.Proofs.YtlagllfbomaehaaDoorW.PrintLast Go.Proofs.YtlagllfbomaehaaDoorW.PrintMore
attribute [local go_sem] max2_int min2_int max_two min_two max_three min_three max_four min_four   -- for this text's walks alone
attribute [local go_sem] Go.Proofs.YtlagllfbomaehaaDoor.Own.gtr_string Go.Proofs.YtlagllfbomaehaaDoor.Own.leq_string Go.Proofs.YtlagllfbomaehaaDoor.Own.geq_string Go.Proofs.YtlagllfbomaehaaDoor.Own.ba_get
set_option linter.unusedVariables false
set_option linter.unusedSimpArgs false

attribute [local go_sem high] eqA23
/-! ### withylaw12_ChainBack: function 3 -/
def withylaw12_ChainBack.j0 : Nat → ByteArray → Option (Bool)
  | 0, _ => none
  | k + 1, x2 => (chain_Decode.f k x2).bind fun bt221 => (if bt221.2.2.2 = 0 then ((chain_Encode.f k bt221.1 bt221.2.1 bt221.2.2.1 (x2.size : Int)).bind fun bt226 => (if bt226.2 = 0 then (if bt226.1.toList = x2.toList then ((withylaw12_fixed.f k).bind fun t228 => (some t228)) else (none)) else (none))) else (if bt221.2.2.2 = 3 then (if (bt221.1 == 0 && (bt221.2.1 == 0 && (bt221.2.2.1.toList == ([] : List UInt8)))) = true then ((withylaw12_fixed.f k).bind fun t229 => (some t229)) else (none)) else (none)))
def withylaw12_ChainBack.f (k : Nat) (a0_0 : Int) (a0_1 : Int) (a0_2 : ByteArray) (a1 : Int) (a2 : ByteArray) : Option (Bool) := (withylaw12_Cut.f a0_0 a0_1 a0_2).bind fun bt210 => (if 0 ≤ (mn (a2.size : Int) 1100) then (if (mn (a2.size : Int) 1100) ≤ (a2.size : Int) then ((chain_Encode.f k bt210.1 bt210.2.1 bt210.2.2 a1).bind fun bt213 => ((chain_May.f bt210.1 bt210.2.1 bt210.2.2 a1).bind fun t215 => (if ((bt213.2 == 0) != t215) = true then (none) else (if bt213.2 = 0 then ((chain_Decode.f k bt213.1).bind fun bt216 => (if bt216.2.2.2 = 0 then (if (!(bt216.1 == bt210.1) || (!(bt216.2.1 == bt210.2.1) || (!(bt216.2.2.1.toList == bt210.2.2.toList)))) = true then (none) else (if (bt213.1.size : Int) = a1 then (withylaw12_ChainBack.j0 k (a2.extract 0 ((mn (a2.size : Int) 1100) : Int).toNat)) else (none))) else (none))) else (withylaw12_ChainBack.j0 k (a2.extract 0 ((mn (a2.size : Int) 1100) : Int).toNat)))))) else (none)) else (none))
theorem withylaw12_ChainBack.mono_l : ∀ k, (∀ y0, LeO (withylaw12_ChainBack.j0 k y0) (withylaw12_ChainBack.j0 (k + 1) y0))
  | 0 => fun _ r h => by simp [withylaw12_ChainBack.j0] at h
  | k + 1 => by
    have ih0 := withylaw12_ChainBack.mono_l k
    · intro y0
      unfold withylaw12_ChainBack.j0
      repeat' first
      | (with_reducible exact ih0 _)
      | (with_reducible exact chain_Decode.mono _ _)
      | (with_reducible exact chain_Encode.mono _ _ _ _ _)
      | (with_reducible exact withylaw12_fixed.mono _)
      | (with_reducible exact LeO.refl _)
      | (with_reducible exact LeO.none _)
      | (with_reducible refine LeO.ite ?_ ?_)
      | (with_reducible refine LeO.bind ?_ (fun _ => ?_))
      | exact ih0 _
      | exact chain_Decode.mono _ _
      | exact chain_Encode.mono _ _ _ _ _
      | exact withylaw12_fixed.mono _
      | exact LeO.none _
      | refine LeO.ite ?_ ?_
      | refine LeO.bind ?_ (fun _ => ?_)
theorem withylaw12_ChainBack.mono : ∀ a0 a1 a2 a3 a4 k, LeO (withylaw12_ChainBack.f k a0 a1 a2 a3 a4) (withylaw12_ChainBack.f (k + 1) a0 a1 a2 a3 a4) := by
  intro a0 a1 a2 a3 a4 k
  have ih0 := withylaw12_ChainBack.mono_l k
  unfold withylaw12_ChainBack.f
  repeat' first
      | (with_reducible exact ih0 _)
      | (with_reducible exact chain_Decode.mono _ _)
      | (with_reducible exact chain_Encode.mono _ _ _ _ _)
      | (with_reducible exact withylaw12_fixed.mono _)
      | (with_reducible exact LeO.refl _)
      | (with_reducible exact LeO.none _)
      | (with_reducible refine LeO.ite ?_ ?_)
      | (with_reducible refine LeO.bind ?_ (fun _ => ?_))
      | exact ih0 _
      | exact chain_Decode.mono _ _
      | exact chain_Encode.mono _ _ _ _ _
      | exact withylaw12_fixed.mono _
      | exact LeO.none _
      | refine LeO.ite ?_ ?_
      | refine LeO.bind ?_ (fun _ => ?_)
set_option maxHeartbeats 8000000 in
set_option maxRecDepth 100000 in
theorem withylaw12_ChainBack.calls (k : Nat) (a0_0 : Int) (a0_1 : Int) (a0_2 : ByteArray) (a1 : Int) (a2 : ByteArray) (r : Bool) (w : World) (h : withylaw12_ChainBack.f k a0_0 a0_1 a0_2 a1 a2 = some r) :
    Calls Tryd.prog 3 #[.agg #[.int .i64 a0_0, .int .i64 a0_1, .string a0_2], .int .i64 a1, .string a2] w fun e w' => e = .returned (.bool r) ∧ Below w.heap.size w w' := by
  have hu23 := Tryd.underlying23
  have HB := Aside0.mk (Below.refl w.heap.size w)
  have H : ((withylaw12_Cut.f a0_0 a0_1 a0_2).bind fun bt210 => (if 0 ≤ (mn (a2.size : Int) 1100) then (if (mn (a2.size : Int) 1100) ≤ (a2.size : Int) then ((chain_Encode.f k bt210.1 bt210.2.1 bt210.2.2 a1).bind fun bt213 => ((chain_May.f bt210.1 bt210.2.1 bt210.2.2 a1).bind fun t215 => (if ((bt213.2 == 0) != t215) = true then (none) else (if bt213.2 = 0 then ((chain_Decode.f k bt213.1).bind fun bt216 => (if bt216.2.2.2 = 0 then (if (!(bt216.1 == bt210.1) || (!(bt216.2.1 == bt210.2.1) || (!(bt216.2.2.1.toList == bt210.2.2.toList)))) = true then (none) else (if (bt213.1.size : Int) = a1 then (withylaw12_ChainBack.j0 k (a2.extract 0 ((mn (a2.size : Int) 1100) : Int).toNat)) else (none))) else (none))) else (withylaw12_ChainBack.j0 k (a2.extract 0 ((mn (a2.size : Int) 1100) : Int).toNat)))))) else (none)) else (none))) = some r := h
  clear h
  replace H := Option.bind_eq_some_iff.mp H
  obtain ⟨⟨t210, t211, t212⟩, A40, H⟩ := H
  replace H : (if 0 ≤ (mn (a2.size : Int) 1100) then (if (mn (a2.size : Int) 1100) ≤ (a2.size : Int) then ((chain_Encode.f k t210 t211 t212 a1).bind fun bt213 => ((chain_May.f t210 t211 t212 a1).bind fun t215 => (if ((bt213.2 == 0) != t215) = true then (none) else (if bt213.2 = 0 then ((chain_Decode.f k bt213.1).bind fun bt216 => (if bt216.2.2.2 = 0 then (if (!(bt216.1 == t210) || (!(bt216.2.1 == t211) || (!(bt216.2.2.1.toList == t212.toList)))) = true then (none) else (if (bt213.1.size : Int) = a1 then (withylaw12_ChainBack.j0 k (a2.extract 0 ((mn (a2.size : Int) 1100) : Int).toNat)) else (none))) else (none))) else (withylaw12_ChainBack.j0 k (a2.extract 0 ((mn (a2.size : Int) 1100) : Int).toNat)))))) else (none)) else (none)) = some r := H
  have A4 := Aside0.mk A40
  clear A40
  obtain ⟨ji5, hji5⟩ : ∃ j_ : Int, (mn (a2.size : Int) 1100) = j_ := ⟨_, rfl⟩
  replace H : (if 0 ≤ (ji5) then (if (ji5) ≤ (a2.size : Int) then ((chain_Encode.f k t210 t211 t212 a1).bind fun bt213 => ((chain_May.f t210 t211 t212 a1).bind fun t215 => (if ((bt213.2 == 0) != t215) = true then (none) else (if bt213.2 = 0 then ((chain_Decode.f k bt213.1).bind fun bt216 => (if bt216.2.2.2 = 0 then (if (!(bt216.1 == t210) || (!(bt216.2.1 == t211) || (!(bt216.2.2.1.toList == t212.toList)))) = true then (none) else (if (bt213.1.size : Int) = a1 then (withylaw12_ChainBack.j0 k (a2.extract 0 ((ji5) : Int).toNat)) else (none))) else (none))) else (withylaw12_ChainBack.j0 k (a2.extract 0 ((ji5) : Int).toNat)))))) else (none)) else (none)) = some r := by first | (rw [hji5] at H; exact H) | (simp only [hji5] at H ⊢; exact H)
  (try rw [hji5] at A4)
  (try (have hji5h : ji5 ≤ 1100 := by (rw [← hji5]; unfold mn; (repeat' split) <;> omega)))
  (try (have hji5g : ji5 ≤ 64 := by omega))
  (try (have hji5l : 0 ≤ ji5 := by (rw [← hji5]; unfold mn; (repeat' split) <;> omega)))
  (try (have hji5m : 0 ≤ ji5 := by omega))
  have hji5W : 0 ≤ ji5 ∧ ji5 ≤ (a2.size : Int) := by rw [← hji5]; unfold mn; split <;> omega
  have hji5Y : ((a2.extract 0 ((ji5) : Int).toNat).size : Int) = ji5 := by rw [ByteArray.size_extract]; omega
  have hji5V : (((ji5) : Int).toNat : Int) = ji5 := by omega
  have hji5U : min ((ji5) : Int).toNat a2.size = ((ji5) : Int).toNat := by omega
  have hji5T : max ji5 0 = ji5 := by omega
  have hji5S : min ji5 (a2.size : Int) = ji5 := by omega
  have hji5_ : (if 1100 < (a2.size : Int) then 1100 else (a2.size : Int)) = ji5 := hji5
  by_cases c6 : 0 ≤ (ji5)
  · rw [if_pos c6] at H
    have c6b0 := eq_true c6
    have c6b1 : decide (0 ≤ (ji5)) = true := decide_eq_true c6
    clear c6
    by_cases c7 : (ji5) ≤ (a2.size : Int)
    · rw [if_pos c7] at H
      have c7b0 := eq_true c7
      have c7b1 : decide ((ji5) ≤ (a2.size : Int)) = true := decide_eq_true c7
      clear c7
      replace H := Option.bind_eq_some_iff.mp H
      obtain ⟨⟨t213, t214⟩, A80, H⟩ := H
      (try simp only [hji5Y] at A80)
      replace H : ((chain_May.f t210 t211 t212 a1).bind fun t215 => (if ((t214 == 0) != t215) = true then (none) else (if t214 = 0 then ((chain_Decode.f k t213).bind fun bt216 => (if bt216.2.2.2 = 0 then (if (!(bt216.1 == t210) || (!(bt216.2.1 == t211) || (!(bt216.2.2.1.toList == t212.toList)))) = true then (none) else (if (t213.size : Int) = a1 then (withylaw12_ChainBack.j0 k (a2.extract 0 ((ji5) : Int).toNat)) else (none))) else (none))) else (withylaw12_ChainBack.j0 k (a2.extract 0 ((ji5) : Int).toNat))))) = some r := H
      have A8 := Aside0.mk A80
      clear A80
      replace H := Option.bind_eq_some_iff.mp H
      obtain ⟨t215, A90, H⟩ := H
      (try simp only [hji5Y] at A90)
      replace H : (if ((t214 == 0) != t215) = true then (none) else (if t214 = 0 then ((chain_Decode.f k t213).bind fun bt216 => (if bt216.2.2.2 = 0 then (if (!(bt216.1 == t210) || (!(bt216.2.1 == t211) || (!(bt216.2.2.1.toList == t212.toList)))) = true then (none) else (if (t213.size : Int) = a1 then (withylaw12_ChainBack.j0 k (a2.extract 0 ((ji5) : Int).toNat)) else (none))) else (none))) else (withylaw12_ChainBack.j0 k (a2.extract 0 ((ji5) : Int).toNat)))) = some r := H
      have A9 := Aside0.mk A90
      clear A90
      by_cases c10 : ((t214 == 0) != t215) = true
      · rw [if_pos c10] at H
        exact absurd H (by simp)
      · rw [if_neg c10] at H
        have c10b0 : ((t214 == 0) != t215) = false := by simpa using c10
        (try (have c10b1 : decide ((t214 == 0) = t215) = true := by simpa using c10))
        (try (have c10b2 : ((t214 == 0) == t215) = true := by simpa using c10))
        clear c10
        have HC11 := Aside0.mk H
        clear H
        go_enter Tryd.func3, Tryd.ntmps3
        go_upto_if 35 with (first | ((with_reducible refine gate_dst (N := 3) rfl ?_); (try (refine gate_guard (by rfl) ?_; dsimp only)); refine box_event ?hg (N := 3) ?hd (cs := #[.int .i64 a0_0, .int .i64 a0_1, .string a0_2]) (t := 23) ?hr ?_; (case hd => rfl); (case hg => rfl); (case hr => first | (go_simp; done) | (go_simp; rfl)); intro gb209 hg w12 hbox hb; have n0_ := Aside0.mk (below_step (by repeat (first | (with_reducible first | exact HB.out | apply below_alloc | apply pw_below_drewN | apply below_drew1) | exact HB.out)) hb); have n1_ := Aside0.mk (hbox); have n2_ := Aside0.mk ((by rw [hg]; exact (below_size (by repeat (first | (with_reducible first | exact HB.out | apply below_alloc | apply pw_below_drewN | apply below_drew1) | exact HB.out))) : w.heap.size ≤ gb209)); have n3_ := Aside0.mk ((by rw [hg]; exact (below_size (by repeat (first | (with_reducible first | exact HB.out | apply below_alloc | apply pw_below_drewN | apply below_drew1) | exact HB.out))) : w.heap.size ≤ gb209)); clear HB; have HB := n0_; have BK209 := n1_; have GW209 := n2_; have GE209 := n3_; clear n0_ n1_ n2_ n3_; clear hb hbox hg; have hcz13_0 : w12.cell? ⟨gb209, 0, none⟩ = some (.int .i64 a0_0) := (blk_cell BK209.out 0).trans rfl; have hcz13_1 : w12.cell? ⟨gb209, 1, none⟩ = some (.int .i64 a0_1) := (blk_cell BK209.out 1).trans rfl; have hcz13_2 : w12.cell? ⟨gb209, 2, none⟩ = some (.string a0_2) := (blk_cell BK209.out 2).trans rfl; have hfz13_0 := blk_frozen BK209.out 0; have hfz13_1 := blk_frozen BK209.out 1; have hfz13_2 := blk_frozen BK209.out 2) | ((with_reducible refine gate_callee (f := 8) rfl ?_); refine goesL_ (some 16) rfl rfl Tryd.func8 (by kernel_rfl) rfl #[.agg #[.int .i64 a0_0, .int .i64 a0_1, .string a0_2]] rfl (by (try simp only [List.map_toArray, List.map_cons, List.map_nil]); first | done | rfl | (simp only [List.length_drop, List.length_take]; rfl)) ?_; (with_reducible refine (withylaw12_Cut.calls a0_0 a0_1 a0_2 t210 t211 t212 _ A4.out).mono ?_); rintro e w14 ⟨rfl, hb⟩; refine ⟨_, rfl, ?_⟩; have n0_ := Aside0.mk (blk_below (g := gb209) (o := .cells #[.int .i64 a0_0, .int .i64 a0_1, .string a0_2] 23 (0, 0)) (by (with_reducible repeat (first | refine blk_drewN ?_ _ | refine blk_drew ?_ | refine blk_alloc ?_ _)); exact BK209.out) hb); have n1_ := Aside0.mk (below_step (by repeat (first | (with_reducible first | exact HB.out | apply below_alloc | apply pw_below_drewN | apply below_drew1 | refine below_set ?_ GE209.out) | exact HB.out)) hb); clear BK209; clear HB; have BK209 := n0_; have HB := n1_; clear n0_ n1_; (try clear hb); (try clear hb2); (try clear hk); (try clear hi); have hcz15_0 : w14.cell? ⟨gb209, 0, none⟩ = some (.int .i64 a0_0) := (blk_cell BK209.out 0).trans rfl; have hcz15_1 : w14.cell? ⟨gb209, 1, none⟩ = some (.int .i64 a0_1) := (blk_cell BK209.out 1).trans rfl; have hcz15_2 : w14.cell? ⟨gb209, 2, none⟩ = some (.string a0_2) := (blk_cell BK209.out 2).trans rfl; have hfz15_0 := blk_frozen BK209.out 0; have hfz15_1 := blk_frozen BK209.out 1; have hfz15_2 := blk_frozen BK209.out 2) | ((with_reducible refine gate_callee (f := 9) rfl ?_); refine goesL_ (some 25) rfl rfl Tryd.func9 (by kernel_rfl) rfl #[.agg #[.int .i64 t210, .int .i64 t211, .string t212], .int .i64 a1] rfl (by (try simp only [List.map_toArray, List.map_cons, List.map_nil]); first | done | rfl | (simp only [List.length_drop, List.length_take]; rfl)) ?_; (with_reducible refine (chain_Encode.calls k t210 t211 t212 a1 t213 t214 _ A8.out).mono ?_); rintro e w16 ⟨rfl, hb⟩; refine ⟨_, rfl, ?_⟩; have n0_ := Aside0.mk (blk_below (g := gb209) (o := .cells #[.int .i64 t210, .int .i64 t211, .string t212] 23 (0, 0)) (by (with_reducible repeat (first | refine blk_drewN ?_ _ | refine blk_drew ?_ | refine blk_alloc ?_ _)); refine blk_put (cs := #[.int .i64 t210, .int .i64 t211, .string a0_2]) ?_ 2 _ rfl; (with_reducible repeat (first | refine blk_drewN ?_ _ | refine blk_drew ?_ | refine blk_alloc ?_ _)); refine blk_put (cs := #[.int .i64 t210, .int .i64 a0_1, .string a0_2]) ?_ 1 _ rfl; (with_reducible repeat (first | refine blk_drewN ?_ _ | refine blk_drew ?_ | refine blk_alloc ?_ _)); refine blk_put (cs := #[.int .i64 a0_0, .int .i64 a0_1, .string a0_2]) ?_ 0 _ rfl; (with_reducible repeat (first | refine blk_drewN ?_ _ | refine blk_drew ?_ | refine blk_alloc ?_ _)); exact BK209.out) hb); have n1_ := Aside0.mk (below_step (by repeat (first | (with_reducible first | exact HB.out | apply below_alloc | apply pw_below_drewN | apply below_drew1 | refine below_set ?_ GE209.out) | exact HB.out)) hb); clear BK209; clear HB; have BK209 := n0_; have HB := n1_; clear n0_ n1_; (try clear hb); (try clear hb2); (try clear hk); (try clear hi); have hcz17_0 : w16.cell? ⟨gb209, 0, none⟩ = some (.int .i64 t210) := (blk_cell BK209.out 0).trans rfl; have hcz17_1 : w16.cell? ⟨gb209, 1, none⟩ = some (.int .i64 t211) := (blk_cell BK209.out 1).trans rfl; have hcz17_2 : w16.cell? ⟨gb209, 2, none⟩ = some (.string t212) := (blk_cell BK209.out 2).trans rfl; have hfz17_0 := blk_frozen BK209.out 0; have hfz17_1 := blk_frozen BK209.out 1; have hfz17_2 := blk_frozen BK209.out 2) | ((with_reducible refine gate_callee (f := 10) rfl ?_); refine goesL_ (some 32) rfl rfl Tryd.func10 (by kernel_rfl) rfl #[.agg #[.int .i64 t210, .int .i64 t211, .string t212], .int .i64 a1] rfl (by (try simp only [List.map_toArray, List.map_cons, List.map_nil]); first | done | rfl | (simp only [List.length_drop, List.length_take]; rfl)) ?_; (with_reducible refine (chain_May.calls t210 t211 t212 a1 t215 _ A9.out).mono ?_); rintro e w18 ⟨rfl, hb⟩; refine ⟨_, rfl, ?_⟩; have n0_ := Aside0.mk (blk_below (g := gb209) (o := .cells #[.int .i64 t210, .int .i64 t211, .string t212] 23 (0, 0)) (by (with_reducible repeat (first | refine blk_drewN ?_ _ | refine blk_drew ?_ | refine blk_alloc ?_ _)); exact BK209.out) hb); have n1_ := Aside0.mk (below_step (by repeat (first | (with_reducible first | exact HB.out | apply below_alloc | apply pw_below_drewN | apply below_drew1 | refine below_set ?_ GE209.out) | exact HB.out)) hb); clear BK209; clear HB; have BK209 := n0_; have HB := n1_; clear n0_ n1_; (try clear hb); (try clear hb2); (try clear hk); (try clear hi)))
        (try simp only [Act.put, List.setIfInBounds_toArray, List.set_cons_zero, List.set_cons_succ])
        go_cut [] (fun wc => ∃ (kq : Nat), Aside0 (withylaw12_ChainBack.j0 kq (a2.extract 0 ((ji5) : Int).toNat) = some r) ∧ Aside0 (kq ≤ k) ∧ Aside0 (wc.heap[gb209]? = some (.cells #[.int .i64 t210, .int .i64 t211, .string t212] 23 (0, 0))) ∧ Aside0 (Below w.heap.size w wc))
        case first =>
          have H := HC11.out
          clear HC11
          by_cases c19 : t214 = 0
          · rw [if_pos c19] at H
            have c19b0 : (t214 == 0) = true := beq_iff_eq.mpr c19
            have c19b1 : (t214 != 0) = false := bne_eq_false_iff_eq.mpr c19
            clear c19
            (first | rw [c19b0] | (simp only [i64_w, i32_w]; rw [c19b0]) | skip)
            replace H := Option.bind_eq_some_iff.mp H
            obtain ⟨⟨t216, t217, t218, t219⟩, A200, H⟩ := H
            (try simp only [hji5Y] at A200)
            replace H : (if t219 = 0 then (if (!(t216 == t210) || (!(t217 == t211) || (!(t218.toList == t212.toList)))) = true then (none) else (if (t213.size : Int) = a1 then (withylaw12_ChainBack.j0 k (a2.extract 0 ((ji5) : Int).toNat)) else (none))) else (none)) = some r := H
            have A20 := Aside0.mk A200
            clear A200
            by_cases c21 : t219 = 0
            · rw [if_pos c21] at H
              have c21b0 : (t219 == 0) = true := beq_iff_eq.mpr c21
              have c21b1 : (t219 != 0) = false := bne_eq_false_iff_eq.mpr c21
              clear c21
              by_cases c22 : (!(t216 == t210) || (!(t217 == t211) || (!(t218.toList == t212.toList)))) = true
              · rw [if_pos c22] at H
                exact absurd H (by simp)
              · rw [if_neg c22] at H
                have c22b0 : (!(t216 == t210) || (!(t217 == t211) || (!(t218.toList == t212.toList)))) = false := by simpa using c22
                clear c22
                by_cases c23 : (t213.size : Int) = a1
                · rw [if_pos c23] at H
                  have c23b0 : ((t213.size : Int) == a1) = true := beq_iff_eq.mpr c23
                  have c23b1 : ((t213.size : Int) != a1) = false := bne_eq_false_iff_eq.mpr c23
                  clear c23
                  have H' := Aside0.mk H
                  clear H
                  go_wp2_with (first | ((with_reducible refine gate_callee (f := 11) rfl ?_); refine goesL_ (some 38) rfl rfl Tryd.func11 (by kernel_rfl) rfl #[.string t213] rfl (by (try simp only [List.map_toArray, List.map_cons, List.map_nil]); first | done | rfl | (simp only [List.length_drop, List.length_take]; rfl)) ?_; (with_reducible refine (chain_Decode.calls k t213 t216 t217 t218 t219 _ A20.out).mono ?_); rintro e w24 ⟨rfl, hb⟩; refine ⟨_, rfl, ?_⟩; have n0_ := Aside0.mk (blk_below (g := gb209) (o := .cells #[.int .i64 t210, .int .i64 t211, .string t212] 23 (0, 0)) (by (with_reducible repeat (first | refine blk_drewN ?_ _ | refine blk_drew ?_ | refine blk_alloc ?_ _)); exact BK209.out) hb); have n1_ := Aside0.mk (below_step (by repeat (first | (with_reducible first | exact HB.out | apply below_alloc | apply pw_below_drewN | apply below_drew1 | refine below_set ?_ GE209.out) | exact HB.out)) hb); clear BK209; clear HB; have BK209 := n0_; have HB := n1_; clear n0_ n1_; (try clear hb); (try clear hb2); (try clear hk); (try clear hi)) | ((with_reducible refine gate_dst (N := 9) rfl ?_); (try (refine gate_guard (by rfl) ?_; dsimp only)); refine box_event ?hg (N := 9) ?hd (cs := #[.int .i64 0, .int .i64 0, .string (⟨#[]⟩ : ByteArray)]) (t := 23) ?hr ?_; (case hd => rfl); (case hg => rfl); (case hr => first | (go_simp; done) | (go_simp; rfl)); intro gb220 hg w25 hbox hb; have n0_ := Aside0.mk (blk_below (g := gb209) (o := .cells #[.int .i64 t210, .int .i64 t211, .string t212] 23 (0, 0)) (by (with_reducible repeat (first | refine blk_drewN ?_ _ | refine blk_drew ?_ | refine blk_alloc ?_ _)); exact BK209.out) hb); have n1_ := Aside0.mk (below_step (by repeat (first | (with_reducible first | exact HB.out | apply below_alloc | apply pw_below_drewN | apply below_drew1 | refine below_set ?_ GE209.out) | exact HB.out)) hb); have n2_ := Aside0.mk (hbox); have n3_ := Aside0.mk ((by rw [hg]; exact (below_size (by repeat (first | (with_reducible first | exact HB.out | apply below_alloc | apply pw_below_drewN | apply below_drew1 | refine below_set ?_ GE209.out) | exact HB.out))) : w.heap.size ≤ gb220)); have n4_ := Aside0.mk ((by rw [hg]; exact (below_size (by repeat (first | (with_reducible first | exact HB.out | apply below_alloc | apply pw_below_drewN | apply below_drew1 | refine below_set ?_ GE209.out) | exact HB.out))) : w.heap.size ≤ gb220)); have n5_ := Aside0.mk ((by rw [hg]; exact Nat.ne_of_lt (blk_lt (g := gb209) (o := .cells #[.int .i64 t210, .int .i64 t211, .string t212] 23 (0, 0)) (by (with_reducible repeat (first | refine blk_drewN ?_ _ | refine blk_drew ?_ | refine blk_alloc ?_ _)); exact BK209.out)) : gb209 ≠ gb220)); have n6_ := Aside0.mk ((by rw [hg]; exact Nat.ne_of_gt (blk_lt (g := gb209) (o := .cells #[.int .i64 t210, .int .i64 t211, .string t212] 23 (0, 0)) (by (with_reducible repeat (first | refine blk_drewN ?_ _ | refine blk_drew ?_ | refine blk_alloc ?_ _)); exact BK209.out)) : gb220 ≠ gb209)); clear BK209; clear HB; have BK209 := n0_; have HB := n1_; have BK220 := n2_; have GW220 := n3_; have GE220 := n4_; have NB209_220 := n5_; have NB220_209 := n6_; clear n0_ n1_ n2_ n3_ n4_ n5_ n6_; clear hb hbox hg; have hnb26 := NB220_209.out; have hnc26 := NB209_220.out; have hcz27_0 : w25.cell? ⟨gb220, 0, none⟩ = some (.int .i64 0) := (blk_cell BK220.out 0).trans rfl; have hcz27_1 : w25.cell? ⟨gb220, 1, none⟩ = some (.int .i64 0) := (blk_cell BK220.out 1).trans rfl; have hcz27_2 : w25.cell? ⟨gb220, 2, none⟩ = some (.string (⟨#[]⟩ : ByteArray)) := (blk_cell BK220.out 2).trans rfl; have hfz27_0 := blk_frozen BK220.out 0; have hfz27_1 := blk_frozen BK220.out 1; have hfz27_2 := blk_frozen BK220.out 2; have hcz28_0 : w25.cell? ⟨gb209, 0, none⟩ = some (.int .i64 t210) := (blk_cell BK209.out 0).trans rfl; have hcz28_1 : w25.cell? ⟨gb209, 1, none⟩ = some (.int .i64 t211) := (blk_cell BK209.out 1).trans rfl; have hcz28_2 : w25.cell? ⟨gb209, 2, none⟩ = some (.string t212) := (blk_cell BK209.out 2).trans rfl; have hfz28_0 := blk_frozen BK209.out 0; have hfz28_1 := blk_frozen BK209.out 1; have hfz28_2 := blk_frozen BK209.out 2))
                  go_meet
                  case rel => exact ⟨_, H', ⟨by first | omega | exact Nat.le_refl _⟩, ⟨by (with_reducible repeat (first | refine blk_drewN ?_ _ | refine blk_drew ?_ | refine blk_alloc ?_ _)); refine blk_far ?_ NB209_220.out _; (with_reducible repeat (first | refine blk_drewN ?_ _ | refine blk_drew ?_ | refine blk_alloc ?_ _)); refine blk_far ?_ NB209_220.out _; (with_reducible repeat (first | refine blk_drewN ?_ _ | refine blk_drew ?_ | refine blk_alloc ?_ _)); refine blk_far ?_ NB209_220.out _; (with_reducible repeat (first | refine blk_drewN ?_ _ | refine blk_drew ?_ | refine blk_alloc ?_ _)); exact BK209.out⟩, ⟨by repeat (first | (with_reducible first | exact HB.out | apply below_alloc | apply pw_below_drewN | apply below_drew1 | refine below_set ?_ GE209.out | refine below_set ?_ GE220.out) | exact HB.out)⟩⟩
                · rw [if_neg c23] at H
                  exact absurd H (by simp)
            · rw [if_neg c21] at H
              exact absurd H (by simp)
          · rw [if_neg c19] at H
            have c19b0 : (t214 == 0) = false := beq_eq_false_iff_ne.mpr c19
            have c19b1 : (t214 != 0) = true := bne_iff_ne.mpr c19
            (first | rw [c19b0] | (simp only [i64_w, i32_w]; rw [c19b0]) | skip)
            have H' := Aside0.mk H
            clear H
            go_wp2
            go_meet
            case rel => exact ⟨_, H', ⟨by first | omega | exact Nat.le_refl _⟩, ⟨by (with_reducible repeat (first | refine blk_drewN ?_ _ | refine blk_drew ?_ | refine blk_alloc ?_ _)); exact BK209.out⟩, ⟨by repeat (first | (with_reducible first | exact HB.out | apply below_alloc | apply pw_below_drewN | apply below_drew1 | refine below_set ?_ GE209.out) | exact HB.out)⟩⟩
        case rest =>
          clear HC11
          try clear c1
          try clear c2
          try clear p2
          try clear c3
          try clear c6
          try clear c6b0
          try clear c6b1
          try clear c7
          try clear c7b0
          try clear c7b1
          try clear c8
          try clear c9
          try clear c10
          try clear c10b0
          try clear c10b1
          try clear c10b2
          try clear c11
          try clear c19
          try clear c19b0
          try clear c19b1
          try clear c21
          try clear c21b0
          try clear c21b1
          try clear c22
          try clear c22b0
          try clear c23
          try clear c23b0
          try clear c23b1
          try clear c26
          try clear hcz13_0
          try clear hcz13_1
          try clear hcz13_2
          try clear hcz15_0
          try clear hcz15_1
          try clear hcz15_2
          try clear hcz17_0
          try clear hcz17_1
          try clear hcz17_2
          try clear hcz27_0
          try clear hcz27_1
          try clear hcz27_2
          try clear hcz28_0
          try clear hcz28_1
          try clear hcz28_2
          try clear hfz13_0
          try clear hfz13_1
          try clear hfz13_2
          try clear hfz15_0
          try clear hfz15_1
          try clear hfz15_2
          try clear hfz17_0
          try clear hfz17_1
          try clear hfz17_2
          try clear hfz27_0
          try clear hfz27_1
          try clear hfz27_2
          try clear hfz28_0
          try clear hfz28_1
          try clear hfz28_2
          obtain ⟨kq, HA, HJ10, BK209, HB⟩ := hcut
          cases kq with
          | zero => exact absurd HA.out (by simp [withylaw12_ChainBack.j0])
          | succ kj10 =>
            have H := HA.out
            clear HA
            simp only [withylaw12_ChainBack.j0] at H
            replace H := Option.bind_eq_some_iff.mp H
            obtain ⟨⟨t221, t222, t223, t224⟩, A290, H⟩ := H
            replace H : (if t224 = 0 then ((chain_Encode.f kj10 t221 t222 t223 ((a2.extract 0 ((ji5) : Int).toNat).size : Int)).bind fun bt226 => (if bt226.2 = 0 then (if bt226.1.toList = (a2.extract 0 ((ji5) : Int).toNat).toList then ((withylaw12_fixed.f kj10).bind fun t228 => (some t228)) else (none)) else (none))) else (if t224 = 3 then (if (t221 == 0 && (t222 == 0 && (t223.toList == ([] : List UInt8)))) = true then ((withylaw12_fixed.f kj10).bind fun t229 => (some t229)) else (none)) else (none))) = some r := H
            have A29 := Aside0.mk A290
            clear A290
            by_cases c30 : t224 = 0
            · rw [if_pos c30] at H
              have c30b0 : (t224 == 0) = true := beq_iff_eq.mpr c30
              have c30b1 : (t224 != 0) = false := bne_eq_false_iff_eq.mpr c30
              clear c30
              replace H := Option.bind_eq_some_iff.mp H
              obtain ⟨⟨t226, t227⟩, A310, H⟩ := H
              (try simp only [hji5Y] at A310)
              replace H : (if t227 = 0 then (if t226.toList = (a2.extract 0 ((ji5) : Int).toNat).toList then ((withylaw12_fixed.f kj10).bind fun t228 => (some t228)) else (none)) else (none)) = some r := H
              have A31 := Aside0.mk A310
              clear A310
              by_cases c32 : t227 = 0
              · rw [if_pos c32] at H
                have c32b0 : (t227 == 0) = true := beq_iff_eq.mpr c32
                have c32b1 : (t227 != 0) = false := bne_eq_false_iff_eq.mpr c32
                clear c32
                by_cases c33 : t226.toList = (a2.extract 0 ((ji5) : Int).toNat).toList
                · rw [if_pos c33] at H
                  have c33b0 : (t226.toList == (a2.extract 0 ((ji5) : Int).toNat).toList) = true := beq_iff_eq.mpr c33
                  have c33b1 : (t226.toList != (a2.extract 0 ((ji5) : Int).toNat).toList) = false := bne_eq_false_iff_eq.mpr c33
                  clear c33
                  replace H := Option.bind_eq_some_iff.mp H
                  obtain ⟨t228, A340, H⟩ := H
                  (try simp only [hji5Y] at A340)
                  replace H : (some t228) = some r := H
                  have A34 := Aside0.mk A340
                  clear A340
                  obtain rfl := Option.some.inj H
                  go_wp2_with (first | ((with_reducible refine gate_callee (f := 11) rfl ?_); refine goesL_ (some 56) rfl rfl Tryd.func11 (by kernel_rfl) rfl #[.string (a2.extract 0 ((ji5) : Int).toNat)] rfl (by (try simp only [List.map_toArray, List.map_cons, List.map_nil]); first | done | (simp only [hji5]; rfl) | rfl | (simp only [List.length_drop, List.length_take]; rfl)) ?_; (with_reducible refine (chain_Decode.calls kj10 (a2.extract 0 ((ji5) : Int).toNat) t221 t222 t223 t224 _ A29.out).mono ?_); rintro e w35 ⟨rfl, hb⟩; refine ⟨_, rfl, ?_⟩; have n0_ := Aside0.mk (blk_below (g := gb209) (o := .cells #[.int .i64 t210, .int .i64 t211, .string t212] 23 (0, 0)) (by (with_reducible repeat (first | refine blk_drewN ?_ _ | refine blk_drew ?_ | refine blk_alloc ?_ _)); exact BK209.out) hb); have n1_ := Aside0.mk (below_step (by repeat (first | (with_reducible first | exact HB.out | apply below_alloc | apply pw_below_drewN | apply below_drew1 | refine below_set ?_ GE209.out) | exact HB.out)) hb); clear BK209; clear HB; have BK209 := n0_; have HB := n1_; clear n0_ n1_; (try clear hb); (try clear hb2); (try clear hk); (try clear hi)) | ((with_reducible refine gate_dst (N := 11) rfl ?_); (try (refine gate_guard (by rfl) ?_; dsimp only)); refine box_event ?hg (N := 11) ?hd (cs := #[.int .i64 0, .int .i64 0, .string (⟨#[]⟩ : ByteArray)]) (t := 23) ?hr ?_; (case hd => rfl); (case hg => rfl); (case hr => first | (go_simp; done) | (go_simp; rfl)); intro gb225 hg w36 hbox hb; have n0_ := Aside0.mk (blk_below (g := gb209) (o := .cells #[.int .i64 t210, .int .i64 t211, .string t212] 23 (0, 0)) (by (with_reducible repeat (first | refine blk_drewN ?_ _ | refine blk_drew ?_ | refine blk_alloc ?_ _)); exact BK209.out) hb); have n1_ := Aside0.mk (below_step (by repeat (first | (with_reducible first | exact HB.out | apply below_alloc | apply pw_below_drewN | apply below_drew1 | refine below_set ?_ GE209.out) | exact HB.out)) hb); have n2_ := Aside0.mk (hbox); have n3_ := Aside0.mk ((by rw [hg]; exact (below_size (by repeat (first | (with_reducible first | exact HB.out | apply below_alloc | apply pw_below_drewN | apply below_drew1 | refine below_set ?_ GE209.out) | exact HB.out))) : w.heap.size ≤ gb225)); have n4_ := Aside0.mk ((by rw [hg]; exact (below_size (by repeat (first | (with_reducible first | exact HB.out | apply below_alloc | apply pw_below_drewN | apply below_drew1 | refine below_set ?_ GE209.out) | exact HB.out))) : w.heap.size ≤ gb225)); have n5_ := Aside0.mk ((by rw [hg]; exact Nat.ne_of_lt (blk_lt (g := gb209) (o := .cells #[.int .i64 t210, .int .i64 t211, .string t212] 23 (0, 0)) (by (with_reducible repeat (first | refine blk_drewN ?_ _ | refine blk_drew ?_ | refine blk_alloc ?_ _)); exact BK209.out)) : gb209 ≠ gb225)); have n6_ := Aside0.mk ((by rw [hg]; exact Nat.ne_of_gt (blk_lt (g := gb209) (o := .cells #[.int .i64 t210, .int .i64 t211, .string t212] 23 (0, 0)) (by (with_reducible repeat (first | refine blk_drewN ?_ _ | refine blk_drew ?_ | refine blk_alloc ?_ _)); exact BK209.out)) : gb225 ≠ gb209)); clear BK209; clear HB; have BK209 := n0_; have HB := n1_; have BK225 := n2_; have GW225 := n3_; have GE225 := n4_; have NB209_225 := n5_; have NB225_209 := n6_; clear n0_ n1_ n2_ n3_ n4_ n5_ n6_; clear hb hbox hg; have hnb37 := NB225_209.out; have hnc37 := NB209_225.out; have hcz38_0 : w36.cell? ⟨gb225, 0, none⟩ = some (.int .i64 0) := (blk_cell BK225.out 0).trans rfl; have hcz38_1 : w36.cell? ⟨gb225, 1, none⟩ = some (.int .i64 0) := (blk_cell BK225.out 1).trans rfl; have hcz38_2 : w36.cell? ⟨gb225, 2, none⟩ = some (.string (⟨#[]⟩ : ByteArray)) := (blk_cell BK225.out 2).trans rfl; have hfz38_0 := blk_frozen BK225.out 0; have hfz38_1 := blk_frozen BK225.out 1; have hfz38_2 := blk_frozen BK225.out 2) | ((with_reducible refine gate_callee (f := 9) rfl ?_); refine goesL_ (some 75) rfl rfl Tryd.func9 (by kernel_rfl) rfl #[.agg #[.int .i64 t221, .int .i64 t222, .string t223], .int .i64 ji5] rfl (by (try simp only [List.map_toArray, List.map_cons, List.map_nil]); first | done | (simp only [hji5]; rfl) | rfl | (simp only [List.length_drop, List.length_take]; rfl)) ?_; (with_reducible refine (chain_Encode.calls kj10 t221 t222 t223 ji5 t226 t227 _ A31.out).mono ?_); rintro e w39 ⟨rfl, hb⟩; refine ⟨_, rfl, ?_⟩; have n0_ := Aside0.mk (blk_below (g := gb209) (o := .cells #[.int .i64 t210, .int .i64 t211, .string t212] 23 (0, 0)) (by (with_reducible repeat (first | refine blk_drewN ?_ _ | refine blk_drew ?_ | refine blk_alloc ?_ _)); refine blk_far ?_ NB209_225.out _; (with_reducible repeat (first | refine blk_drewN ?_ _ | refine blk_drew ?_ | refine blk_alloc ?_ _)); refine blk_far ?_ NB209_225.out _; (with_reducible repeat (first | refine blk_drewN ?_ _ | refine blk_drew ?_ | refine blk_alloc ?_ _)); refine blk_far ?_ NB209_225.out _; (with_reducible repeat (first | refine blk_drewN ?_ _ | refine blk_drew ?_ | refine blk_alloc ?_ _)); exact BK209.out) hb); have n1_ := Aside0.mk (blk_below (g := gb225) (o := .cells #[.int .i64 t221, .int .i64 t222, .string t223] 23 (0, 0)) (by (with_reducible repeat (first | refine blk_drewN ?_ _ | refine blk_drew ?_ | refine blk_alloc ?_ _)); refine blk_put (cs := #[.int .i64 t221, .int .i64 t222, .string (⟨#[]⟩ : ByteArray)]) ?_ 2 _ rfl; (with_reducible repeat (first | refine blk_drewN ?_ _ | refine blk_drew ?_ | refine blk_alloc ?_ _)); refine blk_put (cs := #[.int .i64 t221, .int .i64 0, .string (⟨#[]⟩ : ByteArray)]) ?_ 1 _ rfl; (with_reducible repeat (first | refine blk_drewN ?_ _ | refine blk_drew ?_ | refine blk_alloc ?_ _)); refine blk_put (cs := #[.int .i64 0, .int .i64 0, .string (⟨#[]⟩ : ByteArray)]) ?_ 0 _ rfl; (with_reducible repeat (first | refine blk_drewN ?_ _ | refine blk_drew ?_ | refine blk_alloc ?_ _)); exact BK225.out) hb); have n2_ := Aside0.mk (below_step (by repeat (first | (with_reducible first | exact HB.out | apply below_alloc | apply pw_below_drewN | apply below_drew1 | refine below_set ?_ GE209.out | refine below_set ?_ GE225.out) | exact HB.out)) hb); clear BK209; clear BK225; clear HB; have BK209 := n0_; have BK225 := n1_; have HB := n2_; clear n0_ n1_ n2_; (try clear hb); (try clear hb2); (try clear hk); (try clear hi)) | (go_at_call 12; (with_reducible refine (withylaw12_fixed.calls kj10  t228 _ A34.out).mono ?_); rintro e w40 ⟨rfl, hb⟩; have n0_ := Aside0.mk (blk_below (g := gb209) (o := .cells #[.int .i64 t210, .int .i64 t211, .string t212] 23 (0, 0)) (by (with_reducible repeat (first | refine blk_drewN ?_ _ | refine blk_drew ?_ | refine blk_alloc ?_ _)); exact BK209.out) hb); have n1_ := Aside0.mk (blk_below (g := gb225) (o := .cells #[.int .i64 t221, .int .i64 t222, .string t223] 23 (0, 0)) (by (with_reducible repeat (first | refine blk_drewN ?_ _ | refine blk_drew ?_ | refine blk_alloc ?_ _)); exact BK225.out) hb); have n2_ := Aside0.mk (below_step (by repeat (first | (with_reducible first | exact HB.out | apply below_alloc | apply pw_below_drewN | apply below_drew1 | refine below_set ?_ GE209.out | refine below_set ?_ GE225.out) | exact HB.out)) hb); clear BK209; clear BK225; clear HB; have BK209 := n0_; have BK225 := n1_; have HB := n2_; clear n0_ n1_ n2_; (try clear hb); (try clear hb2); (try clear hk); (try clear hi)))
                  go_ret
                  exact ⟨by first | rfl | (simp [errW_none, errW_some] <;> rfl) | (simp only [← hji5]; first | rfl | (simp [errW_none, errW_some] <;> rfl)) | (simp [*, errW_none, errW_some] <;> rfl), by repeat (first | (with_reducible first | exact HB.out | apply below_alloc | apply pw_below_drewN | apply below_drew1 | refine below_set ?_ GE209.out | refine below_set ?_ GE225.out) | exact HB.out)⟩
                · rw [if_neg c33] at H
                  exact absurd H (by simp)
              · rw [if_neg c32] at H
                exact absurd H (by simp)
            · rw [if_neg c30] at H
              have c30b0 : (t224 == 0) = false := beq_eq_false_iff_ne.mpr c30
              have c30b1 : (t224 != 0) = true := bne_iff_ne.mpr c30
              by_cases c41 : t224 = 3
              · rw [if_pos c41] at H
                have c41b0 : (t224 == 3) = true := beq_iff_eq.mpr c41
                have c41b1 : (t224 != 3) = false := bne_eq_false_iff_eq.mpr c41
                clear c41
                by_cases c42 : (t221 == 0 && (t222 == 0 && (t223.toList == ([] : List UInt8)))) = true
                · have c42y : (t221 = 0 ∧ t222 = 0 ∧ t223.toList = ([] : List UInt8)) = True := eq_true (by simpa using c42)
                  rw [if_pos c42] at H
                  have c42b0 : (t221 == 0 && (t222 == 0 && (t223.toList == ([] : List UInt8)))) = true := c42
                  (try (have c42b1 : decide (t221 = 0 && (t222 == 0 && (t223.toList == ([] : List UInt8)))) = true := by simpa using c42))
                  (try (have c42b2 : (t221 == 0 && (t222 == 0 && (t223.toList == ([] : List UInt8)))) = true := by simpa using c42))
                  clear c42
                  replace H := Option.bind_eq_some_iff.mp H
                  obtain ⟨t229, A430, H⟩ := H
                  (try simp only [hji5Y] at A430)
                  replace H : (some t229) = some r := H
                  have A43 := Aside0.mk A430
                  clear A430
                  obtain rfl := Option.some.inj H
                  go_wp2_with (first | ((with_reducible refine gate_callee (f := 11) rfl ?_); refine goesL_ (some 56) rfl rfl Tryd.func11 (by kernel_rfl) rfl #[.string (a2.extract 0 ((ji5) : Int).toNat)] rfl (by (try simp only [List.map_toArray, List.map_cons, List.map_nil]); first | done | (simp only [hji5]; rfl) | rfl | (simp only [List.length_drop, List.length_take]; rfl)) ?_; (with_reducible refine (chain_Decode.calls kj10 (a2.extract 0 ((ji5) : Int).toNat) t221 t222 t223 t224 _ A29.out).mono ?_); rintro e w44 ⟨rfl, hb⟩; refine ⟨_, rfl, ?_⟩; have n0_ := Aside0.mk (blk_below (g := gb209) (o := .cells #[.int .i64 t210, .int .i64 t211, .string t212] 23 (0, 0)) (by (with_reducible repeat (first | refine blk_drewN ?_ _ | refine blk_drew ?_ | refine blk_alloc ?_ _)); exact BK209.out) hb); have n1_ := Aside0.mk (below_step (by repeat (first | (with_reducible first | exact HB.out | apply below_alloc | apply pw_below_drewN | apply below_drew1 | refine below_set ?_ GE209.out) | exact HB.out)) hb); clear BK209; clear HB; have BK209 := n0_; have HB := n1_; clear n0_ n1_; (try clear hb); (try clear hb2); (try clear hk); (try clear hi)) | ((with_reducible refine gate_dst (N := 11) rfl ?_); (try (refine gate_guard (by rfl) ?_; dsimp only)); refine box_event ?hg (N := 11) ?hd (cs := #[.int .i64 0, .int .i64 0, .string (⟨#[]⟩ : ByteArray)]) (t := 23) ?hr ?_; (case hd => rfl); (case hg => rfl); (case hr => first | (go_simp; done) | (go_simp; rfl)); intro gb225 hg w45 hbox hb; have n0_ := Aside0.mk (blk_below (g := gb209) (o := .cells #[.int .i64 t210, .int .i64 t211, .string t212] 23 (0, 0)) (by (with_reducible repeat (first | refine blk_drewN ?_ _ | refine blk_drew ?_ | refine blk_alloc ?_ _)); exact BK209.out) hb); have n1_ := Aside0.mk (below_step (by repeat (first | (with_reducible first | exact HB.out | apply below_alloc | apply pw_below_drewN | apply below_drew1 | refine below_set ?_ GE209.out) | exact HB.out)) hb); have n2_ := Aside0.mk (hbox); have n3_ := Aside0.mk ((by rw [hg]; exact (below_size (by repeat (first | (with_reducible first | exact HB.out | apply below_alloc | apply pw_below_drewN | apply below_drew1 | refine below_set ?_ GE209.out) | exact HB.out))) : w.heap.size ≤ gb225)); have n4_ := Aside0.mk ((by rw [hg]; exact (below_size (by repeat (first | (with_reducible first | exact HB.out | apply below_alloc | apply pw_below_drewN | apply below_drew1 | refine below_set ?_ GE209.out) | exact HB.out))) : w.heap.size ≤ gb225)); have n5_ := Aside0.mk ((by rw [hg]; exact Nat.ne_of_lt (blk_lt (g := gb209) (o := .cells #[.int .i64 t210, .int .i64 t211, .string t212] 23 (0, 0)) (by (with_reducible repeat (first | refine blk_drewN ?_ _ | refine blk_drew ?_ | refine blk_alloc ?_ _)); exact BK209.out)) : gb209 ≠ gb225)); have n6_ := Aside0.mk ((by rw [hg]; exact Nat.ne_of_gt (blk_lt (g := gb209) (o := .cells #[.int .i64 t210, .int .i64 t211, .string t212] 23 (0, 0)) (by (with_reducible repeat (first | refine blk_drewN ?_ _ | refine blk_drew ?_ | refine blk_alloc ?_ _)); exact BK209.out)) : gb225 ≠ gb209)); clear BK209; clear HB; have BK209 := n0_; have HB := n1_; have BK225 := n2_; have GW225 := n3_; have GE225 := n4_; have NB209_225 := n5_; have NB225_209 := n6_; clear n0_ n1_ n2_ n3_ n4_ n5_ n6_; clear hb hbox hg; have hnb46 := NB225_209.out; have hnc46 := NB209_225.out; have hcz47_0 : w45.cell? ⟨gb225, 0, none⟩ = some (.int .i64 0) := (blk_cell BK225.out 0).trans rfl; have hcz47_1 : w45.cell? ⟨gb225, 1, none⟩ = some (.int .i64 0) := (blk_cell BK225.out 1).trans rfl; have hcz47_2 : w45.cell? ⟨gb225, 2, none⟩ = some (.string (⟨#[]⟩ : ByteArray)) := (blk_cell BK225.out 2).trans rfl; have hfz47_0 := blk_frozen BK225.out 0; have hfz47_1 := blk_frozen BK225.out 1; have hfz47_2 := blk_frozen BK225.out 2) | (go_at_call 12; (with_reducible refine (withylaw12_fixed.calls kj10  t229 _ A43.out).mono ?_); rintro e w48 ⟨rfl, hb⟩; have n0_ := Aside0.mk (blk_below (g := gb209) (o := .cells #[.int .i64 t210, .int .i64 t211, .string t212] 23 (0, 0)) (by (with_reducible repeat (first | refine blk_drewN ?_ _ | refine blk_drew ?_ | refine blk_alloc ?_ _)); refine blk_far ?_ NB209_225.out _; (with_reducible repeat (first | refine blk_drewN ?_ _ | refine blk_drew ?_ | refine blk_alloc ?_ _)); refine blk_far ?_ NB209_225.out _; (with_reducible repeat (first | refine blk_drewN ?_ _ | refine blk_drew ?_ | refine blk_alloc ?_ _)); refine blk_far ?_ NB209_225.out _; (with_reducible repeat (first | refine blk_drewN ?_ _ | refine blk_drew ?_ | refine blk_alloc ?_ _)); exact BK209.out) hb); have n1_ := Aside0.mk (blk_below (g := gb225) (o := .cells #[.int .i64 t221, .int .i64 t222, .string t223] 23 (0, 0)) (by (with_reducible repeat (first | refine blk_drewN ?_ _ | refine blk_drew ?_ | refine blk_alloc ?_ _)); refine blk_put (cs := #[.int .i64 t221, .int .i64 t222, .string (⟨#[]⟩ : ByteArray)]) ?_ 2 _ rfl; (with_reducible repeat (first | refine blk_drewN ?_ _ | refine blk_drew ?_ | refine blk_alloc ?_ _)); refine blk_put (cs := #[.int .i64 t221, .int .i64 0, .string (⟨#[]⟩ : ByteArray)]) ?_ 1 _ rfl; (with_reducible repeat (first | refine blk_drewN ?_ _ | refine blk_drew ?_ | refine blk_alloc ?_ _)); refine blk_put (cs := #[.int .i64 0, .int .i64 0, .string (⟨#[]⟩ : ByteArray)]) ?_ 0 _ rfl; (with_reducible repeat (first | refine blk_drewN ?_ _ | refine blk_drew ?_ | refine blk_alloc ?_ _)); exact BK225.out) hb); have n2_ := Aside0.mk (below_step (by repeat (first | (with_reducible first | exact HB.out | apply below_alloc | apply pw_below_drewN | apply below_drew1 | refine below_set ?_ GE209.out | refine below_set ?_ GE225.out) | exact HB.out)) hb); clear BK209; clear BK225; clear HB; have BK209 := n0_; have BK225 := n1_; have HB := n2_; clear n0_ n1_ n2_; (try clear hb); (try clear hb2); (try clear hk); (try clear hi)))
                  go_ret
                  exact ⟨by first | rfl | (simp [errW_none, errW_some] <;> rfl) | (simp only [← hji5]; first | rfl | (simp [errW_none, errW_some] <;> rfl)) | (simp [*, errW_none, errW_some] <;> rfl), by repeat (first | (with_reducible first | exact HB.out | apply below_alloc | apply pw_below_drewN | apply below_drew1 | refine below_set ?_ GE209.out | refine below_set ?_ GE225.out) | exact HB.out)⟩
                · have c42y : (t221 = 0 ∧ t222 = 0 ∧ t223.toList = ([] : List UInt8)) = False := eq_false (by simpa using c42)
                  rw [if_neg c42] at H
                  exact absurd H (by simp)
              · rw [if_neg c41] at H
                exact absurd H (by simp)
    · rw [if_neg c7] at H
      exact absurd H (by simp)
  · rw [if_neg c6] at H
    exact absurd H (by simp)

end Go.Proofs.YtlagllfbomaehaaDoor.A
