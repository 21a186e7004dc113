/- The law 'withy/withylaw12.ChainTells' holds: the row, and its card. It says: true whatever the input, and what it reads stays. Condition: the two variables the row lists read as listed (the tie is given). -/
import Derived.Test.YtlagllfbomaehaaGreatDoorTie
import Derived.Test.YtlagllfbomaehaaGreatDoorCards
import Derived.Test.YtlagllfbomaehaaGreatDoorLawChainTells
import Derived.ProofKit
import Derived.OpenShut
import Derived.ShutString
import Derived.LaidMore
import Derived.Lay
import Derived.SevenTiedAt
import Derived.Stop.Joined
import Derived.Below
import Derived.Lib.SmallJoins
namespace Go.Proofs.YtlagllfbomaehaaGreatDoor.ChainTellsCard
open Go.ChangeShapes Go.WideShapes Go.ChangeAt Go.RowKit
open Go.ChangeMaps (open_string shut_string)
set_option linter.unusedVariables false
theorem own : ownKnob Tryz.prog.godebug = none := by kernel_rfl
theorem laidOut : laidOutB Tryz.prog = true := by kernel_rfl
set_option maxRecDepth 100000 in
theorem lifted (os : Os) (started : os.Started) (H : Type) (enc : TypeId × Value → H) :
    ReturnsInHanded {} Tryz.checked os 3 .any (fun w args => (Rows.chainTellsSpec.pre enc Tryz.prog Tryz.f3 Rows.chainTellsRow.domain false w args ∧ laidMetH Tryz.prog Rows.chainTellsRow.laid w) ∧ sizedMet enc Tryz.prog Tryz.f3 (OpenSpec.ofChange Rows.chainTellsSpec) false w args)
      (Rows.chainTellsSpec.post enc Tryz.prog Tryz.f3 false true false false) := by
  refine returnsInHanded_of_change_and (C := Tryz.checked) (X := fun w _ => laidMetH Tryz.prog Rows.chainTellsRow.laid w) (fun _ _ _ hh h => h.of_heap hh) own started (by kernel_rfl) Tryz.func3
    (ChangeSpec.witness_shaped (enc := enc) (C := Tryz.checked) (os := os) (X := fun w _ => laidMetH Tryz.prog Rows.chainTellsRow.laid w) false (World.laidAll Tryz.prog os Rows.chainTellsRow.laid) #[.agg #[.int .i64 0, .int .i64 0, .string ByteArray.empty], .int .i64 0, .agg #[.string ByteArray.empty, .string ByteArray.empty, .int .i64 0]] 8 (World.laidAll_os _ _ _)
      (World.shaped_of_ZipB (by kernel_rfl) (by kernel_rfl)) (by kernel_rfl) (by kernel_rfl) (by kernel_rfl)
      (by rw [MakeChecks.laidMetH_plain _ _ _ (by kernel_rfl)]; exact laidMet_laidAll _ (by kernel_rfl) (by kernel_rfl))) ?_
  intro W base args ds gs before hval0 hW _hc _ _hL _
  have hval : ∀ (j : Nat) t v, Tryz.f3.params[j]? = some t → args[j]? = some v → Value.okWide Tryz.prog W .any base t v := hval0
  have hW' := hW
  obtain ⟨p, q, hA0, hV, rfl, hfz, hnd⟩ := hW
  have hA : DataW.TrodAll enc Tryz.prog W 0 (fun _ => true) true Tryz.f3.params.toList args.toList ds p := hA0
  rw [Tryz.params3] at hA hval
  obtain ⟨v0, vs0, d0, ds0, p0, q0, hargs, rfl, rfl, h0, r0⟩ := trodAll_cons hA
  obtain ⟨v1, vs1, d1, ds1, p1, q1, rfl, rfl, rfl, h1, r1⟩ := trodAll_cons r0
  obtain ⟨v2, vs2, d2, ds2, p2, q2, rfl, rfl, rfl, h2, r2⟩ := trodAll_cons r1
  obtain ⟨rfl, rfl, rfl⟩ := trodAll_nil r2
  obtain rfl : args = #[v0, v1, v2] := by cases args; simp_all
  obtain ⟨rfl, rfl⟩ := trodVars_none hV
  have k0 := h0
  have lt0 : ∀ x ∈ p0, x.block < W.heap.size := by obtain ⟨m, hm⟩ := k0; exact DataW.trod_lt m _ _ _ hm
  obtain ⟨u0_0, u0_1, u0_2, y0_0, y0_1, y0_2, n0, rfl, _, _, e0_0, e0_1, e0_2⟩ := Go.Joins.open_agg3 Tryz.underlying23 (by kernel_rfl) (by kernel_rfl) (hval 0 23 v0 rfl rfl) h0
  obtain ⟨a0_0, g0_0, _, w0_0⟩ := DataW.trod_int Tryz.underlying3 e0_0
  obtain rfl : u0_0 = .int .i64 a0_0 := by simpa using g0_0
  obtain ⟨a0_1, g0_1, _, w0_1⟩ := DataW.trod_int Tryz.underlying3 e0_1
  obtain rfl : u0_1 = .int .i64 a0_1 := by simpa using g0_1
  obtain ⟨a0_2, g0_2, _, _⟩ := DataW.trod_string Tryz.underlying9 e0_2
  obtain rfl : u0_2 = .string a0_2 := by simpa using g0_2
  obtain ⟨a1, rfl, rfl, rfl, w1⟩ := open_int Tryz.underlying3 (hval 1 3 v1 rfl rfl) h1
  have k2 := h2
  have lt2 : ∀ x ∈ p2, x.block < W.heap.size := by obtain ⟨m, hm⟩ := k2; exact DataW.trod_lt m _ _ _ hm
  obtain ⟨u2_0, u2_1, u2_2, y2_0, y2_1, y2_2, n2, rfl, _, _, e2_0, e2_1, e2_2⟩ := Go.Joins.open_agg3 Tryz.underlying25 (by kernel_rfl) (by kernel_rfl) (hval 2 25 v2 rfl rfl) h2
  obtain ⟨a2_0, g2_0, _, _⟩ := DataW.trod_string Tryz.underlying9 e2_0
  obtain rfl : u2_0 = .string a2_0 := by simpa using g2_0
  obtain ⟨a2_1, g2_1, _, _⟩ := DataW.trod_string Tryz.underlying9 e2_1
  obtain rfl : u2_1 = .string a2_1 := by simpa using g2_1
  obtain ⟨a2_2, g2_2, _, w2_2⟩ := DataW.trod_int Tryz.underlying3 e2_2
  obtain rfl : u2_2 = .int .i64 a2_2 := by simpa using g2_2
  simp only [List.append_nil] at hW'
  obtain ⟨k, hk⟩ := (A.withylaw12_ChainTells.ev a0_0 a0_1 a0_2 a1 a2_0 a2_1 a2_2 (bounds_i64 w2_2)).rounds
  refine (A.withylaw12_ChainTells.calls k a0_0 a0_1 a0_2 a1 a2_0 a2_1 a2_2 true W hk).mono fun e W' ⟨he, bel⟩ => ?_
  subst he
  exact ⟨_, rfl, _, _, _, [], _, [], hW', trodAll_mk1 (shut_bool Tryz.underlying4 _), (trodAll_cons_mk (Below.trod laidOut (by kernel_rfl) (of_decide_eq_true (by kernel_rfl)) k0 bel lt0) (trodAll_cons_mk (shut_int Tryz.underlying3 w1) (trodAll_cons_mk (Below.trod laidOut (by kernel_rfl) (of_decide_eq_true (by kernel_rfl)) k2 bel lt2) trodAll_mk0))), rfl, bel.frame _, fun h => by cases h⟩
theorem holds : Rows.ChainTellsSaid :=
  OpenClaim.holds_of_wide 3 Tryz.f3 rfl rfl rfl rfl rfl rfl rfl ⟨rfl, rfl, rfl, rfl, rfl⟩ rfl rfl rfl rfl rfl (by kernel_rfl) Tryz.func3 (by kernel_rfl)
    (of_decide_eq_true (by kernel_rfl)) (by unfold Func.isWrapper; first | (rw [if_pos (by decide +kernel)]; kernel_rfl) | (rw [if_neg (by decide +kernel)]; exact ⟨rfl, rfl⟩))
    (fun os started H enc _ => lifted os started H enc)
theorem card_holds : Rows.ChainTellsCardSaid :=
  Claim7.holds_tied_plain_at .later [] [.data, .pinned] true (true, "1648433c8391512c796013d72d89502a3b4042dbb5bac10362cbae29377fbc4f") true holds (fun _ h => by cases h) (by kernel_rfl) (fun _ h => by cases h) chainTells_row_tie rfl ⟨rfl, rfl⟩ (by kernel_rfl) rfl
    (fun f fn hf hfn => by
      obtain rfl : f = 3 := Option.some.inj ((show Tryz.prog.funcNamed "withy/withylaw12.ChainTells" = some 3 by kernel_rfl).symm.trans hf) |>.symm
      obtain rfl : fn = Tryz.f3 := (Option.some.inj (Tryz.func3.symm.trans hfn)).symm
      exact ⟨by kernel_rfl, fun j t ht => by
        rw [Tryz.params3] at ht
        have hm : t ∈ [23, 3, 25] := by simpa using Array.mem_of_getElem? ht
        have hall : ([23, 3, 25].all fun u => !Tryz.prog.wantsStandIn u) = true := by kernel_rfl
        exact (show Tryz.prog.wantsStandIn t = false by simpa using List.all_eq_true.1 hall t hm)⟩)
    (by kernel_rfl)
#print axioms card_holds
end Go.Proofs.YtlagllfbomaehaaGreatDoor.ChainTellsCard
