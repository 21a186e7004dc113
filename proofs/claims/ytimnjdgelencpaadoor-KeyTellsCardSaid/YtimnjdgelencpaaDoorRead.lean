/- key.read: what it hands back, for every text of at most a million bytes. -/
import Derived.Test.YtimnjdgelencpaaDoorKRows
namespace Go.Proofs.YtimnjdgelencpaaDoor.A
open Go Go.RowKit Go.Proofs Go.Shelf Go.Proofs.YtimnjdgelencpaaDoorW Go.Proofs.YtimnjdgelencpaaDoorW.PrintWords
attribute [local go_sem] Oper.semAt_some
set_option linter.unusedVariables false
set_option linter.unusedSimpArgs false
theorem columns_calls (s : ByteArray) (w : World) : Calls Tryd.prog 64 #[.string s] w fun e w' => e = .returned (.func (.func 76) #[] #[.pointer (some ⟨w.heap.size, 0, none⟩)]) ∧ w' = w.alloc (.cells #[.string s] 9) := by
 go_enter Tryd.func64, Tryd.ntmps64
 go_wp2
 go_ret
 exact ⟨rfl, rfl⟩
theorem where_calls (k i u : Int) (t : ByteArray) (z : Int) (w : World) : Calls Tryd.prog 109 #[.agg #[.int .i64 k, .int .i64 i, .int .u64 u, .string t, .int .i64 z]] w fun e w' => e = .returned (.int .i64 z) ∧ w' = w.alloc (.cells #[.int .i64 k, .int .i64 i, .int .u64 u, .string t, .int .i64 z] 104) := by
 go_enter Tryd.func109, Tryd.ntmps109
 go_wp2
 go_ret
 exact ⟨rfl, rfl⟩
theorem four_new (w : World) (x y z v : Value) (t : TypeId) : ∀ j u, [x, y, z, v][j]? = some u → (w.alloc (.cells #[x, y, z, v] t)).cell? ((⟨w.heap.size, 0, none⟩ : Addr).add j) = some u := by
 intro j u hj
 match j, hj with
 | 0, hj => simp at hj; subst hj; simp [Addr.add]
 | 1, hj => simp at hj; subst hj; simp [Addr.add]
 | 2, hj => simp at hj; subst hj; simp [Addr.add]
 | 3, hj => simp at hj; subst hj; simp [Addr.add]
theorem seq_stops (s : ByteArray) (hs : s.size ≤ 1000000) (xs : List Fd) (kk : Nat) (hxs : key_read.it kk s 0 = some xs) (Bn : Nat) (w0 : World) (hBn : Boxed w0 Bn 9 (.string s)) :
  SeqStopsK Fence.wide 3 Tryd.prog 76 #[.pointer (some ⟨Bn, 0, none⟩)] (fun x : Fd => #[x.enc]) (KpBox Bn) (fun ys => ys = xs) (fun pre => pre <+: xs) xs.length w0 :=
 fun l J Jx W hW hJ hJx hY h0 => columns1_in s hs xs kk hxs Bn l J Jx W hJ hJx hY ((hW.block Bn hBn.lt).trans hBn) h0
set_option maxRecDepth 100000 in
theorem ta_bad (v : Value) (W : World) : (Instr.typeAssert (.iface 101 v) 99 101 true).run Tryd.prog W = .ok (.tuple #[v, .bool true]) W := rfl
set_option maxRecDepth 100000 in
theorem ta_ok (v : Value) (W : World) : (Instr.typeAssert (.iface 104 v) 99 101 true).run Tryd.prog W = .ok (.tuple #[.agg #[.int .i64 0, .int .i64 0], .bool false]) W := rfl
set_option maxRecDepth 100000 in
theorem ta_one (v : Value) (W : World) : (Instr.typeAssert (.iface 104 v) 99 104 false).run Tryd.prog W = .ok v W := rfl
theorem meth_ok (k i u : Int) (t : ByteArray) (z : Int) (W : World) : (method 245 104 (.agg #[.int .i64 k, .int .i64 i, .int .u64 u, .string t, .int .i64 z]) "withy/key.where").run Tryd.prog W = .ok (109, .agg #[.int .i64 k, .int .i64 i, .int .u64 u, .string t, .int .i64 z]) W := by kernel_rfl
theorem start_RB (w : World) (s : ByteArray) :
  RB w.heap.size s (.slice (some ⟨w.heap.size + 1 + 1 + 1, 0, none⟩) 0 0) (.slice (some ⟨w.heap.size + 1 + 1 + 1 + 1, 0, none⟩) 1 1) ([] : List Fd).length (cellsOf []) (([] : List Fd).length + 1) (.int .i64 0 :: ([] : List Fd).map fun x => .int .i64 x.to)
   ((((((((w.alloc (.cells #[.slice none 0 0] 38)).alloc (.cells #[.slice none 0 0] 81)).alloc (.cells #[.int .i64 0] 27)).alloc (.cells #[] 24)).alloc (.cells #[.int .i64 0] 3)).alloc (.cells #[.slice (some ⟨w.heap.size + 1 + 1 + 1, 0, none⟩) 0 0] 38)).alloc (.cells #[.slice (some ⟨w.heap.size + 1 + 1 + 1 + 1, 0, none⟩) 1 1] 81)).alloc (.cells #[.string s] 9)) ∧
  Below w.heap.size w ((((((((w.alloc (.cells #[.slice none 0 0] 38)).alloc (.cells #[.slice none 0 0] 81)).alloc (.cells #[.int .i64 0] 27)).alloc (.cells #[] 24)).alloc (.cells #[.int .i64 0] 3)).alloc (.cells #[.slice (some ⟨w.heap.size + 1 + 1 + 1, 0, none⟩) 0 0] 38)).alloc (.cells #[.slice (some ⟨w.heap.size + 1 + 1 + 1 + 1, 0, none⟩) 1 1] 81)).alloc (.cells #[.string s] 9)) := by
 refine ⟨⟨?_, ?_, ?_, ?_, ?_, ?_, ⟨rfl, .inr ⟨_, _, #[], rfl, by omega, ?_, Nat.le_refl _, by decide, rfl, rfl⟩⟩, ⟨rfl, .inr ⟨_, _, #[.int .i64 0], rfl, by omega, ?_, Nat.le_refl _, by decide, rfl, rfl⟩⟩⟩, ?_⟩
 case refine_9 => exact ((((((((Below.refl _ w).alloc (Nat.le_refl _) _).alloc (by simp) _).alloc (by simp; omega) _).alloc (by simp; omega) _).alloc (by simp; omega) _).alloc (by simp; omega) _).alloc (by simp; omega) _).alloc (by simp; omega) _
 all_goals (try unfold Boxed); show ((((((((w.heap.push _).push _).push _).push _).push _).push _).push _).push _)[_]? = _; simp only [Array.getElem?_push, Array.size_push]; repeat (first | simp only [if_true] | rw [if_pos (by omega)] | rw [if_neg (by omega)])
set_option maxRecDepth 100000 in
set_option maxHeartbeats 4000000 in
theorem read_in (s : ByteArray) (hs : s.size ≤ 1000000) (xs : List Fd) (kk : Nat) (hxs : key_read.it kk s 0 = some xs) (hlen : xs.length ≤ 1000000) (w : World) : CallsIn Fence.wide 4 Tryd.prog 52 #[.string s] w (ReadPost w (key_read.r s xs)) := by
 refine callsIn_of_wp_marks Tryd.func52 rfl trivial ?_ rfl
 simp only [Tryd.ntmps52, List.size_toArray, List.length_cons, List.length_nil, Nat.reduceAdd, Nat.reduceSub, Array.replicate_succ, Array.replicate_zero, List.push_toArray, List.append_toArray, List.nil_append, List.cons_append]
 gi_wp2_with (refine ⟨trivial, ?_⟩; gi_at_call 64; refine (callsIn_wide.2 (columns_calls s _)).mono ?_; rintro e w2 ⟨rfl, rfl⟩)
 have hsz8 : ((((((((w.alloc (.cells #[.slice none 0 0] 38)).alloc (.cells #[.slice none 0 0] 81)).alloc (.cells #[.int .i64 0] 27)).alloc (.cells #[] 24)).alloc (.cells #[.int .i64 0] 3)).alloc (.cells #[.slice (some ⟨w.heap.size + 1 + 1 + 1, 0, none⟩) 0 0] 38)).alloc (.cells #[.slice (some ⟨w.heap.size + 1 + 1 + 1 + 1, 0, none⟩) 1 1] 81)).alloc (.cells #[.string s] 9)).heap.size = w.heap.size + 1 + 1 + 1 + 1 + 1 + 1 + 1 + 1 := by simp only [World.size_alloc]
 have hR0 := start_RB w s
 generalize ((((((((w.alloc (.cells #[.slice none 0 0] 38)).alloc (.cells #[.slice none 0 0] 81)).alloc (.cells #[.int .i64 0] 27)).alloc (.cells #[] 24)).alloc (.cells #[.int .i64 0] 3)).alloc (.cells #[.slice (some ⟨w.heap.size + 1 + 1 + 1, 0, none⟩) 0 0] 38)).alloc (.cells #[.slice (some ⟨w.heap.size + 1 + 1 + 1 + 1, 0, none⟩) 1 1] 81)).alloc (.cells #[.string s] 9)) = W8 at hsz8 hR0 ⊢
 obtain ⟨hR0, hB0⟩ := hR0
 refine wpIn_rangeFunc_ownG rfl (by decide) (gf := 76) (lb := #[.pointer (some ⟨w.heap.size + 1 + 1 + 1 + 1 + 1 + 1 + 1, 0, none⟩)]) rfl trivial (enters_of Tryd.func76 (by kernel_rfl) rfl)
  (seq_stops s hs xs kk hxs _ W8 hR0.bs) (fun h k => KpBox.t h k) (fun W l o o' h1 h2 h3 h4 => ⟨by simp, World.putObj_heap_other (by omega)⟩) (Below.refl _ _) (fun _ => rfl)
  (RI w.heap.size s w) (RX w.heap.size w) (RI_own _ _ _ _ (Nat.le_refl _) (by omega)) (fun c => RX_own _ _ c _ (Nat.le_refl _) (by omega)) ⟨⟨by simp, _, _, hR0⟩, hB0⟩
  (fun x => { tmps := #[.string s, undef, .pointer (some ⟨w.heap.size, 0, none⟩), .pointer (some ⟨w.heap.size + 1, 0, none⟩), .pointer (some ⟨w.heap.size + 1 + 1, 0, none⟩), .pointer (some ⟨w.heap.size + 1 + 1 + 1 + 1 + 1, 0, none⟩), .pointer (some ⟨w.heap.size + 1 + 1 + 1 + 1 + 1 + 1, 0, none⟩), x.enc, undef, undef,
   .slice (some ⟨w.heap.size + 1 + 1 + 1, 0, none⟩) 0 0, .slice (some ⟨w.heap.size + 1 + 1 + 1 + 1, 0, none⟩) 1 1, .string s, .func (.func 76) #[] #[.pointer (some ⟨w.heap.size + 1 + 1 + 1 + 1 + 1 + 1 + 1, 0, none⟩)], x.enc, undef, undef, undef, undef, undef, undef, undef, undef, undef, undef, undef, undef, undef, undef, undef, undef, undef, undef, undef, undef, undef, undef, undef, undef, undef, undef, undef, undef, undef, undef, undef], defers := [] }) ?assign ?body ?done ?stop
 case assign =>
  intro l x W K hK
  gi_wp2
  exact hK
 case body =>
  rintro l pre x W ⟨⟨hok, vl, va, hR⟩, hB⟩ hlt
  have hmx : Tryd.prog.follows .mixedOrders = true := by kernel_rfl
  have hta1 := ta_bad
  have hta2 := ta_ok
  have hta3 := ta_one
  have hmt := meth_ok
  have cl := hR.bl.cell
  have ca := hR.ba.cell
  cases x with
  | bad e a =>
   simp only [Fd.enc]
   gi_wp2
   have d2 := (hR.b2.alloc (.cells #[.int .i64 e, .int .i64 a] 101)).cell
   have g2 := (hR.b2.alloc (.cells #[.int .i64 e, .int .i64 a] 101)).frozen
   have d3 := (hR.b3.alloc (.cells #[.int .i64 e, .int .i64 a] 101)).cell
   have g3 := (hR.b3.alloc (.cells #[.int .i64 e, .int .i64 a] 101)).frozen
   have d4 := (hR.b4.alloc (.cells #[.int .i64 e, .int .i64 a] 101)).cell
   have g4 := (hR.b4.alloc (.cells #[.int .i64 e, .int .i64 a] 101)).frozen
   have n2 : ¬ W.heap.size = w.heap.size := by have := hR.b4.lt; omega
   have n3 : ¬ W.heap.size = w.heap.size + 1 := by have := hR.b4.lt; omega
   have n4 : ¬ W.heap.size = w.heap.size + 1 + 1 := by have := hR.b4.lt; omega
   gi_region_with_o (fail)
   all_goals gi_wp2
   all_goals exact bad_end e a _ hR.b2 hR.b3 hR.b4 hB _
  | ok k i u t z =>
   obtain ⟨i24, hi24, hz24, hs24, hb24⟩ := info_parts info24
   obtain ⟨i3, hi3, hz3, hs3, hb3⟩ := info_parts info3
   simp only [Fd.enc]
   gi_wp2
   obtain ⟨W1, hW1⟩ : ∃ W1 : World, W1 = W.alloc (.cells #[.int .i64 0, .int .i64 0] 101) := ⟨_, rfl⟩
   rw [← hW1]
   have hR1 : RB w.heap.size s vl va pre.length (cellsOf pre) (pre.length + 1) (.int .i64 0 :: pre.map fun x => .int .i64 x.to) W1 := by rw [hW1]; exact hR.kept (World.grownBy_alloc W _ none) (by simp)
   have hB1 : Below w.heap.size w W1 := by rw [hW1]; exact hB.alloc hB.size _
   have hk1 : KeepsOthers W W1 := by rw [hW1]; exact KeepsOthers.alloc _ _
   have hb1 : Below w.heap.size W W1 := by rw [hW1]; exact (Below.refl _ _).alloc hB.size _
   clear hW1
   have cl1 := hR1.bl.cell
   have ca1 := hR1.ba.cell
   have cl1a := (hR1.bl.alloc (.cells #[.int .i64 k, .int .i64 i, .int .u64 u, .string t] 24)).cell
   refine wpIn_mono (Q := fun e a w' => e = Exit.normal ∧ ∃ (u8 u9 u10 u11 u12 u13 u14 u15 u16 u17 u18 u19 u20 u21 u22 u23 u24 u25 u26 u27 u28 u29 u30 u31 u32 u33 u34 u35 u36 u37 u38 u39 u40 u41 u42 u43 u44 u45 : Value) (v' : Value) (w1 : World), a = { tmps := #[.string s, undef, .pointer (some ⟨w.heap.size, 0, none⟩), .pointer (some ⟨w.heap.size + 1, 0, none⟩), .pointer (some ⟨w.heap.size + 1 + 1, 0, none⟩), .pointer (some ⟨w.heap.size + 1 + 1 + 1 + 1 + 1, 0, none⟩), .pointer (some ⟨w.heap.size + 1 + 1 + 1 + 1 + 1 + 1, 0, none⟩), .iface 104 (.agg #[.int .i64 k, .int .i64 i, .int .u64 u, .string t, .int .i64 z]), u8, u9, u10, u11, u12, u13, u14, u15, u16, u17, u18, u19, u20, u21, u22, u23, u24, u25, u26, u27, u28, u29, u30, u31, u32, u33, u34, u35, u36, u37, u38, u39, u40, u41, u42, u43, u44, u45], defers := [] } ∧ w' = w1 ∧ RB w.heap.size s v' va (pre.length + 1) (cellsOf pre ++ [.int .i64 k, .int .i64 i, .int .u64 u, .string t]) (pre.length + 1) (.int .i64 0 :: pre.map fun x => .int .i64 x.to) w1 ∧ KeepsOthers W1 w1 ∧ Below w.heap.size W1 w1) ?_ ?_
   ·refine wpIn_region_any hmx ?_
    change wpAnyIn _ _ _ _ _ _ _ _ _ (World.drew _)
    refine wpAnyIn_ready (rs := [0, 1]) (by kernel_rfl) (by simp) ?_
    refine AllReadyIn.cons rfl (fun K hK => ?_) ?_
    ·go_simp
     refine hK _ _ ?_; clear hK K
     refine wpAnyIn_ready (rs := [1]) (by kernel_rfl) (by simp) ?_
     refine AllReadyIn.cons rfl (fun K hK => ?_) ?_
     ·go_simp
      refine hK _ _ ?_; clear hK K
      refine wpAnyIn_ready (rs := [2]) (by kernel_rfl) (by simp) ?_
      refine AllReadyIn.cons rfl (fun K hK => ?_) ?_
      ·go_simp
       refine hK _ _ ?_; clear hK K
       refine wpAnyIn_ready (rs := [3]) (by kernel_rfl) (by simp) ?_
       refine AllReadyIn.cons rfl (fun K hK => ?_) ?_
       ·refine stepIn_run (.agg #[.int .i64 k, .int .i64 i, .int .u64 u, .string t]) W1.drew rfl rfl (fun _ h => by cases h) (by kernel_rfl) ?_
        refine hK _ _ ?_; clear hK K
        refine wpAnyIn_ready (rs := [4]) (by kernel_rfl) (by simp) ?_
        refine AllReadyIn.cons rfl (fun K hK => ?_) ?_
        ·refine stepIn_run (.slice (some ⟨W1.heap.size, 0, none⟩) 1 1) (W1.alloc (.cells #[.int .i64 k, .int .i64 i, .int .u64 u, .string t] 24)).drew rfl rfl (fun _ h => by cases h) (by kernel_rfl) ?_
         refine hK _ _ ?_; clear hK K
         refine wpAnyIn_ready (rs := [5]) (by kernel_rfl) (by simp) ?_
         refine AllReadyIn.cons rfl (fun K hK => ?_) ?_
         ·refine stepIn_append_own _ rfl (.tmp 23) (.tmp 27) 38 rfl w.heap.size 24 i24 _ 4 40 Tryd.underlying38 hi24 hz24 hs24 hb24 rfl (by decide) vl pre.length (cellsOf pre) rfl (hR1.rl.alloc (.cells #[.int .i64 k, .int .i64 i, .int .u64 u, .string t] 24)) ⟨W1.heap.size, 0, none⟩ 1 1 [.int .i64 k, .int .i64 i, .int .u64 u, .string t] rfl rfl (four_new _ _ _ _ _ _) (by simp [Value.oneCell']) (by unfold maxLen; omega) (by omega) (by have := hB1.size; simp; omega) ?_
          intro v' w1 hown' hgrow
          obtain ⟨g', cap', rfl⟩ := ownsRow_succ hown'
          obtain ⟨hv1, hR2, hk2, hb2⟩ := hR1.step_l hB1.size hown' (grown_undrew hgrow)
          have hc1 := hv1.cell
          have hf1 := hv1.frozen
          refine hK _ _ ?_; clear hK K
          refine wpAnyIn_ready (rs := [6]) (by kernel_rfl) (by simp) ?_
          refine AllReadyIn.cons rfl (fun K hK => ?_) ?_
          ·go_simp
           refine hK _ _ ?_; clear hK K
           refine wpAnyIn_done (by kernel_rfl) ?_ _; exact ⟨rfl, _, _, _, _, _, _, _, _, _, _, _, _, _, _, _, _, _, _, _, _, _, _, _, _, _, _, _, _, _, _, _, _, _, _, _, _, _, _, _, _, rfl, rfl, hR2, hk2, hb2⟩
          exact AllReadyIn.nil
         exact AllReadyIn.nil
        exact AllReadyIn.nil
       exact AllReadyIn.nil
      exact AllReadyIn.nil
     exact AllReadyIn.nil
    refine AllReadyIn.cons rfl (fun K hK => ?_) ?_
    ·go_simp
     refine hK _ _ ?_; clear hK K
     refine wpAnyIn_ready (rs := [0, 2]) (by kernel_rfl) (by simp) ?_
     refine AllReadyIn.cons rfl (fun K hK => ?_) ?_
     ·go_simp
      refine hK _ _ ?_; clear hK K
      refine wpAnyIn_ready (rs := [2]) (by kernel_rfl) (by simp) ?_
      refine AllReadyIn.cons rfl (fun K hK => ?_) ?_
      ·go_simp
       refine hK _ _ ?_; clear hK K
       refine wpAnyIn_ready (rs := [3]) (by kernel_rfl) (by simp) ?_
       refine AllReadyIn.cons rfl (fun K hK => ?_) ?_
       ·refine stepIn_run (.agg #[.int .i64 k, .int .i64 i, .int .u64 u, .string t]) W1.drew rfl rfl (fun _ h => by cases h) (by kernel_rfl) ?_
        refine hK _ _ ?_; clear hK K
        refine wpAnyIn_ready (rs := [4]) (by kernel_rfl) (by simp) ?_
        refine AllReadyIn.cons rfl (fun K hK => ?_) ?_
        ·refine stepIn_run (.slice (some ⟨W1.heap.size, 0, none⟩) 1 1) (W1.alloc (.cells #[.int .i64 k, .int .i64 i, .int .u64 u, .string t] 24)).drew rfl rfl (fun _ h => by cases h) (by kernel_rfl) ?_
         refine hK _ _ ?_; clear hK K
         refine wpAnyIn_ready (rs := [5]) (by kernel_rfl) (by simp) ?_
         refine AllReadyIn.cons rfl (fun K hK => ?_) ?_
         ·refine stepIn_append_own _ rfl (.tmp 23) (.tmp 27) 38 rfl w.heap.size 24 i24 _ 4 40 Tryd.underlying38 hi24 hz24 hs24 hb24 rfl (by decide) vl pre.length (cellsOf pre) rfl (hR1.rl.alloc (.cells #[.int .i64 k, .int .i64 i, .int .u64 u, .string t] 24)) ⟨W1.heap.size, 0, none⟩ 1 1 [.int .i64 k, .int .i64 i, .int .u64 u, .string t] rfl rfl (four_new _ _ _ _ _ _) (by simp [Value.oneCell']) (by unfold maxLen; omega) (by omega) (by have := hB1.size; simp; omega) ?_
          intro v' w1 hown' hgrow
          obtain ⟨g', cap', rfl⟩ := ownsRow_succ hown'
          obtain ⟨hv1, hR2, hk2, hb2⟩ := hR1.step_l hB1.size hown' (grown_undrew hgrow)
          have hc1 := hv1.cell
          have hf1 := hv1.frozen
          refine hK _ _ ?_; clear hK K
          refine wpAnyIn_ready (rs := [6]) (by kernel_rfl) (by simp) ?_
          refine AllReadyIn.cons rfl (fun K hK => ?_) ?_
          ·go_simp
           refine hK _ _ ?_; clear hK K
           refine wpAnyIn_done (by kernel_rfl) ?_ _; exact ⟨rfl, _, _, _, _, _, _, _, _, _, _, _, _, _, _, _, _, _, _, _, _, _, _, _, _, _, _, _, _, _, _, _, _, _, _, _, _, _, _, _, _, rfl, rfl, hR2, hk2, hb2⟩
          exact AllReadyIn.nil
         exact AllReadyIn.nil
        exact AllReadyIn.nil
       exact AllReadyIn.nil
      exact AllReadyIn.nil
     refine AllReadyIn.cons rfl (fun K hK => ?_) ?_
     ·go_simp
      refine hK _ _ ?_; clear hK K
      refine wpAnyIn_ready (rs := [0, 3]) (by kernel_rfl) (by simp) ?_
      refine AllReadyIn.cons rfl (fun K hK => ?_) ?_
      ·go_simp
       refine hK _ _ ?_; clear hK K
       refine wpAnyIn_ready (rs := [3]) (by kernel_rfl) (by simp) ?_
       refine AllReadyIn.cons rfl (fun K hK => ?_) ?_
       ·refine stepIn_run (.agg #[.int .i64 k, .int .i64 i, .int .u64 u, .string t]) W1.drew rfl rfl (fun _ h => by cases h) (by kernel_rfl) ?_
        refine hK _ _ ?_; clear hK K
        refine wpAnyIn_ready (rs := [4]) (by kernel_rfl) (by simp) ?_
        refine AllReadyIn.cons rfl (fun K hK => ?_) ?_
        ·refine stepIn_run (.slice (some ⟨W1.heap.size, 0, none⟩) 1 1) (W1.alloc (.cells #[.int .i64 k, .int .i64 i, .int .u64 u, .string t] 24)).drew rfl rfl (fun _ h => by cases h) (by kernel_rfl) ?_
         refine hK _ _ ?_; clear hK K
         refine wpAnyIn_ready (rs := [5]) (by kernel_rfl) (by simp) ?_
         refine AllReadyIn.cons rfl (fun K hK => ?_) ?_
         ·refine stepIn_append_own _ rfl (.tmp 23) (.tmp 27) 38 rfl w.heap.size 24 i24 _ 4 40 Tryd.underlying38 hi24 hz24 hs24 hb24 rfl (by decide) vl pre.length (cellsOf pre) rfl (hR1.rl.alloc (.cells #[.int .i64 k, .int .i64 i, .int .u64 u, .string t] 24)) ⟨W1.heap.size, 0, none⟩ 1 1 [.int .i64 k, .int .i64 i, .int .u64 u, .string t] rfl rfl (four_new _ _ _ _ _ _) (by simp [Value.oneCell']) (by unfold maxLen; omega) (by omega) (by have := hB1.size; simp; omega) ?_
          intro v' w1 hown' hgrow
          obtain ⟨g', cap', rfl⟩ := ownsRow_succ hown'
          obtain ⟨hv1, hR2, hk2, hb2⟩ := hR1.step_l hB1.size hown' (grown_undrew hgrow)
          have hc1 := hv1.cell
          have hf1 := hv1.frozen
          refine hK _ _ ?_; clear hK K
          refine wpAnyIn_ready (rs := [6]) (by kernel_rfl) (by simp) ?_
          refine AllReadyIn.cons rfl (fun K hK => ?_) ?_
          ·go_simp
           refine hK _ _ ?_; clear hK K
           refine wpAnyIn_done (by kernel_rfl) ?_ _; exact ⟨rfl, _, _, _, _, _, _, _, _, _, _, _, _, _, _, _, _, _, _, _, _, _, _, _, _, _, _, _, _, _, _, _, _, _, _, _, _, _, _, _, _, rfl, rfl, hR2, hk2, hb2⟩
          exact AllReadyIn.nil
         exact AllReadyIn.nil
        exact AllReadyIn.nil
       exact AllReadyIn.nil
      refine AllReadyIn.cons rfl (fun K hK => ?_) ?_
      ·refine stepIn_run (.agg #[.int .i64 k, .int .i64 i, .int .u64 u, .string t]) W1.drew rfl rfl (fun _ h => by cases h) (by kernel_rfl) ?_
       refine hK _ _ ?_; clear hK K
       refine wpAnyIn_ready (rs := [0, 4]) (by kernel_rfl) (by simp) ?_
       refine AllReadyIn.cons rfl (fun K hK => ?_) ?_
       ·go_simp
        refine hK _ _ ?_; clear hK K
        refine wpAnyIn_ready (rs := [4]) (by kernel_rfl) (by simp) ?_
        refine AllReadyIn.cons rfl (fun K hK => ?_) ?_
        ·refine stepIn_run (.slice (some ⟨W1.heap.size, 0, none⟩) 1 1) (W1.alloc (.cells #[.int .i64 k, .int .i64 i, .int .u64 u, .string t] 24)).drew rfl rfl (fun _ h => by cases h) (by kernel_rfl) ?_
         refine hK _ _ ?_; clear hK K
         refine wpAnyIn_ready (rs := [5]) (by kernel_rfl) (by simp) ?_
         refine AllReadyIn.cons rfl (fun K hK => ?_) ?_
         ·refine stepIn_append_own _ rfl (.tmp 23) (.tmp 27) 38 rfl w.heap.size 24 i24 _ 4 40 Tryd.underlying38 hi24 hz24 hs24 hb24 rfl (by decide) vl pre.length (cellsOf pre) rfl (hR1.rl.alloc (.cells #[.int .i64 k, .int .i64 i, .int .u64 u, .string t] 24)) ⟨W1.heap.size, 0, none⟩ 1 1 [.int .i64 k, .int .i64 i, .int .u64 u, .string t] rfl rfl (four_new _ _ _ _ _ _) (by simp [Value.oneCell']) (by unfold maxLen; omega) (by omega) (by have := hB1.size; simp; omega) ?_
          intro v' w1 hown' hgrow
          obtain ⟨g', cap', rfl⟩ := ownsRow_succ hown'
          obtain ⟨hv1, hR2, hk2, hb2⟩ := hR1.step_l hB1.size hown' (grown_undrew hgrow)
          have hc1 := hv1.cell
          have hf1 := hv1.frozen
          refine hK _ _ ?_; clear hK K
          refine wpAnyIn_ready (rs := [6]) (by kernel_rfl) (by simp) ?_
          refine AllReadyIn.cons rfl (fun K hK => ?_) ?_
          ·go_simp
           refine hK _ _ ?_; clear hK K
           refine wpAnyIn_done (by kernel_rfl) ?_ _; exact ⟨rfl, _, _, _, _, _, _, _, _, _, _, _, _, _, _, _, _, _, _, _, _, _, _, _, _, _, _, _, _, _, _, _, _, _, _, _, _, _, _, _, _, rfl, rfl, hR2, hk2, hb2⟩
          exact AllReadyIn.nil
         exact AllReadyIn.nil
        exact AllReadyIn.nil
       refine AllReadyIn.cons rfl (fun K hK => ?_) ?_
       ·refine stepIn_run (.slice (some ⟨W1.heap.size, 0, none⟩) 1 1) (W1.alloc (.cells #[.int .i64 k, .int .i64 i, .int .u64 u, .string t] 24)).drew rfl rfl (fun _ h => by cases h) (by kernel_rfl) ?_
        refine hK _ _ ?_; clear hK K
        refine wpAnyIn_ready (rs := [0]) (by kernel_rfl) (by simp) ?_
        refine AllReadyIn.cons rfl (fun K hK => ?_) ?_
        ·go_simp
         refine hK _ _ ?_; clear hK K
         refine wpAnyIn_ready (rs := [5]) (by kernel_rfl) (by simp) ?_
         refine AllReadyIn.cons rfl (fun K hK => ?_) ?_
         ·refine stepIn_append_own _ rfl (.tmp 23) (.tmp 27) 38 rfl w.heap.size 24 i24 _ 4 40 Tryd.underlying38 hi24 hz24 hs24 hb24 rfl (by decide) vl pre.length (cellsOf pre) rfl (hR1.rl.alloc (.cells #[.int .i64 k, .int .i64 i, .int .u64 u, .string t] 24)) ⟨W1.heap.size, 0, none⟩ 1 1 [.int .i64 k, .int .i64 i, .int .u64 u, .string t] rfl rfl (four_new _ _ _ _ _ _) (by simp [Value.oneCell']) (by unfold maxLen; omega) (by omega) (by have := hB1.size; simp; omega) ?_
          intro v' w1 hown' hgrow
          obtain ⟨g', cap', rfl⟩ := ownsRow_succ hown'
          obtain ⟨hv1, hR2, hk2, hb2⟩ := hR1.step_l hB1.size hown' (grown_undrew hgrow)
          have hc1 := hv1.cell
          have hf1 := hv1.frozen
          refine hK _ _ ?_; clear hK K
          refine wpAnyIn_ready (rs := [6]) (by kernel_rfl) (by simp) ?_
          refine AllReadyIn.cons rfl (fun K hK => ?_) ?_
          ·go_simp
           refine hK _ _ ?_; clear hK K
           refine wpAnyIn_done (by kernel_rfl) ?_ _; exact ⟨rfl, _, _, _, _, _, _, _, _, _, _, _, _, _, _, _, _, _, _, _, _, _, _, _, _, _, _, _, _, _, _, _, _, _, _, _, _, _, _, _, _, rfl, rfl, hR2, hk2, hb2⟩
          exact AllReadyIn.nil
         exact AllReadyIn.nil
        exact AllReadyIn.nil
       exact AllReadyIn.nil
      exact AllReadyIn.nil
     exact AllReadyIn.nil
    exact AllReadyIn.nil
   rintro _ _ W2 ⟨rfl, u8, u9, u10, u11, u12, u13, u14, u15, u16, u17, u18, u19, u20, u21, u22, u23, u24, u25, u26, u27, u28, u29, u30, u31, u32, u33, u34, u35, u36, u37, u38, u39, u40, u41, u42, u43, u44, u45, v2, W2_, rfl, rfl, hR2, hk2, hb2⟩
   have hB2 := hB1.trans hb2
   have cl2 := hR2.bl.cell
   have ca2 := hR2.ba.cell
   have hB2n := hB2.size
   have cb2 := (hR2.ba.alloc (.cells #[.int .i64 k, .int .i64 i, .int .u64 u, .string t, .int .i64 z] 104)).cell
   have cc2 := ((hR2.ba.alloc (.cells #[.int .i64 k, .int .i64 i, .int .u64 u, .string t, .int .i64 z] 104)).alloc (.cells #[.int .i64 z] 3)).cell
   have hR2w := hR2.kept (World.grownBy_alloc W2 (.cells #[.int .i64 k, .int .i64 i, .int .u64 u, .string t, .int .i64 z] 104) none) (by simp)
   gi_wp2
   refine wpIn_region_any hmx ?_
   change wpAnyIn _ _ _ _ _ _ _ _ _ (World.drew _)
   refine wpAnyIn_ready (rs := [0, 1]) (by kernel_rfl) (by simp) ?_
   refine AllReadyIn.cons rfl (fun K hK => ?_) ?_
   ·go_simp
    refine hK _ _ ?_; clear hK K
    refine wpAnyIn_ready (rs := [1]) (by kernel_rfl) (by simp) ?_
    refine AllReadyIn.cons rfl (fun K hK => ?_) ?_
    ·go_simp
     refine hK _ _ ?_; clear hK K
     refine wpAnyIn_ready (rs := [2]) (by kernel_rfl) (by simp) ?_
     refine AllReadyIn.cons rfl (fun K hK => ?_) ?_
     ·go_simp
      refine ⟨trivial, ?_⟩
      refine (CallsIn.inRound l (callsIn_wide.2 (where_calls k i u t z _))).mono ?_
      rintro e w' ⟨rfl, rfl⟩
      refine hK _ _ ?_; clear hK K
      refine wpAnyIn_ready (rs := [3]) (by kernel_rfl) (by simp) ?_
      refine AllReadyIn.cons rfl (fun K hK => ?_) ?_
      ·go_simp
       refine hK _ _ ?_; clear hK K
       refine wpAnyIn_ready (rs := [4]) (by kernel_rfl) (by simp) ?_
       refine AllReadyIn.cons rfl (fun K hK => ?_) ?_
       ·refine stepIn_append_own _ rfl (.tmp 29) (.tmp 32) 81 rfl w.heap.size 3 i3 _ 1 8 Tryd.underlying81 hi3 hz3 hs3 hb3 rfl (by decide) va (pre.length + 1) _ rfl (hR2w.ra.alloc (.cells #[.int .i64 z] 3)) ⟨W2.heap.size + 1, 0, none⟩ 1 1 [.int .i64 z] rfl rfl (cell_one_next _ _ _ _) (by simp [Value.oneCell']) (by unfold maxLen; omega) (by omega) (by simp; omega) ?_
        intro v' w1 hown' hgrow
        obtain ⟨g', cap', rfl⟩ := ownsRow_succ hown'
        obtain ⟨hv1, hR3, hk3, hb3'⟩ := hR2w.step_a (by simp; omega) hown' (grown_undrew hgrow)
        have hc1 := hv1.cell
        have hf1 := hv1.frozen
        refine hK _ _ ?_; clear hK K
        refine wpAnyIn_ready (rs := [5]) (by kernel_rfl) (by simp) ?_
        refine AllReadyIn.cons rfl (fun K hK => ?_) ?_
        ·go_simp
         refine hK _ _ ?_; clear hK K
         refine wpAnyIn_done (by kernel_rfl) ?_ _; exact ok_end hok hk1 hk2 hk3 hB2.size hB2 hb3' hR hR3
        exact AllReadyIn.nil
       exact AllReadyIn.nil
      exact AllReadyIn.nil
     exact AllReadyIn.nil
    exact AllReadyIn.nil
   refine AllReadyIn.cons rfl (fun K hK => ?_) ?_
   ·go_simp
    refine hK _ _ ?_; clear hK K
    refine wpAnyIn_ready (rs := [0, 2]) (by kernel_rfl) (by simp) ?_
    refine AllReadyIn.cons rfl (fun K hK => ?_) ?_
    ·go_simp
     refine hK _ _ ?_; clear hK K
     refine wpAnyIn_ready (rs := [2]) (by kernel_rfl) (by simp) ?_
     refine AllReadyIn.cons rfl (fun K hK => ?_) ?_
     ·go_simp
      refine ⟨trivial, ?_⟩
      refine (CallsIn.inRound l (callsIn_wide.2 (where_calls k i u t z _))).mono ?_
      rintro e w' ⟨rfl, rfl⟩
      refine hK _ _ ?_; clear hK K
      refine wpAnyIn_ready (rs := [3]) (by kernel_rfl) (by simp) ?_
      refine AllReadyIn.cons rfl (fun K hK => ?_) ?_
      ·go_simp
       refine hK _ _ ?_; clear hK K
       refine wpAnyIn_ready (rs := [4]) (by kernel_rfl) (by simp) ?_
       refine AllReadyIn.cons rfl (fun K hK => ?_) ?_
       ·refine stepIn_append_own _ rfl (.tmp 29) (.tmp 32) 81 rfl w.heap.size 3 i3 _ 1 8 Tryd.underlying81 hi3 hz3 hs3 hb3 rfl (by decide) va (pre.length + 1) _ rfl (hR2w.ra.alloc (.cells #[.int .i64 z] 3)) ⟨W2.heap.size + 1, 0, none⟩ 1 1 [.int .i64 z] rfl rfl (cell_one_next _ _ _ _) (by simp [Value.oneCell']) (by unfold maxLen; omega) (by omega) (by simp; omega) ?_
        intro v' w1 hown' hgrow
        obtain ⟨g', cap', rfl⟩ := ownsRow_succ hown'
        obtain ⟨hv1, hR3, hk3, hb3'⟩ := hR2w.step_a (by simp; omega) hown' (grown_undrew hgrow)
        have hc1 := hv1.cell
        have hf1 := hv1.frozen
        refine hK _ _ ?_; clear hK K
        refine wpAnyIn_ready (rs := [5]) (by kernel_rfl) (by simp) ?_
        refine AllReadyIn.cons rfl (fun K hK => ?_) ?_
        ·go_simp
         refine hK _ _ ?_; clear hK K
         refine wpAnyIn_done (by kernel_rfl) ?_ _; exact ok_end hok hk1 hk2 hk3 hB2.size hB2 hb3' hR hR3
        exact AllReadyIn.nil
       exact AllReadyIn.nil
      exact AllReadyIn.nil
     exact AllReadyIn.nil
    refine AllReadyIn.cons rfl (fun K hK => ?_) ?_
    ·go_simp
     refine ⟨trivial, ?_⟩
     refine (CallsIn.inRound l (callsIn_wide.2 (where_calls k i u t z _))).mono ?_
     rintro e w' ⟨rfl, rfl⟩
     refine hK _ _ ?_; clear hK K
     refine wpAnyIn_ready (rs := [0, 3]) (by kernel_rfl) (by simp) ?_
     refine AllReadyIn.cons rfl (fun K hK => ?_) ?_
     ·go_simp
      refine hK _ _ ?_; clear hK K
      refine wpAnyIn_ready (rs := [3]) (by kernel_rfl) (by simp) ?_
      refine AllReadyIn.cons rfl (fun K hK => ?_) ?_
      ·go_simp
       refine hK _ _ ?_; clear hK K
       refine wpAnyIn_ready (rs := [4]) (by kernel_rfl) (by simp) ?_
       refine AllReadyIn.cons rfl (fun K hK => ?_) ?_
       ·refine stepIn_append_own _ rfl (.tmp 29) (.tmp 32) 81 rfl w.heap.size 3 i3 _ 1 8 Tryd.underlying81 hi3 hz3 hs3 hb3 rfl (by decide) va (pre.length + 1) _ rfl (hR2w.ra.alloc (.cells #[.int .i64 z] 3)) ⟨W2.heap.size + 1, 0, none⟩ 1 1 [.int .i64 z] rfl rfl (cell_one_next _ _ _ _) (by simp [Value.oneCell']) (by unfold maxLen; omega) (by omega) (by simp; omega) ?_
        intro v' w1 hown' hgrow
        obtain ⟨g', cap', rfl⟩ := ownsRow_succ hown'
        obtain ⟨hv1, hR3, hk3, hb3'⟩ := hR2w.step_a (by simp; omega) hown' (grown_undrew hgrow)
        have hc1 := hv1.cell
        have hf1 := hv1.frozen
        refine hK _ _ ?_; clear hK K
        refine wpAnyIn_ready (rs := [5]) (by kernel_rfl) (by simp) ?_
        refine AllReadyIn.cons rfl (fun K hK => ?_) ?_
        ·go_simp
         refine hK _ _ ?_; clear hK K
         refine wpAnyIn_done (by kernel_rfl) ?_ _; exact ok_end hok hk1 hk2 hk3 hB2.size hB2 hb3' hR hR3
        exact AllReadyIn.nil
       exact AllReadyIn.nil
      exact AllReadyIn.nil
     refine AllReadyIn.cons rfl (fun K hK => ?_) ?_
     ·go_simp
      refine hK _ _ ?_; clear hK K
      refine wpAnyIn_ready (rs := [0]) (by kernel_rfl) (by simp) ?_
      refine AllReadyIn.cons rfl (fun K hK => ?_) ?_
      ·go_simp
       refine hK _ _ ?_; clear hK K
       refine wpAnyIn_ready (rs := [4]) (by kernel_rfl) (by simp) ?_
       refine AllReadyIn.cons rfl (fun K hK => ?_) ?_
       ·refine stepIn_append_own _ rfl (.tmp 29) (.tmp 32) 81 rfl w.heap.size 3 i3 _ 1 8 Tryd.underlying81 hi3 hz3 hs3 hb3 rfl (by decide) va (pre.length + 1) _ rfl (hR2w.ra.alloc (.cells #[.int .i64 z] 3)) ⟨W2.heap.size + 1, 0, none⟩ 1 1 [.int .i64 z] rfl rfl (cell_one_next _ _ _ _) (by simp [Value.oneCell']) (by unfold maxLen; omega) (by omega) (by simp; omega) ?_
        intro v' w1 hown' hgrow
        obtain ⟨g', cap', rfl⟩ := ownsRow_succ hown'
        obtain ⟨hv1, hR3, hk3, hb3'⟩ := hR2w.step_a (by simp; omega) hown' (grown_undrew hgrow)
        have hc1 := hv1.cell
        have hf1 := hv1.frozen
        refine hK _ _ ?_; clear hK K
        refine wpAnyIn_ready (rs := [5]) (by kernel_rfl) (by simp) ?_
        refine AllReadyIn.cons rfl (fun K hK => ?_) ?_
        ·go_simp
         refine hK _ _ ?_; clear hK K
         refine wpAnyIn_done (by kernel_rfl) ?_ _; exact ok_end hok hk1 hk2 hk3 hB2.size hB2 hb3' hR hR3
        exact AllReadyIn.nil
       exact AllReadyIn.nil
      exact AllReadyIn.nil
     exact AllReadyIn.nil
    exact AllReadyIn.nil
   exact AllReadyIn.nil
 case done =>
  rintro D ys W hD rfl ⟨⟨hok, vl, va, hR⟩, hB⟩ hK
  obtain ⟨A, cA, rfl⟩ : ∃ A c, vl = .slice A ys.length c := by
   rcases hR.rl.2 with ⟨h, h0⟩ | ⟨g, cap, cur, h, _⟩
   ·exact ⟨none, 0, by rw [h, h0]⟩
   ·exact ⟨_, _, h⟩
  have hra := hR.ra
  obtain ⟨g, cap, rfl⟩ := ownsRow_succ hra
  have hcl := hra.cellAt ys.length (by omega)
  rw [places_last] at hcl
  have hta := hR.ba.cell
  have htl := hR.bl.cell
  have hmx : Tryd.prog.follows .mixedOrders = true := by kernel_rfl
  obtain ⟨hl0, hl1⟩ := lastTo_bounds (it_bounds s kk 0 ys (Int.le_refl _) (by omega) hxs).2
  have hmn : (ys.length : Int) ≤ 1000000 := by omega
  have c2 := hR.b2.cell
  have c3 := hR.b3.cell
  have c4 := hR.b4.cell
  have f2 := hR.b2.frozen
  have f3 := hR.b3.frozen
  have f4 := hR.b4.frozen
  by_cases hq : lastTo ys = (s.size : Int) - 1
  ·have hq1 : (lastTo ys != (s.size : Int) - 1) = false := bne_eq_false_iff_eq.mpr hq
   gi_wp2
   gi_region_with_o (fail)
   all_goals gi_wp2
   all_goals
    obtain ⟨k2, k3, k4, ko, kb, kl, ka⟩ := hR.fin (x := .slice A ys.length cA) (y := .slice (some ⟨g, 0, none⟩) (ys.length + 1) cap) (z := .int .i64 0)
    generalize ((W.setCell ⟨w.heap.size, 0, none⟩ (.slice A ys.length cA)).setCell ⟨w.heap.size + 1, 0, none⟩ (.slice (some ⟨g, 0, none⟩) (ys.length + 1) cap)).setCell ⟨w.heap.size + 1 + 1, 0, none⟩ (.int .i64 0) = W' at *
    have hK' : W'.drew.heap[D]? = some (.deferred (some [])) := ko.same D _ hK rfl
    refine ⟨by simp, .inl ⟨_, _, rfl, run_takeDeferred hK', ?_⟩⟩
    have c2 := cell_kept (W := W'.drew) k2.cell (grownBy_putObj' _ D (.deferred none)) (fun r e => by cases e; exact ⟨_, hK', rfl⟩)
    have c3 := cell_kept (W := W'.drew) k3.cell (grownBy_putObj' _ D (.deferred none)) (fun r e => by cases e; exact ⟨_, hK', rfl⟩)
    have c4 := cell_kept (W := W'.drew) k4.cell (grownBy_putObj' _ D (.deferred none)) (fun r e => by cases e; exact ⟨_, hK', rfl⟩)
    refine ⟨.tuple #[.slice A ys.length cA, .slice (some ⟨g, 0, none⟩) (ys.length + 1) cap, .int .i64 0], ?_, ?_⟩
    ·simp [results, Tryd.f52, go_sem, c2, c3, c4]
    ·rw [read_ok s hok, if_pos hq]
     exact ⟨_, _, rfl, R_cols (ownsRow_putObj (W := W'.drew) kl _ hK' rfl) rfl hok, R_ints (ownsRow_putObj (W := W'.drew) ka _ hK' rfl) (by simp) (by simp), (hB.trans kb.drew).trans (belowK_b (w := w) (Nat.le_refl _) W'.drew D _ _ (by omega) hK' rfl rfl)⟩
  ·have hq1 : (lastTo ys != (s.size : Int) - 1) = true := bne_iff_ne.mpr hq
   gi_wp2
   obtain ⟨k2, k3, k4, ko, kb, kl, ka⟩ := hR.fin (x := .slice none 0 0) (y := .slice none 0 0) (z := .int .i64 3)
   generalize ((W.setCell ⟨w.heap.size, 0, none⟩ (.slice none 0 0)).setCell ⟨w.heap.size + 1, 0, none⟩ (.slice none 0 0)).setCell ⟨w.heap.size + 1 + 1, 0, none⟩ (.int .i64 3) = W' at *
   have hK' := ko.same D _ hK rfl
   refine ⟨by simp, .inl ⟨_, _, rfl, run_takeDeferred hK', ?_⟩⟩
   have c2 := cell_kept k2.cell (grownBy_putObj' _ D (.deferred none)) (fun r e => by cases e; exact ⟨_, hK', rfl⟩)
   have c3 := cell_kept k3.cell (grownBy_putObj' _ D (.deferred none)) (fun r e => by cases e; exact ⟨_, hK', rfl⟩)
   have c4 := cell_kept k4.cell (grownBy_putObj' _ D (.deferred none)) (fun r e => by cases e; exact ⟨_, hK', rfl⟩)
   refine ⟨.tuple #[.slice none 0 0, .slice none 0 0, .int .i64 3], ?_, ?_⟩
   ·simp [results, Tryd.f52, go_sem, c2, c3, c4]
   ·rw [read_ok s hok, if_neg hq]
    exact ⟨_, _, rfl, Kd.R_nil _ _ _ _ _, Kd.R_nil _ _ _ _ _, (hB.trans kb).trans (belowK_b (w := w) (Nat.le_refl _) W' D _ _ (by omega) hK' rfl rfl)⟩
 case stop =>
  rintro D c pre W hD hpre ⟨⟨rfl, e, a, hl, h2, h3, h4⟩, hB⟩ hK
  gi_wp2
  refine ⟨by simp, .inl ⟨_, _, rfl, run_takeDeferred hK, ?_⟩⟩
  have c2 := cell_kept h2.cell (grownBy_putObj' _ D (.deferred none)) (fun r e => by cases e; exact ⟨_, hK, rfl⟩)
  have c3 := cell_kept h3.cell (grownBy_putObj' _ D (.deferred none)) (fun r e => by cases e; exact ⟨_, hK, rfl⟩)
  have c4 := cell_kept h4.cell (grownBy_putObj' _ D (.deferred none)) (fun r e => by cases e; exact ⟨_, hK, rfl⟩)
  refine ⟨.tuple #[.slice none 0 0, .slice none 0 0, .int .i64 e], ?_, ?_⟩
  ·simp [results, Tryd.f52, go_sem, c2, c3, c4]
  ·obtain rfl := it_last s kk 0 xs hxs pre e a hpre hl
   rw [read_bad s hl]
   exact ⟨_, _, rfl, Kd.R_nil _ _ _ _ _, Kd.R_nil _ _ _ _ _, hB.trans (belowK_b (w := w) (Nat.le_refl _) W D _ _ (by omega) hK rfl rfl)⟩
end Go.Proofs.YtimnjdgelencpaaDoor.A
