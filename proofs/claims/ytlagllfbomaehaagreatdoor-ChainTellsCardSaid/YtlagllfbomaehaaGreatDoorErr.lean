/- head.fault, head.may, head.number: which error's number a page that can't be is told by. No condition but the sizes of what is read. -/
import Derived.Test.YtlagllfbomaehaaGreatDoorSmall
import Derived.WalkKit
import Derived.LaidEql
import Derived.Stop.Asserts
import Derived.RowKitTokens
import Derived.Laws.AppendOwn
import Derived.Laws.OwnMore
namespace Go.Proofs.YtlagllfbomaehaaGreatDoor.Hand
open Go.RowKit Go.Proofs Go.Extern.Stop Go.Stop Go.Extern Go.Proofs.YtlagllfbomaehaaGreatDoorW
theorem new_any (s : ByteArray) (w : World) : Calls Tryz.prog 66 #[.string s] w fun e w' => e = .returned (.iface 137 (.pointer (some ⟨w.heap.size, 0, none⟩))) ∧ w' = w.alloc (.cells #[.string s] 139) := by
  go_enter Tryz.func66, Tryz.ntmps66
  go_wp2
  go_ret
  exact ⟨rfl, rfl⟩
theorem mk_two (w : World) : (Instr.makeSlice 132 (.int .i64 0) (.int .i64 2)).run Tryz.prog w = .ok (.slice (some ⟨w.heap.size, 0, none⟩) 0 2) (w.alloc (.cells #[.nilIface, .nilIface] 63)) := by kernel_rfl
set_option maxHeartbeats 4000000 in
set_option maxRecDepth 100000 in
theorem join_any (b : Nat) (x y : Value) (w : World) (tx ty : TypeId) (h0 : w.cell? ⟨b, 0, none⟩ = some (.iface tx x)) (h1 : w.cell? ⟨b, 1, none⟩ = some (.iface ty y)) (hlt : b < w.heap.size) :
    Calls Tryz.prog 65 #[.slice (some ⟨b, 0, none⟩) 2 2] w fun e w' => e = .returned (.iface 134 (.pointer (some ⟨w.heap.size + 1, 0, none⟩))) ∧ w' = (((w.alloc (.cells #[.iface tx x, .iface ty y] 63)).alloc (.cells #[.slice (some ⟨w.heap.size, 0, none⟩) 2 2] 136)).alloc (.cells #[.iface tx x] 63)).alloc (.cells #[.iface ty y] 63) := by
  have hmk := mk_two
  have hlt1 : b < w.heap.size + 1 := by omega
  have hlt2 : b < w.heap.size + 1 + 1 := by omega
  have hlt3 : b < w.heap.size + 1 + 1 + 1 := by omega
  go_enter Tryz.func65, Tryz.ntmps65
  go_wp2
  refine wp_loop_rounds 3 ?_
  rw [rounds_succ]
  go_wp2
  rw [rounds_succ]
  go_wp2
  rw [rounds_succ]
  go_wp2
  refine wp_loop_rounds 3 ?_
  rw [rounds_succ]
  go_wp2
  rw [rounds_succ]
  go_wp2
  rw [rounds_succ]
  go_wp2
  go_ret
  exact ⟨rfl, rfl⟩
def IsFault (w : World) (v : Value) (e : Int) : Prop := ∃ s r j : Nat, v = .iface 134 (.pointer (some ⟨j, 0, none⟩)) ∧ w.heap[j]? = some (.cells #[.slice (some ⟨r, 0, none⟩) 2 2] 136 (0, 0)) ∧
  w.heap[r]? = some (.cells #[.iface 137 (.pointer (some ⟨s, 0, none⟩)), .iface 27 (.int .i64 e)] 63 (0, 0))
theorem fault_any (c : Int) (s : ByteArray) (w : World) : Calls Tryz.prog 49 #[.int .i64 c, .string s] w fun e w' => (∃ v, e = .returned v ∧ IsFault w' v c) ∧ Below w.heap.size w w' := by
  go_enter Tryz.func49, Tryz.ntmps49
  go_wp2_with (first
    | (go_at_call 66; refine (new_any _ _).mono ?_; rintro e w' ⟨rfl, rfl⟩)
    | (go_at_call 65; refine (join_any (w.heap.size + 1) (.pointer (some ⟨w.heap.size, 0, none⟩)) (.int .i64 c) _ 137 27 ?_ ?_ ?_).mono ?_))
  case refine_1 => go_simp
  case refine_2 => go_simp
  case refine_3 => simp
  rintro e w' ⟨rfl, rfl⟩
  go_wp2
  go_ret
  refine ⟨⟨_, rfl, w.heap.size, w.heap.size + 1 + 1, w.heap.size + 1 + 1 + 1, rfl, ?_, ?_⟩, ?_⟩
  case refine_3 => exact ((((((Below.refl _ w).alloc (Nat.le_refl _) _).alloc (by simp) _).alloc (by simp; omega) _).alloc (by simp; omega) _).alloc (by simp; omega) _).alloc (by simp; omega) _
  all_goals show ((((((w.heap.push _).push _).push _).push _).push _).push _)[_]? = _; simp only [Array.getElem?_push, Array.size_push]; repeat (first | simp only [if_true] | rw [if_pos (by omega)] | rw [if_neg (by omega)])
theorem run_equalIn_iface_int {P : Program} (w : World) (d : Nat) {ti tn : TypeId} {ms : Array (String × TypeId)} {i : TypeInfo} {k : IntKind} (a b : Int)
    (hi : P.underlying ti = some (.interface ms)) (hn : P.underlying tn = some (.int k)) (hinfo : P.info? tn = some i) (hcomp : i.comparable = true) :
    (Op.equalIn (d + 2) ti (.iface tn (.int k a)) (.iface tn (.int k b))).run P w = .ok (a == b) w := by
  simp [Op.equalIn, run_underlying hi, run_underlying hn, typeInfo, hinfo, hcomp]
theorem run_eql_iface_int {P : Program} (w : World) {ti tn : TypeId} {ms : Array (String × TypeId)} {i : TypeInfo} {k : IntKind} (a b : Int)
    (hi : P.underlying ti = some (.interface ms)) (hn : P.underlying tn = some (.int k)) (hinfo : P.info? tn = some i) (hcomp : i.comparable = true) :
    (binOp .eql ti (.iface tn (.int k a)) (.iface tn (.int k b))).run P w = .ok (.bool (a == b)) w := by
  simp only [binOp]
  simp [Op.equal, Op.maxDepth, run_equalIn_iface_int w 9998 a b hi hn hinfo hcomp]
theorem errnoComp : (Tryz.prog.info? 27).map (·.comparable) = some true := by kernel_rfl
theorem noIs (v : Value) (xT : TypeId) (w : World) : (Instr.typeAssert (.iface 27 v) xT 126 true).run Tryz.prog w = .ok (.tuple #[.nilIface, .bool false]) w := run_typeAssert_lacksB Tryz.underlying126 (by kernel_rfl) (by kernel_rfl) v xT w
theorem noUnwrap (v : Value) (xT : TypeId) (w : World) : (Instr.typeAssert (.iface 27 v) xT 129 true).run Tryz.prog w = .ok (.tuple #[.nilIface, .bool false]) w := run_typeAssert_lacksB Tryz.underlying129 (by kernel_rfl) (by kernel_rfl) v xT w
theorem noUnwraps (v : Value) (xT : TypeId) (w : World) : (Instr.typeAssert (.iface 27 v) xT 131 true).run Tryz.prog w = .ok (.tuple #[.nilIface, .bool false]) w := run_typeAssert_lacksB Tryz.underlying131 (by kernel_rfl) (by kernel_rfl) v xT w
theorem noIsE (v : Value) (xT : TypeId) (w : World) : (Instr.typeAssert (.iface 137 v) xT 126 true).run Tryz.prog w = .ok (.tuple #[.nilIface, .bool false]) w := run_typeAssert_lacksB Tryz.underlying126 (by kernel_rfl) (by kernel_rfl) v xT w
theorem noUnwrapE (v : Value) (xT : TypeId) (w : World) : (Instr.typeAssert (.iface 137 v) xT 129 true).run Tryz.prog w = .ok (.tuple #[.nilIface, .bool false]) w := run_typeAssert_lacksB Tryz.underlying129 (by kernel_rfl) (by kernel_rfl) v xT w
theorem noUnwrapsE (v : Value) (xT : TypeId) (w : World) : (Instr.typeAssert (.iface 137 v) xT 131 true).run Tryz.prog w = .ok (.tuple #[.nilIface, .bool false]) w := run_typeAssert_lacksB Tryz.underlying131 (by kernel_rfl) (by kernel_rfl) v xT w
theorem noIsJ (v : Value) (xT : TypeId) (w : World) : (Instr.typeAssert (.iface 134 v) xT 126 true).run Tryz.prog w = .ok (.tuple #[.nilIface, .bool false]) w := run_typeAssert_lacksB Tryz.underlying126 (by kernel_rfl) (by kernel_rfl) v xT w
theorem noUnwrapJ (v : Value) (xT : TypeId) (w : World) : (Instr.typeAssert (.iface 134 v) xT 129 true).run Tryz.prog w = .ok (.tuple #[.nilIface, .bool false]) w := run_typeAssert_lacksB Tryz.underlying129 (by kernel_rfl) (by kernel_rfl) v xT w
theorem hasUnwrapsJ (v : Value) (xT : TypeId) (w : World) : (Instr.typeAssert (.iface 134 v) xT 131 true).run Tryz.prog w = .ok (.tuple #[.iface 134 v, .bool true]) w := run_typeAssert_hasB Tryz.underlying131 (by kernel_rfl) v xT w
set_option maxHeartbeats 1000000 in
theorem is_errno (a b : Int) (w : World) : Calls Tryz.prog 64 #[.iface 27 (.int .i64 a), .iface 27 (.int .i64 b), .bool true] w fun e w' => e = .returned (.bool (a == b)) ∧ w' = w := by
  obtain ⟨i, hi, hcmp⟩ := Option.map_eq_some_iff.1 errnoComp
  have heq := run_eql_iface_int (P := Tryz.prog) w (ti := 63) (tn := 27) a b Tryz.underlying63 Tryz.underlying27 hi hcmp
  have n1 := noIs
  have n2 := noUnwrap
  have n3 := noUnwraps
  by_cases hab : a = b
  · subst hab
    have hb : (a == a) = true := beq_self_eq_true a
    rw [hb] at heq
    go_enter Tryz.func64, Tryz.ntmps64
    go_wp2_with fail
    refine wp_loop_rounds 1 ?_
    rw [rounds_succ]
    go_wp2_with fail
    go_ret
    exact ⟨by rw [hb]; rfl, rfl⟩
  · have hb : (a == b) = false := beq_eq_false_iff_ne.mpr hab
    rw [hb] at heq
    go_enter Tryz.func64, Tryz.ntmps64
    go_wp2_with fail
    refine wp_loop_rounds 1 ?_
    rw [rounds_succ]
    go_wp2_with fail
    go_ret
    exact ⟨by rw [hb]; rfl, rfl⟩
set_option maxHeartbeats 1000000 in
theorem is_str (s : Nat) (b : Int) (w : World) : Calls Tryz.prog 64 #[.iface 137 (.pointer (some ⟨s, 0, none⟩)), .iface 27 (.int .i64 b), .bool true] w fun e w' => e = .returned (.bool false) ∧ w' = w := by
  have heq := run_eql_iface_types (P := Tryz.prog) 137 27 (.pointer (some ⟨s, 0, none⟩)) (.int .i64 b) Tryz.underlying63 (by decide) w
  have n1 := noIsE
  have n2 := noUnwrapE
  have n3 := noUnwrapsE
  go_enter Tryz.func64, Tryz.ntmps64
  go_wp2_with fail
  refine wp_loop_rounds 1 ?_
  rw [rounds_succ]
  go_wp2_with fail
  go_ret
  exact ⟨rfl, rfl⟩
theorem unwrap_any (j : Nat) (v : Value) (w : World) (h : w.cell? ⟨j, 0, none⟩ = some v) : Calls Tryz.prog 118 #[.pointer (some ⟨j, 0, none⟩)] w fun e w' => e = .returned v ∧ w' = w := by
  go_enter Tryz.func118, Tryz.ntmps118
  go_wp2
  go_ret
  exact ⟨rfl, rfl⟩
theorem methUnwrap (v : Value) (w : World) : (method 281 134 v "Unwrap").run Tryz.prog w = .ok (118, v) w := by kernel_rfl
set_option maxHeartbeats 4000000 in
set_option maxRecDepth 100000 in
theorem is_join (v : Value) (a b : Int) (w : World) (hv : IsFault w v a) : Calls Tryz.prog 64 #[v, .iface 27 (.int .i64 b), .bool true] w fun e w' => e = .returned (.bool (a == b)) ∧ w' = w := by
  obtain ⟨s, r, j, rfl, hj, hr⟩ := hv
  have hc0 : w.cell? ⟨j, 0, none⟩ = some (.slice (some ⟨r, 0, none⟩) 2 2) := PrintWords.blk_cell hj 0
  have hc1 : w.cell? ⟨r, 0, none⟩ = some (.iface 137 (.pointer (some ⟨s, 0, none⟩))) := PrintWords.blk_cell hr 0
  have hc2 : w.cell? ⟨r, 1, none⟩ = some (.iface 27 (.int .i64 a)) := PrintWords.blk_cell hr 1
  clear hj hr
  have heq := run_eql_iface_types (P := Tryz.prog) 134 27 (.pointer (some ⟨j, 0, none⟩)) (.int .i64 b) Tryz.underlying63 (by decide) w
  have n1 := noIsJ
  have n2 := noUnwrapJ
  have n3 := hasUnwrapsJ
  have n4 := methUnwrap
  go_enter Tryz.func64, Tryz.ntmps64
  go_wp2_with fail
  refine wp_loop_rounds 1 ?_
  rw [rounds_succ]
  go_wp2_with (go_at_call 118; refine (unwrap_any _ _ _ hc0).mono ?_; rintro e w' ⟨rfl, rfl⟩)
  refine wp_loop_rounds 3 ?_
  rw [rounds_succ]
  go_wp2_with fail
  refine (is_str s b _).mono ?_
  rintro e w' ⟨rfl, rfl⟩
  go_wp2_with fail
  rw [rounds_succ]
  go_wp2_with fail
  refine (is_errno a b _).mono ?_
  rintro e w' ⟨rfl, rfl⟩
  by_cases hab : a = b
  · have hb : (a == b) = true := by subst hab; exact beq_self_eq_true a
    rw [hb]
    go_wp2_with fail
    go_ret
    exact ⟨by rw [hb]; rfl, rfl⟩
  · have hb : (a == b) = false := beq_eq_false_iff_ne.mpr hab
    rw [hb]
    go_wp2_with fail
    rw [rounds_succ]
    go_wp2_with fail
    go_ret
    exact ⟨by rw [hb]; rfl, rfl⟩
theorem typeOfB (v : Value) (w : World) : (Extern.ReflectliteType.typeOf #[.iface 27 v]).run Tryz.prog w = .ok (.iface 124 (.agg #[.pointer (some ⟨3, 27, none⟩)])) w := by kernel_rfl
def comparableX : Array Value → Sem Value := Extern.ReflectliteType.method fun t => do Extern.Rtype.noPackHeld "Comparable" t; pure (.bool (← typeInfo t).comparable)
theorem comparableB (w : World) : (comparableX #[.agg #[.pointer (some ⟨3, 27, none⟩)]]).run Tryz.prog w = .ok (.bool true) w := by kernel_rfl
theorem methComparable (v : Value) (w : World) : (method 281 124 v "Comparable").run Tryz.prog w = .ok (108, v) w := by kernel_rfl
theorem Is_nil (b : Int) (w : World) : Calls Tryz.prog 48 #[.nilIface, .iface 27 (.int .i64 b)] w fun e w' => e = .returned (.bool false) ∧ w' = w := by
  have hn := run_eql_iface_nil_left (P := Tryz.prog) w 27 (.int .i64 b) Tryz.underlying63
  go_enter Tryz.func48, Tryz.ntmps48
  go_wp2_with fail
  go_ret
  exact ⟨rfl, rfl⟩
set_option maxHeartbeats 4000000 in
theorem Is_fault (v : Value) (a b : Int) (w : World) (hv : IsFault w v a) : Calls Tryz.prog 48 #[v, .iface 27 (.int .i64 b)] w fun e w' => e = .returned (.bool (a == b)) ∧ w' = w := by
  have HV := Lib.hid hv
  obtain ⟨s, r, j, rfl, _, _⟩ := hv
  have h8 := @run_callFunc_extern Tryz.prog 63 _ Extern.ReflectliteType.typeOf Tryz.func63 (by kernel_rfl) (by kernel_rfl) (by kernel_rfl) (by kernel_rfl)
  have h32 := @run_callFunc_extern Tryz.prog 108 _ comparableX Tryz.func108 (by kernel_rfl) (by kernel_rfl) (by kernel_rfl) (by kernel_rfl)
  have tT := typeOfB
  have cT := comparableB
  have mR := methComparable
  go_enter Tryz.func48, Tryz.ntmps48
  go_wp2_with (go_at_call 64; refine (is_join _ a b _ HV.out).mono ?_; rintro e w' ⟨rfl, rfl⟩)
  go_ret
  exact ⟨rfl, rfl⟩
theorem IsFault.alloc {w : World} {v : Value} {e : Int} (h : IsFault w v e) (o : Obj) : IsFault (w.alloc o) v e := by
  obtain ⟨s, r, j, rfl, hj, hr⟩ := h
  exact ⟨s, r, j, rfl, PrintWords.blk_alloc hj o, PrintWords.blk_alloc hr o⟩
set_option maxHeartbeats 4000000 in
set_option maxRecDepth 100000 in
theorem number_nil (w : World) : Calls Tryz.prog 29 #[.nilIface] w fun e w' => e = .returned (.int .i64 0) ∧ Below w.heap.size w w' := by
  go_enter Tryz.func29, Tryz.ntmps29
  go_wp2
  refine wp_loop_rounds 4 ?_
  rw [rounds_succ]
  go_wp2_with (go_at_call 48; refine (Is_nil _ _).mono ?_; rintro e w' ⟨rfl, rfl⟩)
  rw [rounds_succ]
  go_wp2_with (go_at_call 48; refine (Is_nil _ _).mono ?_; rintro e w' ⟨rfl, rfl⟩)
  rw [rounds_succ]
  go_wp2_with (go_at_call 48; refine (Is_nil _ _).mono ?_; rintro e w' ⟨rfl, rfl⟩)
  rw [rounds_succ]
  go_wp2
  go_ret
  exact ⟨rfl, (Below.refl _ _).alloc (Nat.le_refl _) _⟩
set_option maxHeartbeats 4000000 in
set_option maxRecDepth 100000 in
theorem number_fault (v : Value) (a : Int) (w : World) (hv : IsFault w v a) (ha : a = 4 ∨ a = 3 ∨ a = 8) : Calls Tryz.prog 29 #[v] w fun e w' => e = .returned (.int .i64 a) ∧ Below w.heap.size w w' := by
  have HV := Lib.hid (fun o => hv.alloc o)
  clear hv
  rcases ha with rfl | rfl | rfl
  · go_enter Tryz.func29, Tryz.ntmps29
    go_wp2
    refine wp_loop_rounds 4 ?_
    rw [rounds_succ]
    go_wp2_with fail
    refine (Is_fault _ 4 _ _ (HV.out _)).mono ?_
    rintro e w' ⟨rfl, rfl⟩
    go_wp2
    go_ret
    exact ⟨rfl, (Below.refl _ _).alloc (Nat.le_refl _) _⟩
  · go_enter Tryz.func29, Tryz.ntmps29
    go_wp2
    refine wp_loop_rounds 4 ?_
    rw [rounds_succ]
    go_wp2_with fail
    refine (Is_fault _ 3 _ _ (HV.out _)).mono ?_
    rintro e w' ⟨rfl, rfl⟩
    go_wp2_with fail
    rw [rounds_succ]
    go_wp2_with fail
    refine (Is_fault _ 3 _ _ (HV.out _)).mono ?_
    rintro e w' ⟨rfl, rfl⟩
    go_wp2
    go_ret
    exact ⟨rfl, (Below.refl _ _).alloc (Nat.le_refl _) _⟩
  · go_enter Tryz.func29, Tryz.ntmps29
    go_wp2
    refine wp_loop_rounds 4 ?_
    rw [rounds_succ]
    go_wp2_with fail
    refine (Is_fault _ 8 _ _ (HV.out _)).mono ?_
    rintro e w' ⟨rfl, rfl⟩
    go_wp2_with fail
    rw [rounds_succ]
    go_wp2_with fail
    refine (Is_fault _ 8 _ _ (HV.out _)).mono ?_
    rintro e w' ⟨rfl, rfl⟩
    go_wp2_with fail
    rw [rounds_succ]
    go_wp2_with fail
    refine (Is_fault _ 8 _ _ (HV.out _)).mono ?_
    rintro e w' ⟨rfl, rfl⟩
    go_wp2
    go_ret
    exact ⟨rfl, (Below.refl _ _).alloc (Nat.le_refl _) _⟩
end Go.Proofs.YtlagllfbomaehaaGreatDoor.Hand
