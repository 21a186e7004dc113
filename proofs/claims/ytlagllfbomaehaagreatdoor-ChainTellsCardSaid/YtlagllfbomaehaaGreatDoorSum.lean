/- sum.step, sum.table, sum.More, sum.Table: what they answer (the sum of bytes). Condition: registers of 32 bits. -/
import Derived.Test.YtlagllfbomaehaaGreatDoorWords
import Derived.Test.YtlagllfbomaehaaGreatDoorCrc
import Derived.Lib.Hide
import Derived.Deep.WholeRow
import Derived.Deep.LoopGhost
import Derived.Laws.CopyOwn
import Derived.Laws.ResultCell
import Derived.Test.YtlagllfbomaehaaGreatDoorProg
namespace Go.Proofs.YtlagllfbomaehaaGreatDoor.Hand
open Go.RowKit Go.Proofs Go.Proofs.YtlagllfbomaehaaGreatDoorW Go.Proofs.YtlagllfbomaehaaGreatDoor.Crc
theorem xor_u32 (a b : Nat) (ha : a < 4294967296) (hb : b < 4294967296) : bits .xor .u32 (a : Int) (b : Int) = ((a ^^^ b : Nat) : Int) := by
  have ha' : a % 2 ^ 32 = a := Nat.mod_eq_of_lt ha
  have hb' : b % 2 ^ 32 = b := Nat.mod_eq_of_lt hb
  have hx : a ^^^ b < 2 ^ 32 := Nat.xor_lt_two_pow ha hb
  have e : bits .xor .u32 (a : Int) (b : Int) = IntKind.u32.wrap (((BitVec.ofInt 32 (a : Int) ^^^ BitVec.ofInt 32 (b : Int)).toNat : Nat) : Int) := rfl
  rw [e, BitVec.ofInt_natCast, BitVec.ofInt_natCast, BitVec.toNat_xor, BitVec.toNat_ofNat, BitVec.toNat_ofNat, ha', hb', IntKind.wrap_u32]
  omega
theorem and1_u32 (a : Nat) (ha : a < 4294967296) : bits .and .u32 (a : Int) 1 = ((a % 2 : Nat) : Int) := by
  have h := (bits_nat .u32 32 (by decide) (fun n h0 h1 => by rw [IntKind.wrap_u32]; omega) a 1 (by omega) (by decide)).1
  have e : a &&& 1 = a % 2 := by simp
  rw [e] at h
  exact h
set_option maxHeartbeats 1000000 in
theorem step1_any (r : Nat) (w : World) (hr : r < 4294967296) :
    Calls Tryz.prog 85 #[.pointer (some ⟨w.heap.size, 0, none⟩)] (w.alloc (.cells #[.int .u32 (r : Nat)] 67)) fun e w' => (∃ v, e = .returned v) ∧ w' = w.alloc (.cells #[.int .u32 (s1 r : Nat)] 67) := by
  have ha := and1_u32 r hr
  have hx : bits .xor .u32 ((r : Int) / 2) 2197175160 = ((r / 2 ^^^ 2197175160 : Nat) : Int) := xor_u32 (r / 2) 2197175160 (by omega) (by decide)
  unfold s1
  by_cases h : r % 2 = 1
  · rw [if_pos h]
    rw [h] at ha
    go_enter Tryz.func85, Tryz.ntmps85
    go_wp2
    go_end0
    exact ⟨⟨_, rfl⟩, rfl⟩
  · have h0 : r % 2 = 0 := by omega
    rw [if_neg h]
    rw [h0] at ha
    go_enter Tryz.func85, Tryz.ntmps85
    go_wp2
    go_end0
    exact ⟨⟨_, rfl⟩, rfl⟩
set_option maxHeartbeats 4000000 in
theorem step_any (r : Nat) (w : World) (hr : r < 4294967296) :
    Calls Tryz.prog 80 #[.int .u32 (r : Nat)] w fun e w' => e = .returned (.int .u32 (s8 r : Nat)) ∧ w' = w.alloc (.cells #[.int .u32 (s8 r : Nat)] 67) := by
  have hmf : ∀ (fn : Fn) (first cap : Array Value) (w : World), (Instr.makeFunc fn first cap).run Tryz.prog w = .ok (.func fn first cap) w := fun _ _ _ _ => rfl
  have h1 := s1_lt hr
  have h2 := s1_lt h1
  have h3 := s1_lt h2
  have h4 := s1_lt h3
  have h5 := s1_lt h4
  have h6 := s1_lt h5
  have h7 := s1_lt h6
  unfold s8
  go_enter Tryz.func80, Tryz.ntmps80
  go_wp2
  refine wp_loop_rounds 9 ?_
  rw [rounds_succ]
  go_wp2_with fail
  refine (step1_any _ w hr).mono ?_
  rintro e w' ⟨⟨v0, rfl⟩, rfl⟩
  go_wp2_with fail
  rw [rounds_succ]
  go_wp2_with fail
  refine (step1_any _ w h1).mono ?_
  rintro e w' ⟨⟨v1, rfl⟩, rfl⟩
  go_wp2_with fail
  rw [rounds_succ]
  go_wp2_with fail
  refine (step1_any _ w h2).mono ?_
  rintro e w' ⟨⟨v2, rfl⟩, rfl⟩
  go_wp2_with fail
  rw [rounds_succ]
  go_wp2_with fail
  refine (step1_any _ w h3).mono ?_
  rintro e w' ⟨⟨v3, rfl⟩, rfl⟩
  go_wp2_with fail
  rw [rounds_succ]
  go_wp2_with fail
  refine (step1_any _ w h4).mono ?_
  rintro e w' ⟨⟨v4, rfl⟩, rfl⟩
  go_wp2_with fail
  rw [rounds_succ]
  go_wp2_with fail
  refine (step1_any _ w h5).mono ?_
  rintro e w' ⟨⟨v5, rfl⟩, rfl⟩
  go_wp2_with fail
  rw [rounds_succ]
  go_wp2_with fail
  refine (step1_any _ w h6).mono ?_
  rintro e w' ⟨⟨v6, rfl⟩, rfl⟩
  go_wp2_with fail
  rw [rounds_succ]
  go_wp2_with fail
  refine (step1_any _ w h7).mono ?_
  rintro e w' ⟨⟨v7, rfl⟩, rfl⟩
  go_wp2_with fail
  rw [rounds_succ]
  go_wp2
  go_ret
  exact ⟨rfl, rfl⟩
def tabV (i : Nat) : Array Value := Array.ofFn (n := 256) fun j => if j.val < i then .int .u32 (s8 j.val : Nat) else .int .u32 0
theorem tabV_size (i : Nat) : (tabV i).size = 256 := Array.size_ofFn
theorem tabV_get (i j : Nat) (h : j < 256) : (tabV i)[j]? = some (if j < i then .int .u32 (s8 j : Nat) else .int .u32 0) := by
  simp [tabV, h]
theorem tabV_zero : tabV 0 = Array.replicate 256 (.int .u32 0) := by
  apply Array.ext (by rw [tabV_size]; simp)
  intro j h1 h2
  simp [tabV]
theorem tabV_put (i : Nat) (h : i < 256) : (tabV i).setIfInBounds i (.int .u32 (s8 i : Nat)) = tabV (i + 1) := by
  apply Array.ext_getElem?
  intro j
  by_cases hj : j < 256
  · rw [tabV_get (i + 1) j hj, Array.getElem?_setIfInBounds, tabV_get i j hj, tabV_size]
    by_cases e : i = j
    · subst e; simp [h]
    · rw [if_neg e]
      by_cases h2 : j < i
      · rw [if_pos h2, if_pos (by omega)]
      · rw [if_neg h2, if_neg (by omega)]
  · rw [Array.getElem?_eq_none (by simp [tabV_size]; omega), Array.getElem?_eq_none (by rw [tabV_size]; omega)]
theorem tabV_one (i : Nat) : (tabV i).all (·.oneCell') = true := by
  rw [Array.all_eq_true_iff_forall_mem]
  intro x hx
  simp only [tabV, Array.mem_ofFn] at hx
  obtain ⟨j, rfl⟩ := hx
  split <;> rfl
theorem info256 : (Tryz.prog.info? 119).map (fun i => (i.zero, i.size)) = some (some (.agg (Array.replicate 256 (.int .u32 0))), 256) := by kernel_rfl
set_option maxHeartbeats 4000000 in
set_option maxRecDepth 1000000 in
theorem table_any (w : World) : Calls Tryz.prog 73 #[] w fun e w' => e = .returned (.agg (tabV 256)) ∧ Below w.heap.size w w' := by
  have hz := (zero_of_info info256).1
  rw [← tabV_zero] at hz
  go_enter Tryz.func73, Tryz.ntmps73
  go_wp2
  go_loopw [3] (fun c wx => ∃ i : Nat, i ≤ 256 ∧ c = .int .i64 (i : Nat) ∧ wx.heap[w.heap.size]? = some (.cells (tabV 0) 119 (0, 0)) ∧ wx.heap[w.heap.size + 1]? = some (.cells (tabV i) 119 (0, 0)) ∧ Below w.heap.size w wx) (fun c _ => 256 - (intOf c).toNat)
  case atStart => exact ⟨0, by omega, rfl, PrintWords.blk_alloc (PrintWords.blk_new w _) _, by rw [← World.size_alloc w (.cells (tabV 0) 119)]; exact PrintWords.blk_new _ _, ((Below.refl _ _).alloc (Nat.le_refl _) _).alloc (by simp) _⟩
  case round =>
    obtain ⟨i, hi, rfl, h0, h1, hb⟩ := hrel
    have H0 := Lib.hid h0
    have H1 := Lib.hid h1
    by_cases hlt : i < 256
    · have hc : wr.cell? ⟨w.heap.size + 1, i, none⟩ = some (.int .u32 0) := by rw [PrintWords.blk_cell h1, tabV_get i i hlt, if_neg (Nat.lt_irrefl _)]
      have hf : wr.frozen? ⟨w.heap.size + 1, i, none⟩ = false := PrintWords.blk_frozen h1 i
      have hsz : w.heap.size + 1 < wr.heap.size := PrintWords.blk_lt h1
      clear h0 h1
      go_wp2_with (go_at_call 80; refine (step_any i _ (by omega)).mono ?_; rintro e w' ⟨rfl, rfl⟩)
      go_roundw
      case rel =>
        refine ⟨i + 1, by omega, by go_num, ?_, ?_, ?_⟩
        · exact PrintWords.blk_alloc (PrintWords.blk_far H0.out (p := ⟨w.heap.size + 1, i, none⟩) (by simp) _) _
        · exact PrintWords.blk_alloc (PrintWords.blk_put H1.out i _ (tabV_put i hlt)) _
        · exact (hb.setCell (p := ⟨w.heap.size + 1, i, none⟩) (by simp) _).alloc (by simpa using hb.size) _
      case measure => simp [intOf]; omega
    · obtain rfl : i = 256 := by omega
      clear h0 h1
      have hi : (Tryz.prog.info? 119).map (·.size) = some (tabV 256).size := by rw [tabV_size]; exact (zero_of_info info256).2
      have hz2 : (tabV 0).size = (tabV 256).size := by rw [tabV_size, tabV_size]
      have H3 := Lib.hid hi
      have H4 := Lib.hid hz2
      have H5 := Lib.hid hz
      clear hi hz2 hz
      go_wp2_with (first
        | (refine wpList_load_row rfl 119 (.tmp 1) rfl (w.heap.size + 1) rfl 119 (tabV 256) (0, 0) _ H1.out Tryz.underlying119 rfl H3.out ?_)
        | (refine wpList_store_row rfl 119 (.tmp 0) (.tmp 12) rfl w.heap.size (tabV 256) rfl rfl 119 (tabV 0) H0.out H3.out H4.out (tabV_one _) ?_))
      have h2 : (wr.setRow w.heap.size (tabV 256)).heap[w.heap.size]? = some (.cells (tabV 256) 119 (0, 0)) := by
        rw [World.setRow, Array.getElem?_modify, if_pos rfl, H0.out]; rfl
      refine bodyPost_ret (v := .agg (tabV 256)) ?_ rfl ⟨rfl, below_setRow hb (Nat.le_refl _) _⟩
      exact results_cell_row rfl _ _ w.heap.size 119 (tabV 256) (0, 0) _ rfl h2 Tryz.underlying119 rfl H3.out
theorem setRow_at {w : World} {g : Nat} {t : TypeId} {cs : Array Value} (h : w.heap[g]? = some (.cells cs t (0, 0))) (cs' : Array Value) : (w.setRow g cs').heap[g]? = some (.cells cs' t (0, 0)) := by
  rw [World.setRow, Array.getElem?_modify, if_pos rfl, h]; rfl
theorem not_u32 (r : Nat) (hr : r < 4294967296) : bits .xor .u32 IntKind.u32.max (r : Int) = ((4294967295 - r : Nat) : Int) := by
  have h : bits .xor .u32 ((4294967295 : Nat) : Int) (r : Int) = _ := xor_u32 4294967295 r (by decide) hr
  rw [Nat.xor_comm, not_sub hr] at h
  exact h
theorem xor_u8 (a b : Nat) (ha : a < 256) (hb : b < 256) : bits .xor .u8 (a : Int) (b : Int) = ((a ^^^ b : Nat) : Int) := by
  have ha' : a % 2 ^ 8 = a := Nat.mod_eq_of_lt ha
  have hb' : b % 2 ^ 8 = b := Nat.mod_eq_of_lt hb
  have hx : a ^^^ b < 2 ^ 8 := Nat.xor_lt_two_pow ha hb
  have e : bits .xor .u8 (a : Int) (b : Int) = IntKind.u8.wrap (((BitVec.ofInt 8 (a : Int) ^^^ BitVec.ofInt 8 (b : Int)).toNat : Nat) : Int) := rfl
  rw [e, BitVec.ofInt_natCast, BitVec.ofInt_natCast, BitVec.toNat_xor, BitVec.toNat_ofNat, BitVec.toNat_ofNat, ha', hb', IntKind.wrap_u8]
  omega
theorem take_snoc (s : ByteArray) (k : Nat) (h : k < s.size) : s.data.toList.take (k + 1) = s.data.toList.take k ++ [s[k]] := by
  rw [List.take_succ_eq_append_getElem (by simpa using h)]; rfl
set_option maxHeartbeats 4000000 in
set_option maxRecDepth 1000000 in
theorem more_any (c : Nat) (s : ByteArray) (w : World) (hc : c < 4294967296) (hs : s.size ≤ 1000000) :
    Calls Tryz.prog 57 #[.int .u32 (c : Nat), .string s] w fun e w' => e = .returned (.int .u32 ((4294967295 - run (4294967295 - c) s.data.toList : Nat) : Int)) ∧ Below w.heap.size w w' := by
  have hnc := not_u32 c hc
  have hz := (zero_of_info info256).1
  rw [← tabV_zero] at hz
  have hi : (Tryz.prog.info? 119).map (·.size) = some (tabV 256).size := by rw [tabV_size]; exact (zero_of_info info256).2
  have hz2 : (tabV 0).size = (tabV 256).size := by rw [tabV_size, tabV_size]
  have H3 := Lib.hid hi
  have H4 := Lib.hid hz2
  clear hi hz2
  go_enter Tryz.func57, Tryz.ntmps57
  go_wp2_with (first
    | (go_at_call 73; refine (table_any _).mono ?_; rintro e w' ⟨rfl, hb⟩)
    | (refine wpList_store_row rfl 119 (.tmp 5) (.tmp 8) rfl _ (tabV 256) rfl rfl 119 (tabV 0) (PrintWords.blk_new _ _) H3.out H4.out (tabV_one _) ?_))
  have hB := setRow_at (PrintWords.blk_new w' (.cells (tabV 0) 119)) (tabV 256)
  have hb2 : Below w.heap.size w ((w'.alloc (.cells (tabV 0) 119)).setRow w'.heap.size (tabV 256)) := below_setRow (hb.alloc hb.size _) hb.size _
  clear hz H3 H4 hnc
  generalize (w'.alloc (.cells (tabV 0) 119)).setRow w'.heap.size (tabV 256) = W at hB hb2 ⊢
  generalize w'.heap.size = B at hB ⊢
  have hcell : ∀ j, j < 256 → W.cell? ⟨B, j, none⟩ = some (.int .u32 (s8 j : Nat)) := fun j hj => by rw [PrintWords.blk_cell hB, tabV_get 256 j hj, if_pos hj]
  have HC := Lib.hid hcell
  have HB2 := Lib.hid hb2
  clear hcell hB hb2 hb
  have hr0 : 4294967295 - c < 4294967296 := by omega
  obtain ⟨R, hR⟩ : ∃ R, 4294967295 - c = R := ⟨_, rfl⟩
  rw [hR] at hr0 ⊢
  have HR := Lib.hid hR
  clear hR
  go_loop [6, 13] (fun a c => ∃ i : Nat, i ≤ s.size ∧ c = .int .i64 (i : Nat) ∧ a = .int .u32 (run R (s.data.toList.take i) : Nat)) (fun _ c => s.size - (intOf c).toNat)
  case atStart => exact ⟨0, by omega, rfl, rfl⟩
  case round =>
    obtain ⟨i, hi, rfl, rfl⟩ := hrel
    have hr := run_lt (s.data.toList.take i) hr0
    by_cases hlt : i < s.size
    · have HS : Hid (run R (s.data.toList.take (i + 1)) = one (run R (s.data.toList.take i)) (s[i]'hlt).toNat) := by rw [take_snoc s i hlt, run_snoc]; exact Lib.hid rfl
      generalize run R (s.data.toList.take i) = r at hr HS ⊢
      obtain ⟨x, hx⟩ : ∃ x : UInt8, s[i]'hlt = x := ⟨_, rfl⟩
      rw [hx] at HS
      have hxl := x.toNat_lt
      have hm : r % 256 ^^^ x.toNat < 256 := Nat.xor_lt_two_pow (n := 8) (by omega) hxl
      have f1 : bits .xor .u8 ((r : Int) % 256) (x.toNat : Int) = ((r % 256 ^^^ x.toNat : Nat) : Int) := xor_u8 (r % 256) x.toNat (by omega) hxl
      have f2 : bits .xor .u32 ((s8 (r % 256 ^^^ x.toNat) : Nat) : Int) ((r : Int) / 256) = ((one r x.toNat : Nat) : Int) := xor_u32 (s8 (r % 256 ^^^ x.toNat)) (r / 256) (s8_lt (by omega)) (by omega)
      have hcl := HC.out _ hm
      generalize r % 256 ^^^ x.toNat = m at hm f1 f2 hcl
      go_wp2
      go_round
      case rel => exact ⟨i + 1, by omega, by go_num, by rw [HS.out]⟩
      case measure => simp [intOf]; omega
    · obtain rfl : i = s.size := by omega
      rw [show s.data.toList.take s.size = s.data.toList from List.take_of_length_le (Nat.le_refl _)] at hr ⊢
      have hnc := not_u32 _ hr
      obtain ⟨q, hq⟩ : ∃ q, run R s.data.toList = q := ⟨_, rfl⟩
      rw [hq] at hr hnc ⊢
      obtain ⟨z, hz⟩ : ∃ z, 4294967295 - q = z := ⟨_, rfl⟩
      rw [hz] at hnc
      have HQ := Lib.hid hq
      have HZ := Lib.hid hz
      clear hq hz
      go_wp2
      go_ret
      exact ⟨by rw [HR.out, HQ.out, HZ.out]; rfl, HB2.out⟩
theorem table_sum (s : ByteArray) (w : World) (hs : s.size ≤ 1000000) :
    Calls Tryz.prog 34 #[.string s] w fun e w' => e = .returned (.int .u32 ((sum s.data.toList : Nat) : Int)) ∧ Below w.heap.size w w' := by
  go_enter Tryz.func34, Tryz.ntmps34
  go_wp2_with (go_at_call 57; refine (more_any 0 s _ (by decide) hs).mono ?_; rintro e w' ⟨rfl, hb⟩)
  go_ret
  exact ⟨rfl, hb⟩
end Go.Proofs.YtlagllfbomaehaaGreatDoor.Hand
