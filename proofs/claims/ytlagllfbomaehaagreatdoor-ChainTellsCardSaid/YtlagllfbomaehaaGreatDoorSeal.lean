/- head.Seal: a page's bytes, or what is wrong. Condition: a body of at most a million bytes. -/
import Derived.Test.YtlagllfbomaehaaGreatDoorMay
import Derived.Test.YtlagllfbomaehaaGreatDoorSum
import Derived.Test.YtlagllfbomaehaaGreatDoorShelf
import Derived.Test.YtlagllfbomaehaaGreatDoorAHeadbytes
import Derived.Test.YtlagllfbomaehaaGreatDoorAWordFour
import Derived.Test.YtlagllfbomaehaaGreatDoorAStringsRepeat
import Derived.Test.YtlagllfbomaehaaGreatDoorASumTable
namespace Go.Proofs.YtlagllfbomaehaaGreatDoor.A
open Go Go.RowKit Go.Proofs Go.Proofs.YtlagllfbomaehaaGreatDoorW Go.Proofs.YtlagllfbomaehaaGreatDoorW.PrintWords Go.Proofs.YtlagllfbomaehaaGreatDoor.Hand
set_option linter.unusedVariables false
def sealFront (b body : ByteArray) (h3 h4 : Int) : ByteArray := b ++ strOfNums (fourL h3) ++ strOfNums (fourL h4) ++ (⟨#[0, 0, 0, 0]⟩ : ByteArray) ++ body
def sealWhole (f : ByteArray) (p : Int) : ByteArray := f ++ ⟨(Lib.repeatL [0] (p - f.size).toNat).toArray⟩
def sealPage (s : ByteArray) : ByteArray := s.extract 0 12 ++ strOfNums (fourL ((Crc.sum s.data.toList : Nat) : Int)) ++ s.extract 16 s.size
def sealOk (h0 h1 h2 h3 h4 : Int) : Bool := decide (1 ≤ h0 ∧ h0 < 5 ∧ 0 ≤ h1 ∧ h1 < 256 ∧ 0 ≤ h2 ∧ h2 < 65536 ∧ 0 ≤ h3 ∧ h3 < 4096 ∧ 0 ≤ h4 ∧ h4 < 4096)
def sealF (k : Nat) (a0_0 : Int) (a0_1 : Int) (a0_2 : Int) (a0_3 : Int) (a0_4 : Int) (a1 : ByteArray) (a2 : Int) : Option (ByteArray × Int) :=
  if a1.size ≤ 1000000 then (if sizeB a2 = true then ((head_Right.f k a0_0 a0_1 a0_2 a0_3 a0_4).bind fun t => (if t = true then (if (a1.size : Int) > a2 - 16 then (some ((⟨#[]⟩ : ByteArray), 8)) else (if sealOk a0_0 a0_1 a0_2 a0_3 a0_4 = true then ((head_bytes.f k [a0_0, a0_1, a0_2, a0_2 / 256]).bind fun b => (if b.size = 4 then (some (sealPage (sealWhole (sealFront b a1 a0_3 a0_4) a2), 0)) else (none))) else (none))) else (some ((⟨#[]⟩ : ByteArray), 3)))) else (some ((⟨#[]⟩ : ByteArray), 4))) else (none)
theorem seal_bad (k : Nat) (h0 h1 h2 h3 h4 : Int) (body : ByteArray) (p : Int) (t : Bool) (c : Int) (w : World) (hb : body.size ≤ 1000000) (hR : sizeB p = true → head_Right.f k h0 h1 h2 h3 h4 = some t) (hc : mayC p t body.size = c) (h0c : c ≠ 0) :
    Calls Tryz.prog 20 #[.agg #[.int .i64 h0, .int .i64 h1, .int .i64 h2, .int .i64 h3, .int .i64 h4], .string body, .int .i64 p] w fun e w' => e = .returned (.tuple #[.string (⟨#[]⟩ : ByteArray), .int .i64 c]) ∧ Below w.heap.size w w' := by
  have HR := Lib.hid hR
  have HC := Lib.hid hc
  have hne : (c != 0) = true := bne_iff_ne.mpr h0c
  clear hR hc h0c
  go_enter Tryz.func20, Tryz.ntmps20
  go_wp2_with (first
    | (go_at_call 30; refine (may_any k _ _ _ _ _ _ _ t _ hb HR.out).mono ?_; rintro e w1 ⟨⟨v, rfl, hv⟩, hb1⟩)
    | (go_at_call 29; refine (number_or _ _ _ hv).mono ?_; rintro e w2 ⟨rfl, hb2⟩; rw [HC.out]))
  go_ret2
  exact ⟨rfl, below_step (below_step ((Below.refl w.heap.size w).alloc (Nat.le_refl _) _) hb1) hb2⟩
theorem C_lit {α : Type} (d : Kd α) (W : World) (e : TypeId) (xs : List α) (inner : List Value) (hr : Reps (d.K (W.alloc (.cells inner.toArray e))) d.sz xs inner) (hm : xs.length ≤ 9223372036854775807) :
    d.C (W.alloc (.cells inner.toArray e)) (some ⟨W.heap.size, 0, none⟩) xs.length xs := by
  obtain ⟨A, c, he, hl, hrow⟩ := OwnRow.reads (OwnRow.lit (e := e) W 0 hr (Nat.zero_le _) hm)
  injection he with h1
  subst h1
  exact hrow
theorem cell_lt {W : World} {b i : Nat} {v : Value} (h : W.cell? ⟨b, i, none⟩ = some v) : b < W.heap.size := by
  rcases Nat.lt_or_ge b W.heap.size with h' | h'
  · exact h'
  · exfalso
    have e : W.heap[b]? = none := Array.getElem?_eq_none h'
    simp [World.cell?, e] at h
theorem cell_ad {W : World} {b i : Nat} {v : Value} (h : W.cell? ⟨b, i, none⟩ = some v) (o : Obj) : (W.alloc o).drew.cell? ⟨b, i, none⟩ = some v :=
  (World.cell?_alloc_lt (w := W) (a := ⟨b, i, none⟩) (o := o) (cell_lt h)).trans h
theorem cell_b {W W' : World} {b i : Nat} {v : Value} (h : W.cell? ⟨b, i, none⟩ = some v) (hb : Below W.heap.size W W') : W'.cell? ⟨b, i, none⟩ = some v :=
  (hb.cell (p := ⟨b, i, none⟩) (cell_lt h)).trans h
theorem fourL_size (n : Int) : (strOfNums (fourL n)).size = 4 := by rw [strOfNums_size]; rfl
set_option maxHeartbeats 8000000 in
set_option maxRecDepth 100000 in
theorem seal_ok (k : Nat) (h0 h1 h2 h3 h4 : Int) (body : ByteArray) (p : Int) (b : ByteArray) (w : World) (hb : body.size ≤ 1000000) (hs : sizeB p = true) (hR : head_Right.f k h0 h1 h2 h3 h4 = some true) (hbig : ¬ (body.size : Int) > p - 16)
    (hok : sealOk h0 h1 h2 h3 h4 = true) (hB : head_bytes.f k [h0, h1, h2, h2 / 256] = some b) (hb4 : b.size = 4) :
    Calls Tryz.prog 20 #[.agg #[.int .i64 h0, .int .i64 h1, .int .i64 h2, .int .i64 h3, .int .i64 h4], .string body, .int .i64 p] w fun e w' => e = .returned (.tuple #[.string (sealPage (sealWhole (sealFront b body h3 h4) p)), .int .i64 0]) ∧ Below w.heap.size w w' := by
  have HR := Lib.hid (fun _ : sizeB p = true => hR)
  have HC : Hid (mayC p true body.size = 0) := Lib.hid (by unfold mayC; rw [if_pos hs, if_pos rfl, if_neg hbig])
  have HB := Lib.hid hB
  have HB4 := Lib.hid hb4
  have HS := Lib.hid hs
  have hp := sizeB_le hs
  have hok := of_decide_eq_true hok
  obtain ⟨g1, g2, g3, g4, g5, g6, g7, g8, g9, g10⟩ := hok
  clear hR hB hs hb4
  go_enter Tryz.func20, Tryz.ntmps20
  go_wp2_with (first
    | (go_at_call 30; refine (may_any k _ _ _ _ _ _ _ true _ hb HR.out).mono ?_; rintro e w1 ⟨⟨v, rfl, hv⟩, hb1⟩)
    | (go_at_call 29; refine (number_or _ _ _ hv).mono ?_; rintro e w2 ⟨rfl, hb2⟩; rw [HC.out]))
  have hblk : w2.heap[w.heap.size]? = some (.cells #[.int .i64 h0, .int .i64 h1, .int .i64 h2, .int .i64 h3, .int .i64 h4] 48 (0, 0)) := blk_below (blk_below (blk_new w _) hb1) hb2
  have c0 : w2.cell? ⟨w.heap.size, 0, none⟩ = some (.int .i64 h0) := blk_cell hblk 0
  have c1 : w2.cell? ⟨w.heap.size, 1, none⟩ = some (.int .i64 h1) := blk_cell hblk 1
  have c2 : w2.cell? ⟨w.heap.size, 2, none⟩ = some (.int .i64 h2) := blk_cell hblk 2
  have c3 : w2.cell? ⟨w.heap.size, 3, none⟩ = some (.int .i64 h3) := blk_cell hblk 3
  have c4 : w2.cell? ⟨w.heap.size, 4, none⟩ = some (.int .i64 h4) := blk_cell hblk 4
  have hlt2 : w.heap.size < w2.heap.size := blk_lt hblk
  have HB2 := below_step (below_step ((Below.refl w.heap.size w).alloc (Nat.le_refl _) _) hb1) hb2
  clear hblk hb1 hb2 hv
  have e1 : IntKind.i64.wrap (h2.tdiv 256) = h2 / 256 := by rw [Int.tdiv_eq_ediv_of_nonneg g5, IntKind.wrap_i64]; omega
  have e3 : IntKind.u32.wrap h3 = h3 := by rw [IntKind.wrap_u32]; omega
  have e4 : IntKind.u32.wrap h4 = h4 := by rw [IntKind.wrap_u32]; omega
  obtain ⟨F3, hF3⟩ : ∃ F3, strOfNums (fourL h3) = F3 := ⟨_, rfl⟩
  obtain ⟨F4, hF4⟩ : ∃ F4, strOfNums (fourL h4) = F4 := ⟨_, rfl⟩
  have four3 : ∀ w, Calls Tryz.prog 32 #[.int .u32 h3] w fun e w' => e = .returned (.string F3) ∧ Below w.heap.size w w' := fun w => by rw [← hF3]; exact four_any h3 w g7 (by omega)
  have four4 : ∀ w, Calls Tryz.prog 32 #[.int .u32 h4] w fun e w' => e = .returned (.string F4) ∧ Below w.heap.size w w' := fun w => by rw [← hF4]; exact four_any h4 w g9 (by omega)
  have s3 : F3.size = 4 := by rw [← hF3]; exact fourL_size _
  have s4 : F4.size = 4 := by rw [← hF4]; exact fourL_size _
  have HF3 := Lib.hid hF3
  have HF4 := Lib.hid hF4
  have m1 := eq_true (show b.size + F3.size ≤ 9223372036854775807 by have := HB4.out; omega)
  have m1d := decide_eq_true (show b.size + F3.size ≤ 9223372036854775807 by have := HB4.out; omega)
  have m1n : (9223372036854775807 < b.size + F3.size) = False := eq_false (by have := HB4.out; omega)
  have m2 := eq_true (show b.size + F3.size + F4.size ≤ 9223372036854775807 by have := HB4.out; omega)
  have m2d := decide_eq_true (show b.size + F3.size + F4.size ≤ 9223372036854775807 by have := HB4.out; omega)
  have m2n : (9223372036854775807 < b.size + F3.size + F4.size) = False := eq_false (by have := HB4.out; omega)
  have m3 := eq_true (show b.size + F3.size + F4.size + 4 ≤ 9223372036854775807 by have := HB4.out; omega)
  have m3d := decide_eq_true (show b.size + F3.size + F4.size + 4 ≤ 9223372036854775807 by have := HB4.out; omega)
  have m3n : (9223372036854775807 < b.size + F3.size + F4.size + 4) = False := eq_false (by have := HB4.out; omega)
  have m4 := eq_true (show b.size + F3.size + F4.size + 4 + body.size ≤ 9223372036854775807 by have := HB4.out; omega)
  have m4d := decide_eq_true (show b.size + F3.size + F4.size + 4 + body.size ≤ 9223372036854775807 by have := HB4.out; omega)
  have m4n : (9223372036854775807 < b.size + F3.size + F4.size + 4 + body.size) = False := eq_false (by have := HB4.out; omega)
  have hF34 := Lib.hid four3
  have hF44 := Lib.hid four4
  have S3 := Lib.hid s3
  have S4 := Lib.hid s4
  clear hF3 hF4 s3 s4 four3 four4
  go_region_held3 (fun W => W.cell? ⟨w.heap.size, 0, none⟩ = some (.int .i64 h0) ∧ W.cell? ⟨w.heap.size, 1, none⟩ = some (.int .i64 h1) ∧ W.cell? ⟨w.heap.size, 2, none⟩ = some (.int .i64 h2) ∧ W.cell? ⟨w.heap.size, 3, none⟩ = some (.int .i64 h3) ∧ W.cell? ⟨w.heap.size, 4, none⟩ = some (.int .i64 h4) ∧ Below w.heap.size w W)
    (first
      | (go_split_ands; exact ⟨by assumption, by assumption, by assumption, by assumption, by assumption, below_drew (by assumption)⟩)
      | (go_split_ands; exact ⟨cell_b (by assumption) hbn, cell_b (by assumption) hbn, cell_b (by assumption) hbn, cell_b (by assumption) hbn, cell_b (by assumption) hbn, below_step (by assumption) hbn⟩)
      | (go_split_ands; exact ⟨cell_ad (by assumption) _, cell_ad (by assumption) _, cell_ad (by assumption) _, cell_ad (by assumption) _, cell_ad (by assumption) _, (below_alloc (by assumption) _).drew⟩)
      | (go_split_ands; exact ⟨cell_ad (by assumption) _, cell_ad (by assumption) _, cell_ad (by assumption) _, cell_ad (by assumption) _, cell_ad (by assumption) _, below_alloc (by assumption) _⟩))
    (first
      | (go_at_call 31; refine (head_bytes.calls k _ _ [h0, h1, h2, h2 / 256] b _ (Kd.C_drew (C_lit (Kd.int .i64) w2 3 [h0, h1, h2, h2 / 256] [.int .i64 h0, .int .i64 h1, .int .i64 h2, .int .i64 (h2 / 256)] (Reps.one rfl (Reps.one rfl (Reps.one rfl (Reps.one rfl (Reps.none _ _))))) (by simp))) (by simp) HB.out).mono ?_; rintro e w3 ⟨rfl, hbn⟩)
      | (go_at_call 32; (with_reducible refine (hF34.out _).mono ?_); rintro e w3 ⟨rfl, hbn⟩)
      | (go_at_call 32; (with_reducible refine (hF44.out _).mono ?_); rintro e w3 ⟨rfl, hbn⟩))
  have HB3 : Below w.heap.size w w3 := by rename_i hh; exact hh.2.2.2.2.2
  obtain ⟨f, hf⟩ : ∃ f, b ++ F3 ++ F4 ++ (⟨#[0, 0, 0, 0]⟩ : ByteArray) ++ body = f := ⟨_, rfl⟩
  have hfz : f.size = 16 + body.size := by
    have := HB4.out; have := S3.out; have := S4.out
    rw [← hf]; simp only [ByteArray.size_append]; show _ + 4 + _ = _; omega
  obtain ⟨Z, hZ⟩ : ∃ Z : ByteArray, ⟨(Lib.repeatL [0] (p - f.size).toNat).toArray⟩ = Z := ⟨_, rfl⟩
  have hRep : strings_Repeat.f ⟨#[0]⟩ (p - (f.size : Int)) = some Z := by
    unfold strings_Repeat.f
    rw [if_pos (by omega), if_pos (by omega), if_pos (by show 1 ≤ 1000; omega), ← hZ]
  have hZz : Z.size = (p - f.size).toNat := by
    rw [← hZ]; show (Lib.repeatL [0] _).length = _
    rw [Lib.repeatL_length]; simp
  obtain ⟨s, hs⟩ : ∃ s, f ++ Z = s := ⟨_, rfl⟩
  have hsz : s.size = p.toNat := by rw [← hs, ByteArray.size_append, hZz, hfz]; omega
  have hsZ : f.size + Z.size = p.toNat := by rw [hZz, hfz]; omega
  have k1 : (f.size : Int) ≤ p := by omega
  have n1 := eq_true (show f.size + Z.size ≤ 9223372036854775807 by omega)
  have n1d := decide_eq_true (show f.size + Z.size ≤ 9223372036854775807 by omega)
  have n1n : (9223372036854775807 < f.size + Z.size) = False := eq_false (by omega)
  have HF := Lib.hid hf
  have HZ := Lib.hid hZ
  have HS2 := Lib.hid hs
  have HRep := Lib.hid hRep
  have HSZ := Lib.hid hsz
  rw [hf]
  clear hf hfz hZ hRep hZz hs hsz hsZ m1 m1d m1n m2 m2d m2n m3 m3d m3n m4 m4d m4n
  go_wp2_with (first
    | (go_at_call 33; refine (strings_Repeat.calls _ _ _ _ HRep.out).mono ?_; rintro e w4 ⟨rfl, hb4⟩))
  rw [HS2.out]
  have HB5 := below_step HB3 hb4
  clear n1 n1d n1n hb4
  have hsz := HSZ.out
  obtain ⟨A12, hA⟩ : ∃ A12, s.extract 0 12 = A12 := ⟨_, rfl⟩
  obtain ⟨B16, hB⟩ : ∃ B16, s.extract 16 s.size = B16 := ⟨_, rfl⟩
  have zA : A12.size = 12 := by rw [← hA, ByteArray.size_extract]; omega
  have zB : B16.size = s.size - 16 := by rw [← hB, ByteArray.size_extract]; omega
  obtain ⟨C, hC⟩ : ∃ C, Crc.sum s.data.toList = C := ⟨_, rfl⟩
  have hC32 : C < 4294967296 := by rw [← hC]; exact Crc.sum_lt _
  have tabs : ∀ w, Calls Tryz.prog 34 #[.string s] w fun e w' => e = .returned (.int .u32 (C : Nat)) ∧ Below w.heap.size w w' := fun w => by rw [← hC]; exact table_sum s w (by omega)
  obtain ⟨G, hG⟩ : ∃ G, strOfNums (fourL ((C : Nat) : Int)) = G := ⟨_, rfl⟩
  have zG : G.size = 4 := by rw [← hG]; exact fourL_size _
  have fours : ∀ w, Calls Tryz.prog 32 #[.int .u32 (C : Nat)] w fun e w' => e = .returned (.string G) ∧ Below w.heap.size w w' := fun w => by rw [← hG]; exact four_any _ w (by omega) (by omega)
  have v1 : (12 : Int) ≤ (s.size : Int) := by omega
  have v2 : (16 : Int) ≤ (s.size : Int) := by omega
  have n1 := eq_true (show A12.size + G.size ≤ 9223372036854775807 by omega)
  have n1d := decide_eq_true (show A12.size + G.size ≤ 9223372036854775807 by omega)
  have n1n : (9223372036854775807 < A12.size + G.size) = False := eq_false (by omega)
  have n2 := eq_true (show A12.size + G.size + B16.size ≤ 9223372036854775807 by omega)
  have n2d := decide_eq_true (show A12.size + G.size + B16.size ≤ 9223372036854775807 by omega)
  have n2n : (9223372036854775807 < A12.size + G.size + B16.size) = False := eq_false (by omega)
  have TABS := Lib.hid tabs
  have FOURS := Lib.hid fours
  have HA := Lib.hid hA
  have HB6 := Lib.hid hB
  have HCC := Lib.hid hC
  have HG := Lib.hid hG
  clear tabs fours hC hG zA zB zG hsz
  go_region_held3 (fun W => Below w.heap.size w W)
    (first
      | exact below_drew (by assumption)
      | exact below_step (by assumption) hbn)
    (first
      | (go_at_call 34; (with_reducible refine (TABS.out _).mono ?_); rintro e w5 ⟨rfl, hbn⟩)
      | (go_at_call 32; (with_reducible refine (FOURS.out _).mono ?_); rintro e w6 ⟨rfl, hbn⟩))
  go_wp2
  go_ret2
  have E : sealPage (sealWhole (sealFront b body h3 h4) p) = A12 ++ G ++ B16 := by
    have e1 : sealFront b body h3 h4 = f := by unfold sealFront; rw [HF3.out, HF4.out]; exact HF.out
    have e2 : sealWhole f p = s := by unfold sealWhole; rw [HZ.out]; exact HS2.out
    rw [e1, e2]
    unfold sealPage
    rw [HA.out, HB6.out, HCC.out, HG.out]
  exact ⟨by rw [E]; rfl, by assumption⟩
theorem sealF_calls (k : Nat) (h0 h1 h2 h3 h4 : Int) (body : ByteArray) (p : Int) (r1 : ByteArray) (r2 : Int) (w : World) (h : sealF k h0 h1 h2 h3 h4 body p = some (r1, r2)) :
    Calls Tryz.prog 20 #[.agg #[.int .i64 h0, .int .i64 h1, .int .i64 h2, .int .i64 h3, .int .i64 h4], .string body, .int .i64 p] w fun e w' => e = .returned (.tuple #[.string r1, .int .i64 r2]) ∧ Below w.heap.size w w' := by
  unfold sealF at h
  by_cases hb : body.size ≤ 1000000
  · rw [if_pos hb] at h
    by_cases hs : sizeB p = true
    · rw [if_pos hs] at h
      obtain ⟨t, hR, h⟩ := Option.bind_eq_some_iff.mp h
      cases t with
      | false =>
        obtain ⟨rfl, rfl⟩ := Prod.mk.inj (Option.some.inj h)
        exact seal_bad k h0 h1 h2 h3 h4 body p false 3 w hb (fun _ => hR) (by unfold mayC; rw [if_pos hs]; rfl) (by decide)
      | true =>
        rw [if_pos rfl] at h
        by_cases hbig : (body.size : Int) > p - 16
        · rw [if_pos hbig] at h
          obtain ⟨rfl, rfl⟩ := Prod.mk.inj (Option.some.inj h)
          exact seal_bad k h0 h1 h2 h3 h4 body p true 8 w hb (fun _ => hR) (by unfold mayC; rw [if_pos hs, if_pos rfl, if_pos hbig]) (by decide)
        · rw [if_neg hbig] at h
          by_cases hok : sealOk h0 h1 h2 h3 h4 = true
          · rw [if_pos hok] at h
            obtain ⟨b, hB, h⟩ := Option.bind_eq_some_iff.mp h
            by_cases h4' : b.size = 4
            · rw [if_pos h4'] at h
              obtain ⟨rfl, rfl⟩ := Prod.mk.inj (Option.some.inj h)
              exact seal_ok k h0 h1 h2 h3 h4 body p b w hb hs hR hbig hok hB h4'
            · rw [if_neg h4'] at h; exact absurd h (by simp)
          · rw [if_neg hok] at h; exact absurd h (by simp)
    · rw [if_neg hs] at h
      obtain ⟨rfl, rfl⟩ := Prod.mk.inj (Option.some.inj h)
      exact seal_bad k h0 h1 h2 h3 h4 body p false 4 w hb (fun q => absurd q hs) (by unfold mayC; rw [if_neg hs]) (by decide)
  · rw [if_neg hb] at h; exact absurd h (by simp)
end Go.Proofs.YtlagllfbomaehaaGreatDoor.A
