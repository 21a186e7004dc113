/- chain.Parts: a value's parts. Condition: pages of 100 to 2000 bytes, values of at most a million bytes. -/
import Derived.Test.YtlagllfbomaehaaGreatDoorCuts
namespace Go.Proofs.YtlagllfbomaehaaGreatDoor.A
open Go Go.RowKit Go.Proofs Go.Shelf Go.Proofs.YtlagllfbomaehaaGreatDoorW Go.Proofs.YtlagllfbomaehaaGreatDoorW.PrintWords Go.Proofs.YtlagllfbomaehaaGreatDoor.Box
attribute [local go_sem] Oper.semAt_some
set_option linter.unusedVariables false
set_option linter.unusedSimpArgs false
theorem cuts_calls (s : ByteArray) (room : Int) (w : World) : Calls Tryz.prog 27 #[.string s, .int .i64 room] w fun e w' => e = .returned (.func (.func 47) #[] #[.pointer (some ⟨w.heap.size, 0, none⟩), .pointer (some ⟨w.heap.size + 1, 0, none⟩)]) ∧ w' = (w.alloc (.cells #[.string s] 9)).alloc (.cells #[.int .i64 room] 3) := by
  go_enter Tryz.func27, Tryz.ntmps27
  go_wp2
  go_ret
  exact ⟨rfl, rfl⟩
theorem cuts_stops (s : ByteArray) (hs : s.size ≤ 1000000) (r : Nat) (hr0 : 1 ≤ r) (hr1 : r ≤ 2000) (Bv Br : Nat) (hne : Bv ≠ Br) (w0 : World) (hBv : Boxed w0 Bv 9 (.string s)) (hBr : Boxed w0 Br 3 (.int .i64 (r : Nat))) :
    SeqBox Bv Fence.wide 3 Tryz.prog 47 #[.pointer (some ⟨Bv, 0, none⟩), .pointer (some ⟨Br, 0, none⟩)] (fun x : ByteArray => #[.string x]) (KpTwo Bv Br) (fun ys => ys = cutsL r s.size s) (fun pre => pre <+: cutsL r s.size s) (cutsL r s.size s).length w0 :=
  fun l J Jx W hW hJ hJx hJs hJxs hY h0 => cuts1_in s hs r hr0 hr1 Bv Br hne l J Jx W hJ hJs hY ((hW.block Bv hBv.lt).trans hBv) ((hW.block Br hBr.lt).trans hBr) h0
theorem own_ge {W : World} {base : Nat} {e : TypeId} {size : Nat} {v : Value} {n : Nat} {xs : List Value} (h : W.ownsRow base e size v n xs) {g : Nat} (hg : some g = v.ownBlock) : base ≤ g := by
  rcases h.2 with ⟨rfl, _⟩ | ⟨g', cap, cur, rfl, hb, _⟩
  · simp [Value.ownBlock] at hg
  · obtain rfl : g = g' := by simpa [Value.ownBlock] using hg
    exact hb
def PI (n₀ : Nat) (w : World) (pre : List ByteArray) (W : World) : Prop :=
  (∃ v, Boxed W n₀ 42 v ∧ W.ownsRow (n₀ + 1 + 1 + 1) 9 1 v pre.length (pre.map Value.string) ∧ True) ∧ Below n₀ w W ∧ n₀ + 1 + 1 + 1 ≤ W.heap.size
theorem PI_own (n₀ : Nat) (w : World) (B : Nat) (h1 : n₀ ≤ w.heap.size) (h2 : n₀ ≤ B) : OwnFrom B (PI n₀ w) :=
  OwnFrom.and ((holdsRow_own (n₀ + 1 + 1 + 1) n₀ 42 9 1 List.length (fun pre => pre.map Value.string) (fun _ _ => True)).from B) (OwnFrom.and (ownFrom_below h1 h2) (fun s W W' row h hg _ => Nat.le_trans h hg.size))
theorem PI_set {n₀ : Nat} {w : World} (p : List ByteArray) (W : World) (x : Value) (h : PI n₀ w p W) : PI n₀ w p (W.setCell ⟨n₀ + 1, 0, none⟩ x) := by
  obtain ⟨⟨v, hv, hr, _⟩, hb, hs⟩ := h
  refine ⟨⟨v, hv.other (by omega) _, hr.kept (grownBy_setCell' W (n₀ + 1) x) ?_, trivial⟩, hb.setCell (p := ⟨n₀ + 1, 0, none⟩) (by simp) x, by simp; omega⟩
  rcases hq : v.ownBlock with _ | g
  · exact .inl rfl
  · refine .inr fun e => ?_
    have := own_ge hr hq.symm
    injection e with e
    omega
theorem cutsL_length (r : Nat) : ∀ (k : Nat) (s : ByteArray), (cutsL r k s).length ≤ k
  | 0, _ => Nat.le_refl _
  | k + 1, s => by
    unfold cutsL
    split
    · simp
    · have := cutsL_length r k (s.extract (min r s.size) s.size)
      simp; omega
theorem R_strs {w : World} {base n : Nat} {v : Value} {xs : List ByteArray} {c : List Value} (h : w.ownsRow base 9 1 v n c) (hn : n = xs.length) (hc : c = xs.map Value.string) : Kd.R Kd.string 9 w base (fun _ => True) v xs := by
  subst hn; subst hc
  refine ⟨fun _ _ => trivial, _, h, ?_⟩
  refine ⟨by show (xs.map _).length = xs.length * 1; simp, fun j p hp => ?_⟩
  have hj := (List.getElem?_eq_some_iff.1 hp).1
  show ((xs.map Value.string).drop (j * 1)).take 1 = [Value.string p]
  rw [Nat.mul_one, List.drop_eq_getElem_cons (by simpa using hj)]
  have := (List.getElem?_eq_some_iff.1 hp).2
  simp [this]
theorem KpTwo_t {Bv Br : Nat} {A B C : World} (h : KpTwo Bv Br A B) (k : KpTwo Bv Br B C) : KpTwo Bv Br A C := ⟨Nat.le_trans h.1 k.1, k.2.1.trans h.2.1, k.2.2.trans h.2.2⟩
theorem infoS : (Tryz.prog.info? 9).map (fun i => (i.zero, i.size, i.bytes)) = some (some (.string ⟨#[]⟩), 1, 16) := by kernel_rfl
theorem parts_step {n₀ : Nat} {w W w1 : World} {pre : List ByteArray} {v v' : Value} {tmp : Obj} (x : ByteArray) (hv : Boxed W n₀ 42 v) (hrow : W.ownsRow (n₀ + 1 + 1 + 1) 9 1 v pre.length (pre.map Value.string)) (hB : Below n₀ w W) (hsz : n₀ + 1 + 1 + 1 ≤ W.heap.size)
    (hown' : w1.ownsRow (n₀ + 1 + 1 + 1) 9 1 v' (pre.length + 1) (pre.map Value.string ++ [.string x])) (hgrow : (W.alloc tmp).grownBy w1 v.ownBlock) (B : Nat) :
    Boxed w1 n₀ 42 v ∧ KeepsFrom B W (w1.setCell ⟨n₀, 0, none⟩ v') ∧ KpTwo (n₀ + 1) (n₀ + 1 + 1) W (w1.setCell ⟨n₀, 0, none⟩ v') ∧ PI n₀ w (pre ++ [x]) (w1.setCell ⟨n₀, 0, none⟩ v') := by
  obtain ⟨h1, h2, h3, h4, h5⟩ := hv.appended (n₀ := n₀) (by decide) (own_less hrow (by omega)) (by omega) (Nat.le_refl _) (own_less hown' (by omega)) hgrow
  have far : ∀ k, k = n₀ + 1 ∨ k = n₀ + 1 + 1 → (w1.setCell ⟨n₀, 0, none⟩ v').heap[k]? = W.heap[k]? := fun k hk => by
    rw [setCell_far w1 n₀ v' (by omega)]
    refine (hgrow.block k (by simp; omega) (fun e => ?_)).trans (Below.heap_alloc W tmp k (by omega))
    have := own_ge hrow e
    omega
  refine ⟨h1, h4.from B, ⟨h4.size, far _ (.inl rfl), far _ (.inr rfl)⟩, ⟨⟨v', h2, ?_, trivial⟩, hB.trans h5, Nat.le_trans hsz h4.size⟩⟩
  rw [List.length_append, List.map_append]
  exact hown'.kept (grownBy_setCell' w1 n₀ v') (.inr (h1.not_row (by decide) hown').symm)
set_option maxRecDepth 100000 in
set_option maxHeartbeats 4000000 in
theorem parts_in (s : ByteArray) (hs : s.size ≤ 1000000) (p : Int) (h0 : 100 ≤ p) (h1 : p ≤ 2000) (w : World) : CallsIn Fence.wide 4 Tryz.prog 15 #[.string s, .int .i64 p] w fun e w' => ∃ v0_ : Value, e = .returned v0_ ∧ Kd.R Kd.string 9 w' w.heap.size (fun _ => True) v0_ (cutsL (p - 16).toNat s.size s) ∧ Below w.heap.size w w' := by
  obtain ⟨r, hr⟩ := Int.eq_ofNat_of_zero_le (show 0 ≤ p - 16 by omega)
  have hr0 : 1 ≤ r := by omega
  have hr1 : r ≤ 2000 := by omega
  have HR : Hid ((p - 16).toNat = r) := Lib.hid (by omega)
  rw [show p = (r : Int) + 16 from by omega]
  clear hr h0 h1
  refine callsIn_of_wp_marks Tryz.func15 rfl trivial ?_ rfl
  simp only [Tryz.ntmps15, List.size_toArray, List.length_cons, List.length_nil, Nat.reduceAdd, Nat.reduceSub, Array.replicate_succ, Array.replicate_zero, List.push_toArray, List.append_toArray, List.nil_append, List.cons_append]
  gi_wp2_with (refine ⟨trivial, ?_⟩; gi_at_call 27; refine (callsIn_wide.2 (cuts_calls s _ _)).mono ?_; rintro e w2 ⟨rfl, rfl⟩)
  have hsz3 : (((w.alloc (.cells #[.slice none 0 0] 42)).alloc (.cells #[.string s] 9)).alloc (.cells #[.int .i64 (r : Nat)] 3)).heap.size = w.heap.size + 1 + 1 + 1 := by simp only [World.size_alloc]
  have hbo : Boxed (((w.alloc (.cells #[.slice none 0 0] 42)).alloc (.cells #[.string s] 9)).alloc (.cells #[.int .i64 (r : Nat)] 3)) w.heap.size 42 (.slice none 0 0) := ((Boxed.new w _ _).alloc _).alloc _
  have hbv : Boxed (((w.alloc (.cells #[.slice none 0 0] 42)).alloc (.cells #[.string s] 9)).alloc (.cells #[.int .i64 (r : Nat)] 3)) (w.heap.size + 1) 9 (.string s) := by
    have := (Boxed.new (w.alloc (.cells #[.slice none 0 0] 42)) 9 (.string s)).alloc (.cells #[.int .i64 (r : Nat)] 3)
    rwa [World.size_alloc] at this
  have hbr : Boxed (((w.alloc (.cells #[.slice none 0 0] 42)).alloc (.cells #[.string s] 9)).alloc (.cells #[.int .i64 (r : Nat)] 3)) (w.heap.size + 1 + 1) 3 (.int .i64 (r : Nat)) := by
    have := Boxed.new ((w.alloc (.cells #[.slice none 0 0] 42)).alloc (.cells #[.string s] 9)) 3 (.int .i64 (r : Nat))
    rwa [World.size_alloc, World.size_alloc] at this
  have hB0 : Below w.heap.size w (((w.alloc (.cells #[.slice none 0 0] 42)).alloc (.cells #[.string s] 9)).alloc (.cells #[.int .i64 (r : Nat)] 3)) := (((Below.refl _ w).alloc (Nat.le_refl _) _).alloc (by simp) _).alloc (by simp; omega) _
  generalize (((w.alloc (.cells #[.slice none 0 0] 42)).alloc (.cells #[.string s] 9)).alloc (.cells #[.int .i64 (r : Nat)] 3)) = W3 at *
  have hlen := cutsL_length r s.size s
  refine wpIn_rangeFunc_box rfl (by decide) (gf := 47) (lb := #[.pointer (some ⟨w.heap.size + 1, 0, none⟩), .pointer (some ⟨w.heap.size + 1 + 1, 0, none⟩)]) rfl trivial (enters_of Tryz.func47 (by kernel_rfl) rfl)
    (cuts_stops s hs r hr0 hr1 (w.heap.size + 1) (w.heap.size + 1 + 1) (by omega) W3 hbv hbr) (by omega) (fun h k => KpTwo_t h k) (fun W l o o' h1 h2 h3 h4 => ⟨by simp, World.putObj_heap_other (by omega), World.putObj_heap_other (by omega)⟩) (Below.refl _ _) (fun _ => rfl)
    (PI w.heap.size w) (fun _ _ _ => False) (PI_own _ _ _ (Nat.le_refl _) (by omega)) (fun _ _ _ _ _ h _ _ => h) PI_set (fun _ _ _ _ h => h) ⟨⟨_, hbo, World.ownsRow_nil _ _ _ _, trivial⟩, hB0, by omega⟩
    (fun x => { tmps := #[.string s, .int .i64 (↑r + 16), undef, undef, .slice none 0 0, .pointer (some ⟨w.heap.size, 0, none⟩), .string x, .string s, .int .i64 (↑r + 16), .int .i64 ↑r,
      .func (.func 47) #[] #[.pointer (some ⟨w.heap.size + 1, 0, none⟩), .pointer (some ⟨w.heap.size + 1 + 1, 0, none⟩)], .string x, undef, undef, undef, undef, undef], defers := [] }) ?assign ?body ?done ?stop
  case assign =>
    intro l x W K hK
    gi_wp2
    exact hK
  case body =>
    rintro l pre x W ⟨⟨v, hv, hrow, _⟩, hB, hsz⟩ hlt
    have hc := hv.cell
    obtain ⟨i0, hi, hz0, hz1, hz2⟩ := info_parts infoS
    gi_wp2_with (gi_at_builtin; refine wpListIn_append_own _ rfl _ _ 42 rfl (w.heap.size + 1 + 1 + 1) 9 i0 (.string ⟨#[]⟩) 1 16 Tryz.underlying42 hi hz0 hz1 hz2 rfl (by decide) _ _ _ rfl (hrow.alloc _) ⟨W.heap.size, 0, none⟩ 1 1 [.string x] rfl rfl (cell_one_new _ _ _) (by simp [Value.oneCell']) (by unfold maxLen; omega) (by omega) (by simp; omega) ?_; intro v' w1 hown' hgrow _; obtain ⟨g', cap', rfl⟩ := ownsRow_succ hown'; have hap := parts_step x hv hrow hB hsz hown' hgrow W3.heap.size; have hc1 := hap.1.cell; have hf1 := hap.1.frozen)
    exact ⟨hap.2.1, hap.2.2.1, hap.2.2.2⟩
  case done =>
    rintro D ys W hD rfl ⟨⟨v, hv, hrow, _⟩, hB, hsz⟩ hK
    have hc := hv.cell
    gi_wp2
    refine ⟨by simp, .inl ⟨_, _, rfl, run_takeDeferred hK, ?_⟩⟩
    refine ⟨v, ?_, ?_⟩
    · simp [results, Tryz.f15, go_sem]
    · rw [show ((r : Int) + 16 - 16).toNat = r from by omega]
      exact ⟨_, rfl, R_strs (own_less (ownsRow_putObj hrow _ hK rfl) (by omega)) rfl rfl, hB.trans (belowK_b (w := w) (Nat.le_refl _) W D _ _ (by omega) hK rfl rfl)⟩
  case stop =>
    rintro D c pre W _ _ h
    exact h.elim
end Go.Proofs.YtlagllfbomaehaaGreatDoor.A
