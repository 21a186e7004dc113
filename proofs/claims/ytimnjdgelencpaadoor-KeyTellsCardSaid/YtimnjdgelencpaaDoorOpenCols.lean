/- A list of columns that came in, opened: each column's cells, and its numbers' ranges. No condition. -/
import Derived.Test.YtimnjdgelencpaaDoorKAux
import Derived.Deep.Slices
import Derived.ChangeSame
import Derived.ProofKit
import Derived.OpenShut
import Derived.ShutString
import Derived.LaidMore
namespace Go.Proofs.YtimnjdgelencpaaDoor.A
open Go Go.RowKit Go.Proofs Go.ChangeShapes Go.WideShapes Go.Proofs.YtimnjdgelencpaaDoorW Go.Proofs.YtimnjdgelencpaaDoorW.PrintWords Go.Proofs.YtimnjdgelencpaaDoor.Spec
set_option linter.unusedSimpArgs false
set_option linter.unusedVariables false
set_option maxRecDepth 100000 in
theorem open_cols {H : Type} {enc : TypeId × Value → H} {w : World} {base b0 : Nat} {spare : Nat → Bool} {held : Bool} {r : Reach} {v : Value} {d : DataW H} {p : List MemPlace}
  (hv : Value.okWide Tryd.prog w r b0 38 v) (h : DataW.Trod enc Tryd.prog w base spare held 38 v d p) :
  ∃ (A : Option Addr) (c : Nat) (l : List S24), v = .slice A l.length c ∧ l.length ≤ c ∧ Kd.C k24 w A l.length l ∧ data24 l := by
 obtain ⟨a, len, cap, rfl⟩ := okWide_slice Tryd.underlying38 hv
 obtain ⟨fuel, hf⟩ := h
 rcases Deep.open_slice Tryd.underlying38 hf with ⟨e1, _⟩ | ⟨a', len', cap', m, n, D, Pl, e1, hb, hl, hm, hmm, _, hx⟩
 ·simp [Value.cells] at e1
  obtain ⟨rfl, rfl, rfl⟩ := e1
  exact ⟨none, 0, [], rfl, Nat.le_refl _, Kd.C_nil _ _, fun x hx => by cases hx⟩
 ·simp [Value.cells] at e1
  obtain ⟨rfl, rfl, rfl⟩ := e1
  have hce : Tryd.prog.cellsOf 24 = 4 := by kernel_rfl
  have hlm : len ≤ m := by rw [hmm]; split <;> omega
  have each : ∀ i, i < len → ∃ x : S24, (w.cell? (a'.add (i * 4)) = some (.int .i64 x.f0) ∧ w.cell? (a'.add (i * 4 + 1)) = some (.int .i64 x.f1) ∧ w.cell? (a'.add (i * 4 + 2)) = some (.int .u64 x.f2) ∧ w.cell? (a'.add (i * 4 + 3)) = some (.string x.f3)) ∧
    (-9223372036854775808 ≤ x.f1 ∧ x.f1 ≤ 9223372036854775807) ∧ (0 ≤ x.f2 ∧ x.f2 ≤ 18446744073709551615) := by
   intro i hi
   obtain ⟨cs', h1, h2⟩ := hx i (by omega)
   rw [hce] at h1
   obtain ⟨_, hlen, hcell⟩ := World.cells?_some h1
   obtain ⟨xs, k, hk, hxy, _, hxl, hfs⟩ := DataW.trod_struct Tryd.underlying24 h2
   have c3 : Tryd.prog.cellsOf 3 = 1 := by kernel_rfl
   have c2 : Tryd.prog.cellsOf 2 = 1 := by kernel_rfl
   have cu : Tryd.prog.cellsOf 22 = 1 := by kernel_rfl
   have cs : Tryd.prog.cellsOf 9 = 1 := by kernel_rfl
   match xs, hxl, cs', hlen with
   | [y0, y1, y2, y3], _, [v0, v1, v2, v3], _ =>
    have g0 := hfs 0 _ rfl
    have g1 := hfs 1 _ rfl
    have g2 := hfs 2 _ rfl
    have g3 := hfs 3 _ rfl
    simp [c3, c2, cu, cs] at g0 g1 g2 g3
    have e0 := hcell 0 (by omega)
    have e1 := hcell 1 (by omega)
    have e2 := hcell 2 (by omega)
    have e3 := hcell 3 (by omega)
    rw [Deep.add_add] at e0 e1 e2 e3
    obtain ⟨n0, q0, _, _⟩ := DataW.trod_int Tryd.underlying3 g0
    obtain ⟨n1, q1, _, w1⟩ := DataW.trod_int Tryd.underlying2 g1
    obtain ⟨n2, q2, _, w2⟩ := DataW.trod_int Tryd.underlying22 g2
    obtain ⟨n3, q3, _, _⟩ := DataW.trod_string Tryd.underlying9 g3
    obtain rfl : v0 = .int .i64 n0 := by simpa using q0
    obtain rfl : v1 = .int .i64 n1 := by simpa using q1
    obtain rfl : v2 = .int .u64 n2 := by simpa using q2
    obtain rfl : v3 = .string n3 := by simpa using q3
    exact ⟨⟨n0, n1, n2, n3⟩, ⟨by simpa using e0, by simpa using e1, by simpa using e2, by simpa using e3⟩, bounds_i64 w1, bounds_u64 w2⟩
  haveI : Inhabited S24 := ⟨z24⟩
  obtain ⟨f, hf2⟩ := Deep.choose_lt each
  refine ⟨some a', cap, (List.range len).map f, by rw [List.length_map, List.length_range], by rw [List.length_map, List.length_range]; exact hl, ⟨rfl, by rw [List.length_map, List.length_range]; unfold maxLen at hm; omega, fun _ => ⟨a', rfl, ?_⟩⟩, ?_⟩
  ·intro j q hq
   have hj : j < len := by have := (List.getElem?_eq_some_iff.1 hq).1; simpa using this
   rw [List.getElem?_map, List.getElem?_range hj] at hq
   simp at hq
   subst hq
   refine ⟨_, rfl, k24_mk w (f j), ?_⟩
   obtain ⟨k0, k1, k2, k3⟩ := (hf2 j hj).1
   intro i u hi
   match i, hi with
   | 0, hi => simp at hi; subst hi; exact k0
   | 1, hi => simp at hi; subst hi; exact k1
   | 2, hi => simp at hi; subst hi; exact k2
   | 3, hi => simp at hi; subst hi; exact k3
  ·intro x hx
   obtain ⟨i, hi, rfl⟩ := List.mem_map.1 hx
   exact (hf2 i (List.mem_range.1 hi)).2
end Go.Proofs.YtimnjdgelencpaaDoor.A
