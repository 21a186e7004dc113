/- Cuts of lists of columns: small words of the laws of keys. -/
import Derived.Test.YtimnjdgelencpaaDoorKey2
namespace Go.Proofs.YtimnjdgelencpaaDoor.A
open Go Go.RowKit Go.Proofs Go.Proofs.YtimnjdgelencpaaDoorW Go.Proofs.YtimnjdgelencpaaDoorW.PrintWords Go.Proofs.YtimnjdgelencpaaDoorW.PrintMore Go.Proofs.YtimnjdgelencpaaDoor.Spec
set_option linter.unusedSimpArgs false
set_option linter.unusedVariables false
def data24 (l : List S24) : Prop := ∀ x ∈ l, (-9223372036854775808 ≤ x.f1 ∧ x.f1 ≤ 9223372036854775807) ∧ (0 ≤ x.f2 ∧ x.f2 ≤ 18446744073709551615)
theorem cutL_mem {l : List S24} {x : S24} (h : x ∈ cutL l) : ∃ y ∈ l, x = c60 y := by
  obtain ⟨y, hy, e⟩ := List.mem_map.1 h
  exact ⟨y, List.mem_of_mem_take hy, e.symm⟩
theorem cutL_len (l : List S24) : (cutL l).length ≤ 8 := by unfold cutL; rw [List.length_map, List.length_take]; omega
theorem cutL_wfs {l : List S24} (h : data24 l) : wfs (kc (cutL l)) := by
  intro c hc
  obtain ⟨x, hx, rfl⟩ := List.mem_map.1 hc
  obtain ⟨y, hy, rfl⟩ := cutL_mem hx
  have := h y hy
  exact ⟨this.1.1, this.1.2, this.2.1, this.2.2⟩
theorem cutL_60 (l : List S24) : ∀ x ∈ cutL l, x.f3.size ≤ 60 := by
  intro x hx
  obtain ⟨y, hy, rfl⟩ := cutL_mem hx
  exact s60_size y.f3
theorem cutL_texts (l : List S24) : texts (cutL l) := fun x hx => by have := cutL_60 l x hx; omega
theorem body_size : ∀ l : List S24, (∀ x ∈ l, x.f3.size ≤ 60) → (kbody (kc l)).length ≤ 140 * l.length
  | [], _ => by simp [kbody]
  | x :: l, h => by
    have ih := body_size l fun y hy => h y (by simp [hy])
    have h1 := cput_len x.cl
    have h2 := h x (by simp)
    have h3 : x.cl.s.length = x.f3.size := B_len x.f3
    show (kbody (x.cl :: kc l)).length ≤ _
    rw [kbody_cons, List.length_append, List.length_cons]
    omega
theorem cutL_body (l : List S24) : (kbody (kc (cutL l))).length ≤ 1120 := by
  have := body_size (cutL l) (cutL_60 l)
  have := cutL_len l
  omega
theorem cut_put (l : List S24) (h : data24 l) : Ev (fun k => key_Put.f k (cutL l)) (kputR (kc (cutL l))) := by
  have := cutL_body l
  have := cutL_len l
  exact key_Put.ev (cutL l) (cutL_wfs h) (cutL_texts l) (by omega) (by omega)
end Go.Proofs.YtimnjdgelencpaaDoor.A
