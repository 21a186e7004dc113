/- key.read's own cells between two rounds of its loop: three results, two boxes of rows, the box of the text; what an append keeps of them. No condition. -/
import Derived.Test.YtimnjdgelencpaaDoorSeq
import Derived.Shelf.RegionOpen
namespace Go.Proofs.YtimnjdgelencpaaDoor.A
open Go Go.RowKit Go.Proofs Go.Shelf Go.Proofs.YtimnjdgelencpaaDoorW Go.Proofs.YtimnjdgelencpaaDoorW.PrintWords
set_option linter.unusedVariables false
set_option linter.unusedSimpArgs false
theorem stepIn_append_own {F : Fence} {n : Nat} {P : Program} (w : World) {ops : Array Oper} {o : Oper} {a : Act} {K : Act → World → Prop} {Q : Exit → Act → World → Prop} {E : Prop}
  (hg : o.guard = none) (s x : Operand) (t : TypeId) (hop : o.op = Op.call { callee := Callee.builtin Builtin.append, args := #[s, x], argTypes := #[t, t] })
  (base : Nat) (e : TypeId) (i : TypeInfo) (z : Value) (size bytes : Nat) (h1 : P.underlying t = some (.slice e)) (h2 : P.info? e = some i) (h3 : i.zero = some z) (h4 : i.size = size) (h5 : i.bytes = bytes) (h6 : z.cells.size = size) (h7 : 0 < size)
  (v : Value) (k : Nat) (xs : List Value) (hs : a.eval s = v) (hown : w.ownsRow base e size v k xs) (ad : Addr) (m c : Nat) (news : List Value) (hx : a.eval x = .slice (some ad) m c) (hn : news.length = m * size)
  (hc : ∀ j u, news[j]? = some u → w.cell? (ad.add j) = some u) (h1c : ∀ u ∈ news, u.oneCell' = true) (b1 : k + m ≤ maxLen) (b2 : (k + m) * bytes ≤ 140737488355328) (b3 : base ≤ w.heap.size)
  (hK : ∀ v' w', w'.ownsRow base e size v' (k + m) (xs ++ news) → w.grownBy w' v.ownBlock → K (a.put o.dst v') w') :
  if Region.wanted o (yielded ops a.tmps) = true then Oper.wpIn F n P o a w K Q else E := by
 have hw : Region.wanted o (yielded ops a.tmps) = true := by simp [Region.wanted, hg]
 rw [if_pos hw]
 obtain ⟨v', w', hrun, r1, r2, r3⟩ := run_append_own (P := P) w base t o.type e i z size bytes h1 h2 h3 h4 h5 h6 h7 v k xs hown ad m c news hn hc h1c b1 b2 b3
 unfold Oper.wpIn
 refine ⟨?_, ?_⟩
 ·simp [Oper.about, hop, resolve, Target.leads, Sem.run_pure]
 ·rw [Oper.semAt_plain F _ _ (by rw [hop]; intro c hc'; cases hc')]
  simp [execOp, hop, resolve, invoke, builtin, hs, hx, hrun, Result.andThen]
  exact hK v' w' r1 r2
theorem stepIn_run {F : Fence} {n : Nat} {P : Program} {w : World} {ops : Array Oper} {o : Oper} {a : Act} {K : Act → World → Prop} {Q : Exit → Act → World → Prop} {E : Prop} (v : Value) (w' : World)
  (hg : o.guard = none) (hab : o.about P w a.eval = none) (hnd : ∀ c, o.op ≠ .defer c) (hrun : (execOp a.eval o).run P w = .ok (.value v) w') (h : K (a.put o.dst v) w') : if Region.wanted o (yielded ops a.tmps) = true then Oper.wpIn F n P o a w K Q else E := by
 have hw : Region.wanted o (yielded ops a.tmps) = true := by simp [Region.wanted, hg]
 rw [if_pos hw]
 unfold Oper.wpIn
 refine ⟨fun f hf => ?_, ?_⟩
 ·rw [hab] at hf; cases hf
 ·rw [Oper.semAt_plain F _ _ hnd, hrun]
  exact h
theorem C_lit {α : Type} (d : Kd α) (W : World) (e : TypeId) (xs : List α) (inner : List Value) (hr : Reps (d.K (W.alloc (.cells inner.toArray e))) d.sz xs inner) (hm : xs.length ≤ 9223372036854775807) :
  d.C (W.alloc (.cells inner.toArray e)) (some ⟨W.heap.size, 0, none⟩) xs.length xs := by
 obtain ⟨A, c, he, hl, hrow⟩ := OwnRow.reads (OwnRow.lit (e := e) W 0 hr (Nat.zero_le _) hm)
 injection he with h1
 subst h1
 exact hrow
theorem grown_undrew {W w1 : World} {r : Option Nat} (h : W.drew.grownBy w1 r) : W.grownBy w1 r := by
 obtain ⟨h1, h2, h3, h4, h5⟩ := h
 exact ⟨h1, h2, h3, h4, h5⟩
theorem cell_one_next (w : World) (o : Obj) (x : Value) (t : TypeId) : ∀ j u, [x][j]? = some u → ((w.alloc o).alloc (.cells #[x] t)).cell? ((⟨w.heap.size + 1, 0, none⟩ : Addr).add j) = some u := by
 intro j u hj
 have h := cell_one_new (w.alloc o) x t j u hj
 rw [World.size_alloc] at h
 exact h
theorem rows_apart {W : World} {base e size n base' e' size' n' : Nat} {v v' : Value} {xs xs' : List Value} (h : W.ownsRow base e size v n xs) (h' : W.ownsRow base' e' size' v' n' xs') (hne : e ≠ e') : v.ownBlock = none ∨ v.ownBlock ≠ v'.ownBlock := by
 rcases hq : v.ownBlock with _ | g
 ·exact .inl rfl
 ·refine .inr fun e2 => ?_
  obtain ⟨c1, k1⟩ := own_typed h g hq
  obtain ⟨c2, k2⟩ := own_typed h' g e2.symm
  rw [k1] at k2
  injection k2 with k2
  injection k2 with _ k2
  exact hne k2
structure RB (n₀ : Nat) (s : ByteArray) (vl va : Value) (ml : Nat) (L : List Value) (ma : Nat) (A : List Value) (W : World) : Prop where
 bl : Boxed W (n₀ + 1 + 1 + 1 + 1 + 1) 38 vl
 ba : Boxed W (n₀ + 1 + 1 + 1 + 1 + 1 + 1) 81 va
 b2 : Boxed W n₀ 38 (.slice none 0 0)
 b3 : Boxed W (n₀ + 1) 81 (.slice none 0 0)
 b4 : Boxed W (n₀ + 1 + 1) 27 (.int .i64 0)
 bs : Boxed W (n₀ + 1 + 1 + 1 + 1 + 1 + 1 + 1) 9 (.string s)
 rl : W.ownsRow n₀ 24 4 vl ml L
 ra : W.ownsRow n₀ 3 1 va ma A
section
variable {n₀ : Nat} {s : ByteArray} {vl va v' : Value} {ml ma : Nat} {L A L' A' : List Value} {W w1 W' : World} {tmp : Obj}
theorem RB.kept (h : RB n₀ s vl va ml L ma A W) {row : Option Nat} (hg : W.grownBy W' row) (hr : ∀ r, row = some r → ∃ o : Obj, W.heap[r]? = some o ∧ o.isCells = false) : RB n₀ s vl va ml L ma A W' := by
 have hb : ∀ {B t : Nat} {v : Value}, Boxed W B t v → Boxed W' B t v := fun hb => hb.kept hg fun e => by
  obtain ⟨o, ho, hc⟩ := hr _ e.symm
  rw [show W.heap[_]? = _ from hb] at ho; cases ho; cases hc
 have ho : ∀ {base e size n : Nat} {v : Value} {xs : List Value}, W.ownsRow base e size v n xs → W'.ownsRow base e size v n xs := fun h => h.kept hg (by
  rename_i v _
  rcases hq : v.ownBlock with _ | g
  ·exact .inl rfl
  ·refine .inr fun e2 => ?_
   obtain ⟨c1, k1⟩ := own_typed h g hq
   obtain ⟨o, ho, hc⟩ := hr g e2.symm
   rw [k1] at ho; cases ho; cases hc)
 exact ⟨hb h.bl, hb h.ba, hb h.b2, hb h.b3, hb h.b4, hb h.bs, ho h.rl, ho h.ra⟩
theorem RB.step_l (h : RB n₀ s vl va ml L ma A W) (hn : n₀ ≤ W.heap.size) (hown : w1.ownsRow n₀ 24 4 v' (ml + 1) L') (hgrow : (W.alloc tmp).grownBy w1 vl.ownBlock) :
  Boxed w1 (n₀ + 1 + 1 + 1 + 1 + 1) 38 vl ∧ RB n₀ s v' va (ml + 1) L' ma A (w1.setCell ⟨n₀ + 1 + 1 + 1 + 1 + 1, 0, none⟩ v') ∧ KeepsOthers W (w1.setCell ⟨n₀ + 1 + 1 + 1 + 1 + 1, 0, none⟩ v') ∧ Below n₀ W (w1.setCell ⟨n₀ + 1 + 1 + 1 + 1 + 1, 0, none⟩ v') := by
 obtain ⟨h1, h2, h3, h4, h5⟩ := h.bl.appended (by decide) h.rl hn (by omega) hown hgrow
 have mv : ∀ {B t : Nat} {v : Value}, Boxed W B t v → t ≠ 24 → Boxed w1 B t v := fun hb ht => (hb.alloc tmp).kept hgrow (hb.not_row ht h.rl)
 refine ⟨h1, ⟨h2, (mv h.ba (by decide)).other (by omega) _, (mv h.b2 (by decide)).other (by omega) _, (mv h.b3 (by decide)).other (by omega) _, (mv h.b4 (by decide)).other (by omega) _, (mv h.bs (by decide)).other (by omega) _, h3, ?_⟩, h4, h5⟩
 have r1 : w1.ownsRow n₀ 3 1 va ma A := (h.ra.alloc tmp).kept hgrow (rows_apart h.ra h.rl (by decide))
 exact r1.kept (grownBy_setCell' w1 _ v') (.inr (h1.not_row (by decide) r1).symm)
theorem RB.step_a (h : RB n₀ s vl va ml L ma A W) (hn : n₀ ≤ W.heap.size) (hown : w1.ownsRow n₀ 3 1 v' (ma + 1) A') (hgrow : (W.alloc tmp).grownBy w1 va.ownBlock) :
  Boxed w1 (n₀ + 1 + 1 + 1 + 1 + 1 + 1) 81 va ∧ RB n₀ s vl v' ml L (ma + 1) A' (w1.setCell ⟨n₀ + 1 + 1 + 1 + 1 + 1 + 1, 0, none⟩ v') ∧ KeepsOthers W (w1.setCell ⟨n₀ + 1 + 1 + 1 + 1 + 1 + 1, 0, none⟩ v') ∧ Below n₀ W (w1.setCell ⟨n₀ + 1 + 1 + 1 + 1 + 1 + 1, 0, none⟩ v') := by
 obtain ⟨h1, h2, h3, h4, h5⟩ := h.ba.appended (by decide) h.ra hn (by omega) hown hgrow
 have mv : ∀ {B t : Nat} {v : Value}, Boxed W B t v → t ≠ 3 → Boxed w1 B t v := fun hb ht => (hb.alloc tmp).kept hgrow (hb.not_row ht h.ra)
 refine ⟨h1, ⟨(mv h.bl (by decide)).other (by omega) _, h2, (mv h.b2 (by decide)).other (by omega) _, (mv h.b3 (by decide)).other (by omega) _, (mv h.b4 (by decide)).other (by omega) _, (mv h.bs (by decide)).other (by omega) _, ?_, h3⟩, h4, h5⟩
 have r1 : w1.ownsRow n₀ 24 4 vl ml L := (h.rl.alloc tmp).kept hgrow (rows_apart h.rl h.ra (by decide))
 exact r1.kept (grownBy_setCell' w1 _ v') (.inr (h1.not_row (by decide) r1).symm)
end
def Fd.cells : Fd → List Value
 | .ok k i u s _ => [.int .i64 k, .int .i64 i, .int .u64 u, .string s]
 | .bad _ _ => []
def Fd.isOk : Fd → Prop
 | .ok .. => True
 | .bad .. => False
def Fd.to : Fd → Int
 | .ok _ _ _ _ z => z
 | .bad _ a => a
def cellsOf (xs : List Fd) : List Value := xs.flatMap Fd.cells
theorem KpBox.t {Bn : Nat} {A B C : World} (h : KpBox Bn A B) (k : KpBox Bn B C) : KpBox Bn A C := ⟨Nat.le_trans h.1 k.1, k.2.trans h.2⟩
def RI (n₀ : Nat) (s : ByteArray) (w : World) (pre : List Fd) (W : World) : Prop :=
 ((∀ x ∈ pre, x.isOk) ∧ ∃ vl va, RB n₀ s vl va pre.length (cellsOf pre) (pre.length + 1) (.int .i64 0 :: pre.map fun x => .int .i64 x.to) W) ∧ Below n₀ w W
def RX (n₀ : Nat) (w : World) (c : Code) (pre : List Fd) (W : World) : Prop :=
 (c = .ret ∧ ∃ e a, pre.getLast? = some (.bad e a) ∧ Boxed W n₀ 38 (.slice none 0 0) ∧ Boxed W (n₀ + 1) 81 (.slice none 0 0) ∧ Boxed W (n₀ + 1 + 1) 27 (.int .i64 e)) ∧ Below n₀ w W
theorem RI_own (n₀ : Nat) (s : ByteArray) (w : World) (B : Nat) (h1 : n₀ ≤ w.heap.size) (h2 : n₀ ≤ B) : OwnFrom B (RI n₀ s w) :=
 OwnFrom.and (Own.from (fun pre W W' row ⟨h, vl, va, hb⟩ hg hr => ⟨h, vl, va, hb.kept hg hr⟩) B) (ownFrom_below h1 h2)
theorem RX_own (n₀ : Nat) (w : World) (c : Code) (B : Nat) (h1 : n₀ ≤ w.heap.size) (h2 : n₀ ≤ B) : OwnFrom B (RX n₀ w c) :=
 OwnFrom.and (Own.from (fun pre W W' row ⟨hc, e, a, hl, k2, k3, k4⟩ hg hr => ⟨hc, e, a, hl, by
  have hb : ∀ {B t : Nat} {v : Value}, Boxed W B t v → Boxed W' B t v := fun hb => hb.kept hg fun e => by
   obtain ⟨o, ho, hc⟩ := hr _ e.symm
   rw [show W.heap[_]? = _ from hb] at ho; cases ho; cases hc
  exact ⟨hb k2, hb k3, hb k4⟩⟩) B) (ownFrom_below h1 h2)
theorem bad_end {n₀ : Nat} {w W : World} {pre : List Fd} (e a : Int) (B : Nat) (b2 : Boxed W n₀ 38 (.slice none 0 0)) (b3 : Boxed W (n₀ + 1) 81 (.slice none 0 0)) (b4 : Boxed W (n₀ + 1 + 1) 27 (.int .i64 0)) (hB : Below n₀ w W) (o : Obj) :
  KeepsFrom B W ((((W.alloc o).setCell ⟨n₀, 0, none⟩ (.slice none 0 0)).setCell ⟨n₀ + 1, 0, none⟩ (.slice none 0 0)).setCell ⟨n₀ + 1 + 1, 0, none⟩ (.int .i64 e)).drew ∧
   RX n₀ w .ret (pre ++ [Fd.bad e a]) ((((W.alloc o).setCell ⟨n₀, 0, none⟩ (.slice none 0 0)).setCell ⟨n₀ + 1, 0, none⟩ (.slice none 0 0)).setCell ⟨n₀ + 1 + 1, 0, none⟩ (.int .i64 e)).drew := by
 refine ⟨(((((KeepsOthers.alloc _ _).trans (KeepsOthers.setCell _ _ _)).trans (KeepsOthers.setCell _ _ _)).trans (KeepsOthers.setCell _ _ _)).trans (KeepsOthers.drew _)).from B, ⟨rfl, e, a, by simp, ?_, ?_, ?_⟩, ?_⟩
 ·exact ((((b2.alloc o).set _).other (by omega) _).other (by omega) _)
 ·exact ((((b3.alloc o).other (by omega) _).set _).other (by omega) _)
 ·exact ((((b4.alloc o).other (by omega) _).other (by omega) _).set _)
 ·exact ((((hB.alloc (by have := b4.lt; omega) o).setCell (p := ⟨n₀, 0, none⟩) (Nat.le_refl _) _).setCell (p := ⟨n₀ + 1, 0, none⟩) (by simp) _).setCell (p := ⟨n₀ + 1 + 1, 0, none⟩) (by simp; omega) _).drew
theorem ok_end {n₀ : Nat} {s : ByteArray} {w W W1 W2 W3 : World} {pre : List Fd} {vl va v2 v3 : Value} {k i u z : Int} {t : ByteArray} {B : Nat} {o : Obj} {ml ma : Nat} {L A : List Value}
  (hok : ∀ x ∈ pre, x.isOk) (hk1 : KeepsOthers W W1) (hk2 : KeepsOthers W1 W2) (hk3 : KeepsOthers (W2.alloc o) W3) (hn : n₀ ≤ W2.heap.size) (hB2 : Below n₀ w W2) (hb3 : Below n₀ (W2.alloc o) W3) (hR : RB n₀ s vl va ml L ma A W)
  (hR3 : RB n₀ s v2 v3 (pre.length + 1) (cellsOf pre ++ [.int .i64 k, .int .i64 i, .int .u64 u, .string t]) (pre.length + 1 + 1) ((.int .i64 0 :: pre.map fun x => .int .i64 x.to) ++ [.int .i64 z]) W3) :
  KeepsFrom B W W3 ∧ KpBox (n₀ + 1 + 1 + 1 + 1 + 1 + 1 + 1) W W3 ∧ RI n₀ s w (pre ++ [Fd.ok k i u t z]) W3 := by
 have hko : KeepsOthers W W3 := ((hk1.trans hk2).trans (KeepsOthers.alloc _ _)).trans hk3
 refine ⟨hko.from B, ⟨hko.size, (show W3.heap[_]? = _ from hR3.bs).trans (show W.heap[_]? = _ from hR.bs).symm⟩, ⟨?_, v2, v3, ?_⟩, (hB2.alloc hn o).trans hb3⟩
 ·intro x hx
  rw [List.mem_append, List.mem_singleton] at hx
  rcases hx with hx | rfl
  ·exact hok x hx
  ·trivial
 ·have e1 : (pre ++ [Fd.ok k i u t z]).length = pre.length + 1 := by simp
  have e2 : cellsOf (pre ++ [Fd.ok k i u t z]) = cellsOf pre ++ [.int .i64 k, .int .i64 i, .int .u64 u, .string t] := by simp [cellsOf, Fd.cells]
  have e3 : ((.int .i64 0 : Value) :: (pre ++ [Fd.ok k i u t z]).map fun x => .int .i64 x.to) = (.int .i64 0 :: pre.map fun x => .int .i64 x.to) ++ [.int .i64 z] := by simp [Fd.to]
  rw [e1, e2, e3]
  exact hR3
theorem RB.fin {n₀ : Nat} {s : ByteArray} {vl va x y z : Value} {ml ma : Nat} {L A : List Value} {W : World} (h : RB n₀ s vl va ml L ma A W) :
  Boxed (((W.setCell ⟨n₀, 0, none⟩ x).setCell ⟨n₀ + 1, 0, none⟩ y).setCell ⟨n₀ + 1 + 1, 0, none⟩ z) n₀ 38 x ∧ Boxed (((W.setCell ⟨n₀, 0, none⟩ x).setCell ⟨n₀ + 1, 0, none⟩ y).setCell ⟨n₀ + 1 + 1, 0, none⟩ z) (n₀ + 1) 81 y ∧
  Boxed (((W.setCell ⟨n₀, 0, none⟩ x).setCell ⟨n₀ + 1, 0, none⟩ y).setCell ⟨n₀ + 1 + 1, 0, none⟩ z) (n₀ + 1 + 1) 27 z ∧
  KeepsOthers W (((W.setCell ⟨n₀, 0, none⟩ x).setCell ⟨n₀ + 1, 0, none⟩ y).setCell ⟨n₀ + 1 + 1, 0, none⟩ z) ∧ Below n₀ W (((W.setCell ⟨n₀, 0, none⟩ x).setCell ⟨n₀ + 1, 0, none⟩ y).setCell ⟨n₀ + 1 + 1, 0, none⟩ z) ∧
  World.ownsRow (((W.setCell ⟨n₀, 0, none⟩ x).setCell ⟨n₀ + 1, 0, none⟩ y).setCell ⟨n₀ + 1 + 1, 0, none⟩ z) n₀ 24 4 vl ml L ∧ World.ownsRow (((W.setCell ⟨n₀, 0, none⟩ x).setCell ⟨n₀ + 1, 0, none⟩ y).setCell ⟨n₀ + 1 + 1, 0, none⟩ z) n₀ 3 1 va ma A := by
 have q2 := h.b2.set x
 have q3 := (h.b3.other (B' := n₀) (by omega) x).set y
 have q4 := ((h.b4.other (B' := n₀) (by omega) x).other (B' := n₀ + 1) (by omega) y).set z
 have step : ∀ {W : World} {B t e size n : Nat} {b : Nat} {v u : Value} {xs : List Value} (v' : Value), Boxed W B t u → t ≠ e → W.ownsRow b e size v n xs → (W.setCell ⟨B, 0, none⟩ v').ownsRow b e size v n xs :=
  fun v' hb hne hr => hr.kept (grownBy_setCell' _ _ v') (.inr (hb.not_row hne hr).symm)
 refine ⟨(q2.other (by omega) y).other (by omega) z, q3.other (by omega) z, q4, ((KeepsOthers.setCell _ _ _).trans (KeepsOthers.setCell _ _ _)).trans (KeepsOthers.setCell _ _ _),
  (((Below.refl n₀ W).setCell (p := ⟨n₀, 0, none⟩) (Nat.le_refl _) _).setCell (p := ⟨n₀ + 1, 0, none⟩) (by simp) _).setCell (p := ⟨n₀ + 1 + 1, 0, none⟩) (by simp; omega) _, ?_, ?_⟩
 ·exact step z ((h.b4.other (B' := n₀) (by omega) x).other (B' := n₀ + 1) (by omega) y) (by decide) (step y (h.b3.other (B' := n₀) (by omega) x) (by decide) (step x h.b2 (by decide) h.rl))
 ·exact step z ((h.b4.other (B' := n₀) (by omega) x).other (B' := n₀ + 1) (by omega) y) (by decide) (step y (h.b3.other (B' := n₀) (by omega) x) (by decide) (step x h.b2 (by decide) h.ra))
def Fd.col : Fd → S24
 | .ok k i u s _ => ⟨k, i, u, s⟩
 | .bad _ _ => ⟨0, 0, 0, ⟨#[]⟩⟩
def lastTo (xs : List Fd) : Int := (xs.getLast?.map Fd.to).getD 0
def key_read.r (s : ByteArray) (xs : List Fd) : List S24 × List Int × Int :=
 match xs.getLast? with
 | some (.bad e _) => ([], [], e)
 | _ => if lastTo xs = (s.size : Int) - 1 then (xs.map Fd.col, 0 :: xs.map Fd.to, 0) else ([], [], 3)
theorem read_ok (s : ByteArray) {xs : List Fd} (h : ∀ x ∈ xs, x.isOk) : key_read.r s xs = if lastTo xs = (s.size : Int) - 1 then (xs.map Fd.col, 0 :: xs.map Fd.to, 0) else ([], [], 3) := by
 unfold key_read.r
 split
 ·next e a hq => exact absurd (h _ (List.mem_of_getLast? hq)) (by simp [Fd.isOk])
 ·rfl
theorem read_bad (s : ByteArray) {xs : List Fd} {e a : Int} (h : xs.getLast? = some (.bad e a)) : key_read.r s xs = ([], [], e) := by
 unfold key_read.r; rw [h]
theorem places_last (xs : List Fd) : ((.int .i64 0 : Value) :: xs.map fun x => .int .i64 x.to)[xs.length]? = some (.int .i64 (lastTo xs)) := by
 rcases xs.eq_nil_or_concat with rfl | ⟨l, x, rfl⟩
 ·rfl
 ·simp [lastTo]
theorem it_bounds (s : ByteArray) : ∀ (k : Nat) (a : Int) (xs : List Fd), 0 ≤ a → a ≤ s.size → key_read.it k s a = some xs → (xs.length : Int) ≤ s.size - a + 1 ∧ ∀ x ∈ xs, 0 ≤ x.to ∧ x.to ≤ s.size := by
 intro k
 induction k with
 | zero => intro a xs h0 h1 h; simp [key_read.it] at h
 | succ k ih =>
  intro a xs h0 h1 h
  rw [key_read.it] at h
  split at h
  ·obtain ⟨t, hG, h⟩ := Option.bind_eq_some_iff.mp h
   split at h
   ·split at h
    ·next hto =>
     obtain ⟨r, hr, rfl⟩ := Option.map_eq_some_iff.mp h
     obtain ⟨k1, k2⟩ := ih _ _ (by omega) hto.2 hr
     refine ⟨by simp; omega, fun x hx => ?_⟩
     rcases List.mem_cons.1 hx with rfl | hx
     ·simp only [Fd.to]; omega
     ·exact k2 x hx
    ·exact absurd h (by simp)
   ·obtain rfl := Option.some.inj h
    refine ⟨by simp; omega, fun x hx => ?_⟩
    obtain rfl := List.mem_singleton.1 hx
    exact ⟨h0, h1⟩
  ·obtain rfl := Option.some.inj h
   exact ⟨by simp; omega, fun x hx => by cases hx⟩
theorem it_last (s : ByteArray) : ∀ (k : Nat) (a : Int) (xs : List Fd), key_read.it k s a = some xs → ∀ (pre : List Fd) (e b : Int), pre <+: xs → pre.getLast? = some (.bad e b) → pre = xs := by
 intro k
 induction k with
 | zero => intro a xs h; simp [key_read.it] at h
 | succ k ih =>
  intro a xs h pre e b hp hl
  rw [key_read.it] at h
  split at h
  ·obtain ⟨t, hG, h⟩ := Option.bind_eq_some_iff.mp h
   split at h
   ·split at h
    ·obtain ⟨r, hr, rfl⟩ := Option.map_eq_some_iff.mp h
     cases pre with
     | nil => simp at hl
     | cons p pre =>
      obtain ⟨q, hq⟩ := hp
      rw [List.cons_append] at hq
      injection hq with h1 h2
      subst h1
      cases pre with
      | nil => simp at hl
      | cons p2 pre =>
       rw [ih _ _ hr (p2 :: pre) e b ⟨q, h2⟩ (by simpa [List.getLast?_cons_cons] using hl)]
    ·exact absurd h (by simp)
   ·obtain rfl := Option.some.inj h
    cases pre with
    | nil => simp at hl
    | cons p pre =>
     obtain ⟨q, hq⟩ := hp
     rw [List.cons_append] at hq
     injection hq with h1 h2
     obtain rfl := (List.append_eq_nil_iff.1 h2).1
     rw [h1]
  ·obtain rfl := Option.some.inj h
   obtain ⟨q, hq⟩ := hp
   obtain rfl := (List.append_eq_nil_iff.1 hq).1
   simp at hl
theorem lastTo_bounds {s : ByteArray} {xs : List Fd} (h : ∀ x ∈ xs, 0 ≤ x.to ∧ x.to ≤ s.size) : 0 ≤ lastTo xs ∧ lastTo xs ≤ s.size := by
 rcases xs.eq_nil_or_concat with rfl | ⟨l, x, rfl⟩
 ·simp [lastTo]
 ·have := h x (by simp)
  simpa [lastTo] using this
theorem R_ints {w : World} {base n : Nat} {v : Value} {xs : List Int} {c : List Value} (h : w.ownsRow base 3 1 v n c) (hn : n = xs.length) (hc : c = xs.map (Value.int .i64)) : Kd.R (Kd.int .i64) 3 w base (fun _ => True) v xs := by
 subst hn; subst hc
 refine ⟨fun _ _ => trivial, _, h, ?_⟩
 refine ⟨by show (xs.map _).length = xs.length * 1; simp, fun j p hp => ?_⟩
 have hj := (List.getElem?_eq_some_iff.1 hp).1
 show ((xs.map (Value.int .i64)).drop (j * 1)).take 1 = [Value.int .i64 p]
 rw [Nat.mul_one, List.drop_eq_getElem_cons (by simpa using hj)]
 have := (List.getElem?_eq_some_iff.1 hp).2
 simp [this]
theorem R_cols {w : World} {base n : Nat} {v : Value} {xs : List Fd} (h : w.ownsRow base 24 4 v n (cellsOf xs)) (hn : n = xs.length) (hok : ∀ x ∈ xs, x.isOk) : Kd.R k24 24 w base (fun _ => True) v (xs.map Fd.col) := by
 subst hn
 refine ⟨fun _ _ => trivial, cellsOf xs, by rw [List.length_map]; exact h, ?_⟩
 have hr : ∀ (ok : Nat → Prop) (ys : List Fd), (∀ x ∈ ys, x.isOk) → Reps (k24.M w base ok) 4 (ys.map Fd.col) (cellsOf ys) := by
  intro ok ys
  induction ys with
  | nil => intro _; exact Reps.none _ _
  | cons y ys ih =>
   intro hy
   have h1 := ih fun x hx => hy x (by simp [hx])
   cases y with
   | bad e a => exact absurd (hy (.bad e a) (by simp)) (by simp [Fd.isOk])
   | ok k i u t z => exact Reps.c4 (k24_mkM w base ok (⟨k, i, u, t⟩ : S24)) h1
 exact hr _ xs hok
def ReadPost (w : World) (r : List S24 × List Int × Int) (e : Ending) (w' : World) : Prop :=
 ∃ v0 v1 : Value, e = .returned (.tuple #[v0, v1, .int .i64 r.2.2]) ∧ Kd.R k24 24 w' w.heap.size (fun _ => True) v0 r.1 ∧ Kd.R (Kd.int .i64) 3 w' w.heap.size (fun _ => True) v1 r.2.1 ∧ Below w.heap.size w w'
end Go.Proofs.YtimnjdgelencpaaDoor.A
