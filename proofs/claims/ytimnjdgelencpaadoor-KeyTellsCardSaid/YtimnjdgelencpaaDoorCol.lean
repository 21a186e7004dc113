/- The print's col.Right, col.Put, col.Compare say what the plain words say. Condition: whole numbers in their kinds' ranges, texts of at most a million bytes. -/
import Derived.Test.YtimnjdgelencpaaDoorGet
import Derived.Test.YtimnjdgelencpaaDoorAColPut
import Derived.Test.YtimnjdgelencpaaDoorAG3
namespace Go.Proofs.YtimnjdgelencpaaDoor.A
open Go Go.RowKit Go.Proofs Go.Proofs.YtimnjdgelencpaaDoorW Go.Proofs.YtimnjdgelencpaaDoorW.PrintWords Go.Proofs.YtimnjdgelencpaaDoor.Spec
set_option linter.unusedSimpArgs false
set_option linter.unusedVariables false
theorem ev_const {α : Type} {o : Option α} {r : α} (h : o = some r) : Ev (fun _ => o) r := Ev.congr (fun _ => h) (Ev.now r)
theorem col_Right.tail (k i u : Int) (s : ByteArray) (k' i' u' : Int) (s' : ByteArray) (r : Bool)
  (h : r = ((k == k' && (i == i' && (u == u' && (B s == B s')))) && (!(k == 1) || decide (u ≤ 1)))) :
  Ev (fun _ : Nat => if (k == k' && (i == i' && (u == u' && (s.toList == s'.toList)))) = true then (if k = 1 then (some (decide (u ≤ 1))) else (some true)) else (some false)) r := by
 refine ev_const ?_
 rw [B_toList, B_toList, h]
 by_cases h1 : (k == k' && (i == i' && (u == u' && (B s == B s')))) = true
 ·rw [if_pos h1, h1]
  by_cases h2 : k = 1
  ·rw [if_pos h2]; simp [h2]
  ·rw [if_neg h2]; simp [h2]
 ·rw [if_neg h1]
  have := Bool.eq_false_iff.2 h1
  rw [this]; rfl
theorem col_Right.ev (k i u : Int) (s : ByteArray) : Ev (fun n => col_Right.f n k i u s) (Cl.right ⟨k, i, u, B s⟩) := by
 unfold col_Right.f
 have e0 : B (⟨#[]⟩ : ByteArray) = [] := rfl
 by_cases h0 : k ≥ 0
 ·refine evpos h0 ?_
  by_cases h5 : k < 5
  ·refine evpos h5 ?_
   have hk : k = 0 ∨ k = 1 ∨ k = 2 ∨ k = 3 ∨ k = 4 := by omega
   rcases hk with rfl | rfl | rfl | rfl | rfl
   ·refine evbind (a := (0, 0, 0, ⟨#[]⟩)) ?_ ?_
    ·unfold col_only.f
     refine evneg (by decide) (Ev.step (fun n => col_only.j0.eq_2 ..) ?_)
     exact evneg (by decide) (evneg (by decide) (evneg (by decide) (Ev.now _)))
    ·refine col_Right.tail _ _ _ _ _ _ _ _ _ ?_
     rw [e0]; simp [Cl.right, Bool.and_assoc]
   ·refine evbind (a := (1, 0, u, ⟨#[]⟩)) ?_ ?_
    ·unfold col_only.f
     refine evpos (by decide) (Ev.step (fun n => col_only.j0.eq_2 ..) ?_)
     exact evpos (by decide) (Ev.now _)
    ·refine col_Right.tail _ _ _ _ _ _ _ _ _ ?_
     rw [e0]; simp [Cl.right, Bool.and_assoc, Bool.and_comm]
   ·refine evbind (a := (2, i, 0, ⟨#[]⟩)) ?_ ?_
    ·unfold col_only.f
     refine evneg (by decide) (Ev.step (fun n => col_only.j0.eq_2 ..) ?_)
     exact evneg (by decide) (evpos (by decide) (Ev.now _))
    ·refine col_Right.tail _ _ _ _ _ _ _ _ _ ?_
     rw [e0]; simp [Cl.right, Bool.and_assoc]
   ·refine evbind (a := (3, 0, u, ⟨#[]⟩)) ?_ ?_
    ·unfold col_only.f
     refine evneg (by decide) (Ev.step (fun n => col_only.j0.eq_2 ..) ?_)
     exact evpos (by decide) (Ev.now _)
    ·refine col_Right.tail _ _ _ _ _ _ _ _ _ ?_
     rw [e0]; simp [Cl.right, Bool.and_assoc]
   ·refine evbind (a := (4, 0, 0, s)) ?_ ?_
    ·unfold col_only.f
     refine evneg (by decide) (Ev.step (fun n => col_only.j0.eq_2 ..) ?_)
     exact evneg (by decide) (evneg (by decide) (evpos (by decide) (Ev.now _)))
    ·refine col_Right.tail _ _ _ _ _ _ _ _ _ ?_
     simp [Cl.right, Bool.and_assoc]
  ·refine evneg h5 (evof (Ev.now _) ?_)
   have : ¬ k = 0 ∧ ¬ k = 1 ∧ ¬ k = 2 ∧ ¬ k = 3 ∧ ¬ k = 4 := by omega
   simp [Cl.right, this]
 ·refine evneg h0 (evof (Ev.now _) ?_)
  have : ¬ k = 0 ∧ ¬ k = 1 ∧ ¬ k = 2 ∧ ¬ k = 3 ∧ ¬ k = 4 := by omega
  simp [Cl.right, this]
theorem esc0_esc (l : Bytes) : Hand.esc0 l = esc l := by
 induction l with
 | nil => rfl
 | cons c l ih =>
  have : Hand.esc0 (c :: l) = (if c = 0 then [0, 255] else [c]) ++ Hand.esc0 l := rfl
  rw [this, ih]
  by_cases h : c = 0 <;> simp [esc, h]
theorem wide_be (n : Nat) (h : n < 256 ^ 8) : sn (Hand.wideL (n : Int)) = be 8 n := by
 have e : ∀ m k : Nat, (((m / 256 ^ k % 256 : Nat) : Int)).toNat = m / 256 ^ k % 256 := fun _ _ => rfl
 rw [be_head 7, be_head 6, be_head 5, be_head 4, be_head 3, be_head 2, be_head 1, be_head 0]
 have h7 : ((n : Int) / 72057594037927936).toNat = n / 256 ^ 7 % 256 := by omega
 have h6 : ((n : Int) / 281474976710656 % 256).toNat = n / 256 ^ 6 % 256 := by omega
 have h5 : ((n : Int) / 1099511627776 % 256).toNat = n / 256 ^ 5 % 256 := by omega
 have h4 : ((n : Int) / 4294967296 % 256).toNat = n / 256 ^ 4 % 256 := by omega
 have h3 : ((n : Int) / 16777216 % 256).toNat = n / 256 ^ 3 % 256 := by omega
 have h2 : ((n : Int) / 65536 % 256).toNat = n / 256 ^ 2 % 256 := by omega
 have h1 : ((n : Int) / 256 % 256).toNat = n / 256 ^ 1 % 256 := by omega
 have h0 : ((n : Int) % 256).toNat = n / 256 ^ 0 % 256 := by omega
 simp only [sn, Hand.wideL, List.map_cons, List.map_nil, h7, h6, h5, h4, h3, h2, h1, h0, be]
def putR (c : Cl) : ByteArray × Int := if c.right = true then (⟨(cput c).toArray⟩, 0) else (⟨#[]⟩, 3)
theorem str_cat (a b : Bytes) : (⟨a.toArray⟩ : ByteArray) ++ (⟨b.toArray⟩ : ByteArray) = ⟨(a ++ b).toArray⟩ := ba_ext (by rw [B_append, B_mk, B_mk, B_mk])
theorem esc_le (l : Bytes) : (esc l).length ≤ 2 * l.length := by
 rw [esc_len]; have := List.count_le_length (a := (0 : UInt8)) (l := l); omega
theorem vput_len (n : Nat) : (vput n).length ≤ 9 := by
 have := wd_le n
 unfold vput
 (repeat' split) <;> simp [be_len] <;> omega
theorem col_Put.ev (k i u : Int) (s : ByteArray) (hw : Cl.wf ⟨k, i, u, B s⟩) (hs : s.size ≤ 1000000) : Ev (fun n => col_Put.f n k i u s) (putR ⟨k, i, u, B s⟩) := by
 unfold col_Put.f
 refine evbind (col_Right.ev k i u s) ?_
 unfold putR
 by_cases hr : Cl.right ⟨k, i, u, B s⟩ = true
 ·refine evpos hr ?_
  rw [if_pos hr]
  obtain ⟨w1, w2, w3, w4⟩ := hw
  unfold col_Put.g
  rcases right_cases hr with e | ⟨e, h1⟩ | e | e | e <;> simp only [Cl.mk.injEq] at e
  ·obtain ⟨rfl, rfl, rfl, -⟩ := e
   exact evpos rfl (evof (Ev.now _) rfl)
  ·obtain ⟨rfl, rfl, -, -⟩ := e
   simp only at h1 w3
   refine evneg (by decide) (evpos rfl (evpos w3 (evpos h1 (evof (Ev.now _) ?_))))
   have : u = 0 ∨ u = 1 := by omega
   rcases this with rfl | rfl <;> rfl
  ·obtain ⟨rfl, -, rfl, -⟩ := e
   simp only at w1 w2
   refine evneg (by decide) (evneg (by decide) (evpos rfl (evof (Ev.now _) ?_)))
   obtain ⟨n, hn⟩ := Int.eq_ofNat_of_zero_le (show 0 ≤ i + 9223372036854775808 by omega)
   rw [xor_put i ⟨w1, w2⟩, hn, sn_eq, sn_eq, wide_be n (by omega), str_cat, cput_2, hn]
   rfl
  ·obtain ⟨rfl, rfl, -, -⟩ := e
   simp only at w3 w4
   refine evneg (by decide) (evneg (by decide) (evneg (by decide) (evpos rfl ?_)))
   obtain ⟨n, rfl⟩ := Int.eq_ofNat_of_zero_le w3
   refine evbind (word_Put.ev n (by omega)) ?_
   have hl := vput_len n
   refine evpos (by show (vput n).length ≤ 100; omega) (evof (Ev.now _) ?_)
   rw [sn_eq, str_cat, cput_3]
   rfl
  ·obtain ⟨rfl, rfl, rfl, -⟩ := e
   refine evneg (by decide) (evneg (by decide) (evneg (by decide) (evneg (by decide) (evpos rfl (evpos hs (evof (Ev.now _) ?_))))))
   rw [sn_eq, esc0_esc, str_cat (sn [80]) (esc s.data.toList), show (⟨#[0, 1]⟩ : ByteArray) = ⟨[0, 1].toArray⟩ from rfl, str_cat, cput_4]
   simp [sn]
 ·refine evneg hr ?_
  rw [if_neg hr]
  exact Ev.now _
theorem cmp_int (a b : Int) : cmp_Compare_int.f a b = some (sgn a b) := by
 unfold cmp_Compare_int.f cmp_isNaN_int.f sgn
 simp only [bne_self_eq_false, Option.bind_some, Bool.false_eq_true, if_false]
 (repeat' split) <;> rfl
theorem cmp_int64 (a b : Int) : cmp_Compare_int64.f a b = some (sgn a b) := by
 unfold cmp_Compare_int64.f cmp_isNaN_int64.f sgn
 simp only [bne_self_eq_false, Option.bind_some, Bool.false_eq_true, if_false]
 (repeat' split) <;> rfl
theorem cmp_uint64 (a b : Int) : cmp_Compare_uint64.f a b = some (sgn a b) := by
 unfold cmp_Compare_uint64.f cmp_isNaN_uint64.f sgn
 simp only [bne_self_eq_false, Option.bind_some, Bool.false_eq_true, if_false]
 (repeat' split) <;> rfl
theorem lcmp_lib : ∀ a b : Bytes, Lib.compareBytes a b = lcmp a b
 | [], [] => rfl
 | [], _ :: _ => rfl
 | _ :: _, [] => rfl
 | x :: a, y :: b => by
  have ih := lcmp_lib a b
  unfold Lib.compareBytes lcmp
  rw [ih]
def orL : List Int → Int
 | [] => 0
 | x :: l => if x = 0 then orL l else x
theorem cmp_Or_int.l0_ev (l : List Int) (hl : l.length ≤ 1000) : ∀ n i : Nat, i + n = l.length → Ev (fun k => cmp_Or_int.l0 k 0 l (l.length : Int) (i : Int)) (orL (l.drop i))
 | 0, i, h => by
  refine Ev.step (fun k => cmp_Or_int.l0.eq_2 ..) ?_
  refine evneg (by omega) ?_
  rw [List.drop_eq_nil_of_le (by omega)]
  exact Ev.now _
 | n + 1, i, h => by
  have hi : i < l.length := by omega
  have hr : rd l (i : Int) = l[i] := by
   unfold rd; simp [List.getD, hi]
  refine Ev.step (fun k => cmp_Or_int.l0.eq_2 ..) ?_
  refine evpos (by omega) (evpos (by omega) (evpos (by omega) ?_))
  rw [hr, List.drop_eq_getElem_cons hi]
  unfold orL
  by_cases h0 : l[i] = 0
  ·refine evpos h0 ?_
   rw [if_pos h0, w64 (by omega)]
   exact cmp_Or_int.l0_ev l hl n (i + 1) (by omega)
  ·refine evneg h0 ?_
   rw [if_neg h0]
   exact Ev.now _
theorem col_Compare.ev (k i u : Int) (s : ByteArray) (k' i' u' : Int) (s' : ByteArray) : Ev (fun n => col_Compare.f n k i u s k' i' u' s') (ccmp ⟨k, i, u, B s⟩ ⟨k', i', u', B s'⟩) := by
 unfold col_Compare.f
 rw [cmp_int, cmp_int64, cmp_uint64]
 refine evsome (evsome (evsome ?_))
 unfold strings_Compare.f
 rw [lcmp_lib]
 refine evsome ?_
 refine evbind (a := orL [sgn k k', sgn i i', sgn u u', lcmp (B s) (B s')]) ?_ ?_
 ·unfold cmp_Or_int.f
  exact cmp_Or_int.l0_ev [sgn k k', sgn i i', sgn u u', lcmp (B s) (B s')] (by simp) 4 0 rfl
 ·refine evof (Ev.now _) ?_
  unfold ccmp
  simp only [orL]
  by_cases h1 : sgn k k' = 0 <;> by_cases h2 : sgn i i' = 0 <;> by_cases h3 : sgn u u' = 0 <;> by_cases h4 : lcmp (B s) (B s') = 0 <;> simp [h1, h2, h3, h4]
end Go.Proofs.YtimnjdgelencpaaDoor.A
