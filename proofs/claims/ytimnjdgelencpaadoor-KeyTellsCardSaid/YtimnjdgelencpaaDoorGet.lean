/- The print's functions that read numbers, texts and columns say what the plain words say. Condition: the bytes are at most a million. -/
import Derived.Test.YtimnjdgelencpaaDoorNum
import Derived.Test.YtimnjdgelencpaaDoorAG1
namespace Go.Proofs.YtimnjdgelencpaaDoor.A
open Go Go.RowKit Go.Proofs Go.Proofs.YtimnjdgelencpaaDoorW Go.Proofs.YtimnjdgelencpaaDoorW.PrintWords Go.Proofs.YtimnjdgelencpaaDoor.Spec
set_option linter.unusedSimpArgs false
set_option linter.unusedVariables false
theorem take_of_drop {c : UInt8} {t : Bytes} : ∀ {r : Bytes} {j : Nat}, r.drop j = c :: t → r.take (j + 1) = r.take j ++ [c]
 | [], j, h => by simp at h
 | x :: r, 0, h => by simp at h; simp [h.1]
 | x :: r, j + 1, h => by
  have := take_of_drop (r := r) (j := j) (by simpa using h)
  simp [this]
theorem word_more.at_ (c : UInt8) : word_more.f (c.toNat : Int) = some (more c : Int) := by
 have hc := c.toNat_lt
 unfold word_more.f more
 by_cases h1 : c.toNat ≤ 240
 ·rw [if_neg (by omega), if_neg (by omega), if_neg (by omega), if_pos h1]; rfl
 by_cases h2 : c.toNat ≤ 248
 ·rw [if_neg (by omega), if_neg (by omega), if_pos (by omega), if_neg h1, if_pos h2]; rfl
 by_cases h3 : c.toNat = 249
 ·rw [if_neg (by omega), if_pos (by omega), if_neg h1, if_neg h2, if_pos h3]; rfl
 ·rw [if_pos (by omega), if_neg h1, if_neg h2, if_neg h3, w64 (n := (c.toNat : Int)) (by omega), w64 (by omega)]
  congr 1; omega
def gR (g : Nat × Nat × Nat) (i : Nat) : Int × Int × Int := (g.1, if g.2.2 = 0 then ((i + g.2.1 : Nat) : Int) else 0, g.2.2)
theorem word_Get.fin {s : ByteArray} {i : Nat} {c : UInt8} {r : Bytes} (hs : s.size ≤ 1000000) (hd : (B s).drop i = c :: r) (hl : r.length = s.size - i - 1) (hi : i < s.size) (hm : more c ≤ r.length) (val : Int)
  (hv : val = ((vval c (r.take (more c)) : Nat) : Int)) :
  Ev (fun k => (word_Put.f k val).bind fun t144 => (if (i : Int) ≤ (wrap64 ((wrap64 ((i : Int) + 1)) + (more c : Int))) then (if (wrap64 ((wrap64 ((i : Int) + 1)) + (more c : Int))) ≤ (s.size : Int) then (if t144.toList = (s.extract (i : Int).toNat ((wrap64 ((wrap64 ((i : Int) + 1)) + (more c : Int))) : Int).toNat).toList then (some (val, wrap64 ((wrap64 ((i : Int) + 1)) + (more c : Int)), 0)) else (some (0, 0, 3))) else (none)) else (none)))
   (gR (vget (c :: r)) i) := by
 subst hv
 have hm8 := more_le c
 have hV : vval c (r.take (more c)) < 256 ^ 8 := vval_lt _ _ (by rw [List.length_take]; omega)
 have ew : wrap64 ((wrap64 ((i : Int) + 1)) + (more c : Int)) = ((i + 1 + more c : Nat) : Int) := by
  rw [w64 (n := (i : Int) + 1) (by omega), w64 (by omega)]; omega
 have hx : (s.extract (i : Int).toNat ((i + 1 + more c : Nat) : Int).toNat).toList = c :: r.take (more c) := by
  rw [B_toList, B_extract, show (i : Int).toNat = i from rfl, hd, show ((i + 1 + more c : Nat) : Int).toNat - i = more c + 1 by omega, List.take_succ_cons]
 refine evbind (word_Put.ev _ hV) ?_
 rw [ew]
 refine evpos (by omega) (evpos (by omega) ?_)
 have hlen : ¬ r.length < more c := by omega
 rw [hx, B_toList, B_mk]
 have hg : vget (c :: r) = if vput (vval c (r.take (more c))) = c :: r.take (more c) then (vval c (r.take (more c)), 1 + more c, 0) else (0, 0, 3) := by
  rw [vget, if_neg hlen]
 rw [hg]
 by_cases h : vput (vval c (r.take (more c))) = c :: r.take (more c)
 ·refine evpos h (evof (Ev.now _) ?_)
  rw [if_pos h]
  simp only [gR, if_true, Prod.mk.injEq, true_and]
  exact ⟨by omega, rfl⟩
 ·refine evneg h (evof (Ev.now _) ?_)
  rw [if_neg h]
  rfl
theorem word_Get.l0_ev {s : ByteArray} {i : Nat} {c : UInt8} {r : Bytes} (hs : s.size ≤ 1000000) (hd : (B s).drop i = c :: r) (hb : bt s i = (c.toNat : Int)) (hr : (B s).drop (i + 1) = r) (hl : r.length = s.size - i - 1) (hi : i < s.size) (hm : more c ≤ r.length) :
  ∀ d j, j + d = more c → Ev (fun k => word_Get.l0 k s (i : Int) (more c : Int) ((beval (r.take j) : Nat) : Int) (more c : Int) (j : Int)) (gR (vget (c :: r)) i)
 | 0, j, hj => by
  have hc := c.toNat_lt
  have hm8 := more_le c
  obtain rfl : j = more c := by omega
  have hbl := beval_lt (r.take (more c))
  rw [List.length_take, Nat.min_eq_left hm] at hbl
  have ht : r.take 0 = [] := rfl
  refine Ev.step (fun k => word_Get.l0.eq_2 ..) ?_
  refine evneg (by omega) (evpos (by omega) (evpos (by omega) ?_))
  rw [hb]
  by_cases m0 : more c = 0
  ·refine evpos (by omega) ?_
   refine word_Get.fin hs hd hl hi hm _ ?_
   rw [wu64 (by omega)]
   unfold vval; rw [if_pos m0]
  refine evneg (by omega) ?_
  by_cases m1 : more c = 1
  ·refine evpos (by omega) ?_
   refine word_Get.fin hs hd hl hi hm _ ?_
   have hc1 : 241 ≤ c.toNat ∧ c.toNat ≤ 248 := by
    unfold more at m1; split at m1
    ·omega
    split at m1
    ·omega
    split at m1 <;> omega
   rw [m1] at hbl
   unfold vval
   rw [m1, if_neg (by decide), if_pos rfl]
   rw [m1] at *
   rw [wu64 (by omega)]
   omega
  refine evneg (by omega) ?_
  by_cases m2 : more c = 2
  ·refine evpos (by omega) ?_
   refine word_Get.fin hs hd hl hi hm _ ?_
   rw [m2] at hbl
   unfold vval
   rw [m2, if_neg (by decide), if_neg (by decide), if_pos rfl]
   rw [m2] at *
   rw [wu64 (by omega)]
   omega
  refine evneg (by omega) ?_
  refine word_Get.fin hs hd hl hi hm _ ?_
  unfold vval
  rw [if_neg m0, if_neg m1, if_neg m2]
 | d + 1, j, hj => by
  have hm8 := more_le c
  obtain ⟨c2, r2, h1, h2, h3, h4⟩ := dn (s := s) (i := i + 1 + j) (by omega)
  have hrj : r.drop j = c2 :: r2 := by rw [← hr, List.drop_drop]; exact h1
  have ew : wrap64 ((wrap64 ((i : Int) + 1)) + (j : Int)) = ((i + 1 + j : Nat) : Int) := by
   rw [w64 (n := (i : Int) + 1) (by omega), w64 (by omega)]; omega
  have hbl := beval_lt (r.take j)
  have hp : 256 ^ (r.take j).length ≤ 256 ^ 7 := Nat.pow_le_pow_right (by decide) (by rw [List.length_take]; omega)
  refine Ev.step (fun k => word_Get.l0.eq_2 ..) ?_
  refine evpos (by omega) ?_
  rw [ew, h2]
  clear ew
  refine evpos (by omega) (evpos (by omega) ?_)
  rw [or_byte _ _ (by omega) c2.toNat_lt, w64 (by omega), ← beval_snoc, ← take_of_drop hrj]
  exact word_Get.l0_ev hs hd hb hr hl hi hm d (j + 1) (by omega)
theorem word_Get.ev (s : ByteArray) (hs : s.size ≤ 1000000) (i : Nat) (hi : i ≤ s.size) : Ev (fun k => word_Get.f k s (i : Int)) (gR (vget ((B s).drop i)) i) := by
 unfold word_Get.f
 refine evneg (by omega) ?_
 refine Ev.step (fun k => word_Get.j0.eq_2 ..) ?_
 refine evneg (by simp; omega) ?_
 by_cases he : i = s.size
 ·refine evpos (by omega) ?_
  refine Ev.step (fun k => word_Get.j1.eq_2 ..) ?_
  refine evpos rfl ?_
  rw [dn_end (by omega)]
  exact evof (Ev.now _) rfl
 ·refine evneg (by omega) (evpos (by omega) (evpos (by omega) ?_))
  obtain ⟨c, r, h1, h2, h3, h4⟩ := dn (s := s) (i := i) (by omega)
  rw [h2, word_more.at_]
  refine evsome ?_
  have hm8 := more_le c
  have ew : wrap64 ((wrap64 ((s.size : Int) - (i : Int))) - 1) = ((r.length : Nat) : Int) := by
   rw [w64 (n := (s.size : Int) - (i : Int)) (by omega), w64 (by omega)]; omega
  rw [ew, h1]
  refine Ev.step (fun k => word_Get.j1.eq_2 ..) ?_
  by_cases hm : r.length < more c
  ·refine evpos (by simp; omega) ?_
   simp only [vget, if_pos hm]
   exact evof (Ev.now _) rfl
  ·refine evneg (by simp; omega) (evpos (by omega) (evpos (by omega) ?_))
   rw [h2, word_more.at_]
   refine evsome ?_
   exact word_Get.l0_ev hs h1 h2 h3 h4 (by omega) (by omega) (more c) 0 (by omega)
def iR (r : Bytes) (i : Nat) : Int × Int × Int := if r.length < 8 then (0, 0, 7) else ((beval (r.take 8) : Int) - 9223372036854775808, ((i + 8 : Nat) : Int), 0)
theorem col_integer.l0_ev {s : ByteArray} {i : Nat} (hs : s.size ≤ 1000000) (hi : i + 8 ≤ s.size) : ∀ d j, j + d = 8 → Ev (fun k => col_integer.l0 k s (i : Int) ((beval (((B s).drop i).take j) : Nat) : Int) (j : Int)) (iR ((B s).drop i) i)
 | 0, j, hj => by
  obtain rfl : j = 8 := by omega
  have hlen : ((B s).drop i).length = s.size - i := by rw [List.length_drop, B_len]
  have hbl := beval_lt (((B s).drop i).take 8)
  rw [List.length_take, hlen, Nat.min_eq_left (by omega)] at hbl
  refine Ev.step (fun k => col_integer.l0.eq_2 ..) ?_
  refine evneg (by omega) ?_
  rw [xor_get _ hbl, w64 (by omega)]
  refine evof (Ev.now _) ?_
  unfold iR
  rw [if_neg (by rw [hlen]; omega)]
  rfl
 | d + 1, j, hj => by
  obtain ⟨c2, r2, h1, h2, h3, h4⟩ := dn (s := s) (i := i + j) (by omega)
  have hrj : ((B s).drop i).drop j = c2 :: r2 := by rw [List.drop_drop]; exact h1
  have ew : wrap64 ((i : Int) + (j : Int)) = ((i + j : Nat) : Int) := by rw [w64 (by omega)]; omega
  have hbl := beval_lt (((B s).drop i).take j)
  have hp : 256 ^ (((B s).drop i).take j).length ≤ 256 ^ 7 := Nat.pow_le_pow_right (by decide) (by rw [List.length_take]; omega)
  refine Ev.step (fun k => col_integer.l0.eq_2 ..) ?_
  refine evpos (by omega) ?_
  rw [ew, h2]
  clear ew
  refine evpos (by omega) (evpos (by omega) ?_)
  rw [or_byte _ _ (by omega) c2.toNat_lt, w64 (by omega), ← beval_snoc, ← take_of_drop hrj]
  exact col_integer.l0_ev hs hi d (j + 1) (by omega)
theorem col_integer.ev (s : ByteArray) (hs : s.size ≤ 1000000) (i : Nat) (hi : i ≤ s.size) : Ev (fun k => col_integer.f k s (i : Int)) (iR ((B s).drop i) i) := by
 unfold col_integer.f
 have hlen : ((B s).drop i).length = s.size - i := by rw [List.length_drop, B_len]
 rw [w64 (n := (s.size : Int) - (i : Int)) (by omega)]
 by_cases h : s.size - i < 8
 ·refine evpos (by omega) (evof (Ev.now _) ?_)
  unfold iR; rw [if_pos (by omega)]
 ·refine evneg (by omega) ?_
  exact col_integer.l0_ev hs (by omega) 8 0 rfl
def tR (x : Bytes) (g : Bytes × Nat × Nat) (i : Nat) : ByteArray × Int × Int := if g.2.2 = 0 then (⟨(x ++ g.1).toArray⟩, ((i + g.2.1 : Nat) : Int), 0) else (⟨#[]⟩, 0, g.2.2)
theorem col_text.l0_ev (s : ByteArray) (hs : s.size ≤ 1000000) : ∀ (n i : Nat) (x : List Int), i ≤ s.size → s.size - i ≤ n → x.length ≤ i → Ev (fun k => col_text.l0 k s x (i : Int)) (tR (sn x) (tget ((B s).drop i)) i) := by
 intro n
 induction n with
 | zero =>
  intro i x hi hn hx
  refine Ev.step (fun k => col_text.l0.eq_2 ..) ?_
  refine evneg (by omega) ?_
  rw [dn_end (by omega)]
  exact evof (Ev.now _) (by simp [tR, tget])
 | succ n ih =>
  intro i x hi hn hx
  refine Ev.step (fun k => col_text.l0.eq_2 ..) ?_
  by_cases he : s.size ≤ i
  ·refine evneg (by omega) ?_
   rw [dn_end (by omega)]
   exact evof (Ev.now _) (by simp [tR, tget])
  refine evpos (by omega) (evpos (by omega) ?_)
  obtain ⟨c, r, h1, h2, h3, h4⟩ := dn (s := s) (i := i) (by omega)
  have ew : wrap64 ((i : Int) + 1) = ((i + 1 : Nat) : Int) := by rw [w64 (by omega)]; omega
  rw [h2, ew, h1]
  clear ew
  by_cases hc : c = 0
  ·subst hc
   refine evpos rfl ?_
   by_cases he2 : i + 1 = s.size
   ·refine evpos (by omega) ?_
    have hr : r = [] := List.eq_nil_of_length_eq_zero (by omega)
    rw [hr, tget_0]
    exact evof (Ev.now _) (by simp [tR])
   refine evneg (by omega) (evpos (by omega) (evpos (by omega) ?_))
   obtain ⟨d, r2, k1, k2, k3, k4⟩ := dn (s := s) (i := i + 1) (by omega)
   have hr : r = d :: r2 := by rw [← h3]; exact k1
   have ew2 : wrap64 (((i + 1 : Nat) : Int) + 1) = ((i + 2 : Nat) : Int) := by rw [w64 (by omega)]; omega
   rw [k2, hr, ew2]
   clear ew2
   by_cases d1 : d = 1
   ·subst d1
    refine evpos rfl ?_
    rw [tget_01]
    exact evof (Ev.now _) (by simp [tR, sn_eq])
   have d1' : ¬ (d.toNat : Int) = 1 := fun e => d1 (UInt8.toNat_inj.mp (by show d.toNat = 1; omega))
   refine evneg d1' ?_
   by_cases d2 : d = 255
   ·subst d2
    refine evpos rfl (evpos (by omega) ?_)
    refine evof (ih (i + 2) (x ++ [0]) (by omega) (by omega) (by simp; omega)) ?_
    rw [k3, tget_0ff]
    unfold tR
    by_cases ht : (tget r2).2.2 = 0
    ·simp only [ht, if_true, sn, List.map_append, List.map_cons, List.map_nil, List.append_assoc, List.cons_append, List.nil_append, Prod.mk.injEq, and_true]
     exact ⟨rfl, by omega⟩
    ·simp only [if_neg ht]
   have d2' : ¬ (d.toNat : Int) = 255 := fun e => d2 (UInt8.toNat_inj.mp (by show d.toNat = 255; omega))
   refine evneg d2' ?_
   refine evof (Ev.now _) ?_
   simp [tR, tget, d1, d2]
  ·have hc' : ¬ (c.toNat : Int) = 0 := fun e => hc (UInt8.toNat_inj.mp (by show c.toNat = 0; omega))
   refine evneg hc' (evpos (by omega) ?_)
   refine evof (ih (i + 1) (x ++ [(c.toNat : Int)]) (by omega) (by omega) (by simp; omega)) ?_
   rw [h3, tget_c _ _ hc]
   unfold tR
   by_cases ht : (tget r).2.2 = 0
   ·simp only [ht, if_true, sn, List.map_append, List.map_cons, List.map_nil, List.append_assoc, List.cons_append, List.nil_append, Prod.mk.injEq, and_true]
    refine ⟨?_, by omega⟩
    rw [show ((c.toNat : Int)).toNat = c.toNat from rfl, UInt8.ofNat_toNat]
   ·simp only [if_neg ht]
theorem col_text.ev (s : ByteArray) (hs : s.size ≤ 1000000) (i : Nat) (hi : i ≤ s.size) : Ev (fun k => col_text.f k s (i : Int)) (tR [] (tget ((B s).drop i)) i) := by
 unfold col_text.f
 exact col_text.l0_ev s hs s.size i [] hi (by omega) (by simp)
def cR (g : Cl × Nat × Nat) (i : Nat) : Int × Int × Int × ByteArray × Int × Int := (g.1.k, g.1.i, g.1.u, ⟨g.1.s.toArray⟩, if g.2.2 = 0 then ((i + g.2.1 : Nat) : Int) else 0, g.2.2)
theorem u8_is (n : Nat) (hn : n < 256) (c : UInt8) : (c.toNat : Int) = (n : Int) ↔ c = UInt8.ofNat n := by
 constructor
 ·intro h; apply UInt8.toNat_inj.mp; rw [UInt8.toNat_ofNat']; omega
 ·intro h; rw [h, UInt8.toNat_ofNat']; omega
theorem col_Get.ev (s : ByteArray) (hs : s.size ≤ 1000000) (i : Nat) (hi : i ≤ s.size) : Ev (fun k => col_Get.f k s (i : Int)) (cR (cget ((B s).drop i)) i) := by
 unfold col_Get.f
 refine evneg (by omega) ?_
 refine Ev.step (fun k => col_Get.j0.eq_2 ..) ?_
 refine evneg (by simp; omega) ?_
 by_cases he : i = s.size
 ·refine evpos (by omega) ?_
  rw [dn_end (by omega)]
  exact evof (Ev.now _) (by simp [cR, cget])
 refine evneg (by omega) (evpos (by omega) (evpos (by omega) ?_))
 obtain ⟨c, r, h1, h2, h3, h4⟩ := dn (s := s) (i := i) (by omega)
 have hcl := c.toNat_lt
 have ew : wrap64 ((i : Int) + 1) = ((i + 1 : Nat) : Int) := by rw [w64 (by omega)]; omega
 rw [h2, w64 (n := (c.toNat : Int)) (by omega), ew, h1]
 clear ew
 have k16 := u8_is 16 (by decide) c
 have k32 := u8_is 32 (by decide) c
 have k33 := u8_is 33 (by decide) c
 have k48 := u8_is 48 (by decide) c
 have k64 := u8_is 64 (by decide) c
 have k80 := u8_is 80 (by decide) c
 by_cases c16 : c = 16
 ·subst c16
  refine evpos rfl (evof (Ev.now _) ?_)
  rw [show wrap64 ((wrap64 (Int.tdiv (((16 : UInt8).toNat : Int)) 16)) - 1) = 0 by decide +kernel]
  rfl
 refine evneg (fun e => c16 (k16.1 e)) ?_
 by_cases c32 : c = 32
 ·subst c32
  refine evpos rfl ?_
  refine Ev.step (fun k => col_Get.j1.eq_2 ..) ?_
  refine evpos rfl (evpos rfl (evof (Ev.now _) ?_))
  rw [show wrap64 ((wrap64 (Int.tdiv (((32 : UInt8).toNat : Int)) 16)) - 1) = 1 by decide +kernel, show IntKind.u64.wrap (Int.tmod (((32 : UInt8).toNat : Int)) 16) = 0 by decide +kernel]
  rfl
 refine evneg (fun e => c32 (k32.1 e)) ?_
 refine Ev.step (fun k => col_Get.j1.eq_2 ..) ?_
 by_cases c33 : c = 33
 ·subst c33
  refine evpos rfl (evpos rfl (evof (Ev.now _) ?_))
  rw [show wrap64 ((wrap64 (Int.tdiv (((33 : UInt8).toNat : Int)) 16)) - 1) = 1 by decide +kernel, show IntKind.u64.wrap (Int.tmod (((33 : UInt8).toNat : Int)) 16) = 1 by decide +kernel]
  rfl
 refine evneg (by simp only [beq_iff_eq]; exact fun e => c33 (k33.1 e)) ?_
 by_cases c48 : c = 48
 ·subst c48
  refine evpos rfl ?_
  rw [show wrap64 ((wrap64 (Int.tdiv (((48 : UInt8).toNat : Int)) 16)) - 1) = 2 by decide +kernel]
  refine evbind (col_integer.ev s hs (i + 1) (by omega)) ?_
  rw [h3, cget_48]
  unfold iR
  by_cases hl : r.length < 8
  ·simp only [if_pos hl]
   exact evneg (by decide) (evof (Ev.now _) rfl)
  ·simp only [if_neg hl]
   refine evpos (by simp) (evof (Ev.now _) ?_)
   simp [cR]; omega
 refine evneg (fun e => c48 (k48.1 e)) ?_
 by_cases c64 : c = 64
 ·subst c64
  refine evpos rfl ?_
  rw [show wrap64 ((wrap64 (Int.tdiv (((64 : UInt8).toNat : Int)) 16)) - 1) = 3 by decide +kernel]
  refine evbind (word_Get.ev s hs (i + 1) (by omega)) ?_
  rw [h3, cget_64]
  unfold gR
  by_cases hl : (vget r).2.2 = 0
  ·simp only [if_pos hl]
   refine evpos (by simp [hl]) (evof (Ev.now _) ?_)
   simp [cR, hl]; omega
  ·simp only [if_neg hl]
   refine evneg (by simp [hl]) (evof (Ev.now _) ?_)
   simp only [cR, if_neg hl]
 refine evneg (fun e => c64 (k64.1 e)) ?_
 by_cases c80 : c = 80
 ·subst c80
  refine evpos rfl ?_
  rw [show wrap64 ((wrap64 (Int.tdiv (((80 : UInt8).toNat : Int)) 16)) - 1) = 4 by decide +kernel]
  refine evbind (col_text.ev s hs (i + 1) (by omega)) ?_
  rw [h3, cget_80]
  unfold tR
  by_cases hl : (tget r).2.2 = 0
  ·simp only [if_pos hl]
   refine evpos (by simp) (evof (Ev.now _) ?_)
   simp [cR]; omega
  ·simp only [if_neg hl]
   refine evneg (by simp [hl]) (evof (Ev.now _) ?_)
   simp only [cR, if_neg hl]
 refine evneg (fun e => c80 (k80.1 e)) ?_
 refine evof (Ev.now _) ?_
 simp [cget, c16, c32, c33, c48, c64, c80, cR]
end Go.Proofs.YtimnjdgelencpaaDoor.A
