/- The document's numbers (withyref01) say what the plain words say. Condition: the bytes are at most a million. -/
import Derived.Test.YtimnjdgelencpaaDoorGet
import Derived.Test.YtimnjdgelencpaaDoorAR1
namespace Go.Proofs.YtimnjdgelencpaaDoor.A
open Go Go.RowKit Go.Proofs Go.Proofs.YtimnjdgelencpaaDoorW Go.Proofs.YtimnjdgelencpaaDoorW.PrintWords Go.Proofs.YtimnjdgelencpaaDoor.Spec
set_option linter.unusedSimpArgs false
set_option linter.unusedVariables false
theorem str_cat' (a b : Bytes) : (⟨a.toArray⟩ : ByteArray) ++ (⟨b.toArray⟩ : ByteArray) = ⟨(a ++ b).toArray⟩ := ba_ext (by rw [B_append, B_mk, B_mk, B_mk])
theorem withyref01_digits.l0_ev : ∀ (w n : Nat) (x : List Int), n < 256 ^ w → (w = 0 ∨ 256 ^ (w - 1) ≤ n) → n < 256 ^ 8 → x.length + w ≤ 100 → Ev (fun k => withyref01_digits.l0 k (n : Int) x) (((be w n).map fun b => (b.toNat : Int)) ++ x)
 | 0, n, x, h, _, _, hx => by
  have h0 : n = 0 := by simpa using h
  subst h0
  refine Ev.step (fun k => withyref01_digits.l0.eq_2 ..) (evneg (by decide) (Ev.now _))
 | w + 1, n, x, h, hw, h8, hx => by
  have hpos : 0 < n := by
   rcases hw with hw | hw
   ·omega
   ·have : 0 < 256 ^ (w + 1 - 1) := Nat.pow_pos (by decide)
    omega
  refine Ev.step (fun k => withyref01_digits.l0.eq_2 ..) (evpos (by omega) (evsome (evpos (by simp; omega) ?_)))
  have hd : IntKind.u64.wrap (Int.tdiv (n : Int) 256) = ((n / 256 : Nat) : Int) := by
   rw [Int.tdiv_eq_ediv_of_nonneg (by omega), wu64 (by omega)]; omega
  have hm : (Int.tmod (n : Int) 256) % 256 = ((n % 256 : Nat) : Int) := by
   rw [Int.tmod_eq_emod_of_nonneg (by omega)]; omega
  rw [hd, hm]
  have h1 : n / 256 < 256 ^ w := by rw [Nat.pow_succ] at h; omega
  have h2 : w = 0 ∨ 256 ^ (w - 1) ≤ n / 256 := by
   rcases Nat.eq_zero_or_pos w with e | e
   ·exact .inl e
   ·rcases hw with hw | hw
    ·omega
    ·refine .inr ?_
     rw [show w + 1 - 1 = (w - 1) + 1 by omega, Nat.pow_succ] at hw
     omega
  refine evof (withyref01_digits.l0_ev w (n / 256) ([((n % 256 : Nat) : Int)] ++ x) h1 h2 (by omega) (by simp; omega)) ?_
  rw [be, List.map_append, List.append_assoc]
  have : (UInt8.ofNat (n % 256)).toNat = n % 256 := by rw [UInt8.toNat_ofNat']; omega
  simp only [List.map_cons, List.map_nil, this]
theorem wd_ge (n : Nat) (h : 67823 < n) (h8 : n < 256 ^ 8) : 256 ^ (wd n - 1) ≤ n := by
 unfold wd
 (repeat' split) <;> simp <;> omega
theorem withyref01_Put.ev (n : Nat) (hn : n < 256 ^ 8) : Ev (fun k => withyref01_Put.f k (n : Int)) (⟨(vput n).toArray⟩ : ByteArray) := by
 unfold withyref01_Put.f
 unfold vput
 by_cases a1 : n ≤ 240
 ·rw [if_pos a1]
  refine evpos (by omega) (evof (Ev.now _) ?_)
  have h2 : ((n : Int) % 256).toNat = n := by omega
  simp [sn_eq, sn, h2]
 rw [if_neg a1]
 refine evneg (by omega) ?_
 by_cases a2 : n ≤ 2287
 ·rw [if_pos a2]
  refine evpos (by omega) (evof (Ev.now _) ?_)
  rw [wu64 (n := (n : Int) - 240) (by omega), Int.tdiv_eq_ediv_of_nonneg (by omega), Int.tmod_eq_emod_of_nonneg (by omega), wu64 (n := ((n : Int) - 240) / 256) (by omega), wu64 (by omega)]
  have h2 : ((241 + ((n : Int) - 240) / 256) % 256).toNat = 241 + (n - 240) / 256 := by omega
  have h3 : (((n : Int) - 240) % 256 % 256).toNat = (n - 240) % 256 := by omega
  simp only [sn_eq, sn, List.map_cons, List.map_nil, h2, h3]
 rw [if_neg a2]
 refine evneg (by omega) ?_
 by_cases a3 : n ≤ 67823
 ·rw [if_pos a3]
  refine evpos (by omega) (evof (Ev.now _) ?_)
  rw [wu64 (n := (n : Int) - 2288) (by omega), Int.tdiv_eq_ediv_of_nonneg (by omega), Int.tmod_eq_emod_of_nonneg (by omega), wu64 (n := ((n : Int) - 2288) / 256) (by omega)]
  have h2 : ((((n : Int) - 2288) / 256) % 256).toNat = (n - 2288) / 256 % 256 := by omega
  have h3 : (((n : Int) - 2288) % 256 % 256).toNat = (n - 2288) % 256 := by omega
  have h4 : UInt8.ofNat (Int.toNat 249) = 249 := rfl
  simp only [sn_eq, sn, List.map_cons, List.map_nil, h2, h3, h4, be, List.nil_append, List.cons_append]
 rw [if_neg a3]
 refine evneg (by omega) ?_
 have hw := wd_le n
 have hD : Ev (fun k => withyref01_digits.f k (n : Int)) ((be (wd n) n).map fun b => (b.toNat : Int)) := by
  have := withyref01_digits.l0_ev (wd n) n [] (wd_lt n hn) (.inr (wd_ge n (by omega) hn)) hn (by simp; omega)
  rw [List.append_nil] at this
  exact this
 have hl : (((be (wd n) n).map fun b => (b.toNat : Int)).length : Int) = (wd n : Int) := by rw [List.length_map, be_len]
 refine evbind hD ?_
 rw [hl, w64 (by omega)]
 refine evsome ?_
 have e1 : strOfNums ((be (wd n) n).map fun b => (b.toNat : Int)) = ⟨(be (wd n) n).toArray⟩ := by
  rw [sn_eq]
  have : sn ((be (wd n) n).map fun b => (b.toNat : Int)) = be (wd n) n := by
   unfold sn
   rw [List.map_map]
   have hid : ∀ b : UInt8, ((fun n : Int => UInt8.ofNat n.toNat) ∘ fun b : UInt8 => (b.toNat : Int)) b = b := fun b => by
    show UInt8.ofNat (b.toNat : Int).toNat = b
    rw [Int.toNat_natCast, UInt8.ofNat_toNat]
   rw [List.map_congr_left (fun b _ => hid b), List.map_id']
  rw [this]
 have e2 : strOfNums [(247 + (wd n : Int)) % 256] = ⟨[UInt8.ofNat (247 + wd n)].toArray⟩ := by
  rw [sn_eq]
  have h2 : ((247 + (wd n : Int)) % 256).toNat = 247 + wd n := by omega
  simp only [sn, List.map_cons, List.map_nil, h2]
 rw [e1, e2]
 refine evpos ?_ (evof (Ev.now _) ?_)
 ·show 1 + (be (wd n) n).length ≤ _
  rw [be_len]; omega
 ·rw [str_cat']; rfl
theorem withyref01_follow.at_ (c : UInt8) : withyref01_follow.f (c.toNat : Int) = some (more c : Int) := by
 have hc := c.toNat_lt
 unfold withyref01_follow.f more
 by_cases h1 : c.toNat ≤ 240
 ·rw [if_pos (by omega), if_pos h1]; rfl
 by_cases h2 : c.toNat ≤ 248
 ·rw [if_neg (by omega), if_pos (by omega), if_neg h1, if_pos h2]; rfl
 by_cases h3 : c.toNat = 249
 ·rw [if_neg (by omega), if_neg (by omega), if_pos (by omega), if_neg h1, if_neg h2, if_pos h3]; rfl
 ·rw [if_neg (by omega), if_neg (by omega), if_neg (by omega), if_neg h1, if_neg h2, if_neg h3, w64 (n := (c.toNat : Int)) (by omega), w64 (by omega)]
  congr 1; omega
theorem withyref01_Get.fin {s : ByteArray} {i : Nat} {c : UInt8} {r : Bytes} (hs : s.size ≤ 1000000) (hd : (B s).drop i = c :: r) (hl : r.length = s.size - i - 1) (hi : i < s.size) (hm : more c ≤ r.length) (val : Int)
  (hv : val = ((vval c (r.take (more c)) : Nat) : Int)) :
  Ev (fun k => (withyref01_Put.f k val).bind fun t144 => (if (i : Int) ≤ ((i + 1 + more c : Nat) : Int) then (if ((i + 1 + more c : Nat) : Int) ≤ (s.size : Int) then (if t144.toList = (s.extract (i : Int).toNat (((i + 1 + more c : Nat) : Int)).toNat).toList then (some (val, ((i + 1 + more c : Nat) : Int), 0)) else (some (0, 0, 3))) else (none)) else (none)))
   (gR (vget (c :: r)) i) := by
 subst hv
 have hm8 := more_le c
 have hV : vval c (r.take (more c)) < 256 ^ 8 := vval_lt _ _ (by rw [List.length_take]; omega)
 have hx : (s.extract (i : Int).toNat ((i + 1 + more c : Nat) : Int).toNat).toList = c :: r.take (more c) := by
  rw [B_toList, B_extract, show (i : Int).toNat = i from rfl, hd, show ((i + 1 + more c : Nat) : Int).toNat - i = more c + 1 by omega, List.take_succ_cons]
 refine evbind (withyref01_Put.ev _ hV) ?_
 refine evpos (by omega) (evpos (by omega) ?_)
 have hlen : ¬ r.length < more c := by omega
 rw [hx, B_toList, B_mk]
 have hg : vget (c :: r) = if vput (vval c (r.take (more c))) = c :: r.take (more c) then (vval c (r.take (more c)), 1 + more c, 0) else (0, 0, 3) := by
  rw [vget, if_neg hlen]
 rw [hg]
 by_cases h : vput (vval c (r.take (more c))) = c :: r.take (more c)
 ·refine evpos h (evof (Ev.now _) ?_)
  rw [if_pos h]
  simp only [gR, if_true, Prod.mk.injEq, true_and]
  exact ⟨by omega, rfl⟩
 ·refine evneg h (evof (Ev.now _) ?_)
  rw [if_neg h]
  rfl
theorem withyref01_Get.l0_ev {s : ByteArray} {i : Nat} {c : UInt8} {r : Bytes} (hs : s.size ≤ 1000000) (hd : (B s).drop i = c :: r) (hb : bt s i = (c.toNat : Int)) (hr : (B s).drop (i + 1) = r) (hl : r.length = s.size - i - 1) (hi : i < s.size) (hm : more c ≤ r.length) :
  ∀ d j, j + d = more c → Ev (fun k => withyref01_Get.l0 k s (i : Int) ((i + 1 + more c : Nat) : Int) ((beval (r.take j) : Nat) : Int) ((i + 1 + j : Nat) : Int)) (gR (vget (c :: r)) i)
 | 0, j, hj => by
  have hc := c.toNat_lt
  have hm8 := more_le c
  obtain rfl : j = more c := by omega
  have hbl := beval_lt (r.take (more c))
  rw [List.length_take, Nat.min_eq_left hm] at hbl
  have ht : r.take 0 = [] := rfl
  have hmo : more c = if c.toNat ≤ 240 then 0 else if c.toNat ≤ 248 then 1 else if c.toNat = 249 then 2 else c.toNat - 247 := rfl
  refine Ev.step (fun k => withyref01_Get.l0.eq_2 ..) ?_
  refine evneg (by omega) (evpos (by omega) (evpos (by omega) ?_))
  rw [hb, wu64 (n := (c.toNat : Int)) (by omega)]
  by_cases m0 : c.toNat ≤ 240
  ·rw [if_pos m0] at hmo
   refine evpos (by omega) ?_
   refine withyref01_Get.fin hs hd hl hi hm _ ?_
   unfold vval; rw [if_pos hmo]
  rw [if_neg m0] at hmo
  refine evneg (by omega) ?_
  by_cases m1 : c.toNat ≤ 248
  ·rw [if_pos m1] at hmo
   refine evpos (by omega) ?_
   refine withyref01_Get.fin hs hd hl hi hm _ ?_
   rw [hmo] at hbl
   unfold vval
   rw [hmo, if_neg (by decide), if_pos rfl]
   rw [hmo] at *
   rw [wu64 (n := (c.toNat : Int) - 241) (by omega), wu64 (n := 256 * ((c.toNat : Int) - 241)) (by omega), wu64 (n := 240 + 256 * ((c.toNat : Int) - 241)) (by omega), wu64 (by omega)]
   omega
  rw [if_neg m1] at hmo
  refine evneg (by omega) ?_
  by_cases m2 : c.toNat = 249
  ·rw [if_pos m2] at hmo
   refine evpos (by omega) ?_
   refine withyref01_Get.fin hs hd hl hi hm _ ?_
   rw [hmo] at hbl
   unfold vval
   rw [hmo, if_neg (by decide), if_neg (by decide), if_pos rfl]
   rw [hmo] at *
   rw [wu64 (by omega)]
   omega
  rw [if_neg m2] at hmo
  refine evneg (by omega) ?_
  refine withyref01_Get.fin hs hd hl hi hm _ ?_
  unfold vval
  rw [if_neg (by omega), if_neg (by omega), if_neg (by omega)]
 | d + 1, j, hj => by
  have hm8 := more_le c
  obtain ⟨c2, r2, h1, h2, h3, h4⟩ := dn (s := s) (i := i + 1 + j) (by omega)
  have hrj : r.drop j = c2 :: r2 := by rw [← hr, List.drop_drop]; exact h1
  have hbl := beval_lt (r.take j)
  have hp : 256 ^ (r.take j).length ≤ 256 ^ 7 := Nat.pow_le_pow_right (by decide) (by rw [List.length_take]; omega)
  have hc2 := c2.toNat_lt
  refine Ev.step (fun k => withyref01_Get.l0.eq_2 ..) ?_
  refine evpos (by omega) (evpos (by omega) (evpos (by omega) ?_))
  rw [h2, wu64 (n := ((beval (r.take j) : Nat) : Int) * 256) (by omega), wu64 (n := (c2.toNat : Int)) (by omega), wu64 (by omega), w64 (by omega)]
  have e : ((beval (r.take j) : Nat) : Int) * 256 + (c2.toNat : Int) = ((beval (r.take (j + 1)) : Nat) : Int) := by
   rw [take_of_drop hrj, beval_snoc]; omega
  have e2 : ((i + 1 + j : Nat) : Int) + 1 = ((i + 1 + (j + 1) : Nat) : Int) := by omega
  rw [e, e2]
  exact withyref01_Get.l0_ev hs hd hb hr hl hi hm d (j + 1) (by omega)
theorem withyref01_Get.ev (s : ByteArray) (hs : s.size ≤ 1000000) (i : Nat) (hi : i ≤ s.size) : Ev (fun k => withyref01_Get.f k s (i : Int)) (gR (vget ((B s).drop i)) i) := by
 unfold withyref01_Get.f
 refine evneg (by omega) ?_
 refine Ev.step (fun k => withyref01_Get.j0.eq_2 ..) ?_
 refine evneg (by simp; omega) ?_
 by_cases he : i = s.size
 ·refine evpos (by omega) ?_
  refine Ev.step (fun k => withyref01_Get.j1.eq_2 ..) ?_
  refine evpos rfl ?_
  rw [dn_end (by omega)]
  exact evof (Ev.now _) rfl
 ·refine evneg (by omega) (evpos (by omega) (evpos (by omega) ?_))
  obtain ⟨c, r, h1, h2, h3, h4⟩ := dn (s := s) (i := i) (by omega)
  rw [h2, withyref01_follow.at_]
  refine evsome ?_
  have hm8 := more_le c
  have ew : wrap64 ((wrap64 ((i : Int) + 1)) + (more c : Int)) = ((i + 1 + more c : Nat) : Int) := by
   rw [w64 (n := (i : Int) + 1) (by omega), w64 (by omega)]; omega
  rw [ew, h1]
  refine Ev.step (fun k => withyref01_Get.j1.eq_2 ..) ?_
  by_cases hm : r.length < more c
  ·refine evpos (by simp; omega) ?_
   simp only [vget, if_pos hm]
   exact evof (Ev.now _) rfl
  ·refine evneg (by simp; omega) (evpos (by omega) (evpos (by omega) ?_))
   rw [h2, withyref01_follow.at_]
   refine evsome ?_
   rw [ew, w64 (by omega)]
   have e2 : (i : Int) + 1 = ((i + 1 + 0 : Nat) : Int) := by omega
   rw [e2]
   exact withyref01_Get.l0_ev hs h1 h2 h3 h4 (by omega) (by omega) (more c) 0 (by omega)
end Go.Proofs.YtimnjdgelencpaaDoor.A
