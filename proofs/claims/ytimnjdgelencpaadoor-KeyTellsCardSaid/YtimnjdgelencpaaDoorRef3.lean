/- The document's columns (withyref03) say what the plain words say. Condition: whole numbers in their kinds' ranges, texts and bytes of at most a million. -/
import Derived.Test.YtimnjdgelencpaaDoorKey2
import Derived.Test.YtimnjdgelencpaaDoorRef1
import Derived.Test.YtimnjdgelencpaaDoorAR3
namespace Go.Proofs.YtimnjdgelencpaaDoor.A
open Go Go.RowKit Go.Proofs Go.Proofs.YtimnjdgelencpaaDoorW Go.Proofs.YtimnjdgelencpaaDoorW.PrintWords Go.Proofs.YtimnjdgelencpaaDoorW.PrintMore Go.Proofs.YtimnjdgelencpaaDoor.Spec
set_option linter.unusedSimpArgs false
set_option linter.unusedVariables false
theorem withyref03_Put.l0_ev (n : Nat) (hn : n < 256 ^ 8) : ∀ d j : Nat, j + d = 8 → Ev (fun k => withyref03_Put.l0 k ((n / 256 ^ j : Nat) : Int) (⟨(be j n).toArray⟩ : ByteArray) (j : Int)) ((⟨(48 :: be 8 n).toArray⟩ : ByteArray), 0)
 | 0, j, h => by
  obtain rfl : j = 8 := by omega
  refine Ev.step (fun k => withyref03_Put.l0.eq_2 ..) (evneg (by decide) (evpos ?_ (evof (Ev.now _) ?_)))
  ·show 1 + (be 8 n).length ≤ _; rw [be_len]; omega
  ·rw [show (⟨#[48]⟩ : ByteArray) = ⟨[48].toArray⟩ from rfl, str_cat]; rfl
 | d + 1, j, h => by
  have hle : n / 256 ^ j ≤ n := Nat.div_le_self _ _
  have hq1 : n / 256 ^ (j + 1) = n / 256 ^ j / 256 := by rw [Nat.pow_succ, ← Nat.div_div_eq_div_mul]
  have ih := withyref03_Put.l0_ev n hn d (j + 1) (by omega)
  rw [be_head, hq1] at ih
  generalize n / 256 ^ j = q at *
  have hm : (Int.tmod (q : Int) 256) % 256 = ((q % 256 : Nat) : Int) := by rw [Int.tmod_eq_emod_of_nonneg (by omega)]; omega
  have hd : IntKind.u64.wrap (Int.tdiv (q : Int) 256) = ((q / 256 : Nat) : Int) := by
   rw [Int.tdiv_eq_ediv_of_nonneg (by omega), wu64 (by omega)]; omega
  refine Ev.step (fun k => withyref03_Put.l0.eq_2 ..) (evpos (by omega) (evsome ?_))
  rw [hm, hd]
  have e1 : strOfNums [((q % 256 : Nat) : Int)] = ⟨[UInt8.ofNat (q % 256)].toArray⟩ := rfl
  rw [e1]
  refine evpos (by show 1 + (be j n).length ≤ _; rw [be_len]; omega) ?_
  rw [str_cat, w64 (by omega)]
  exact ih
theorem withyref03_Put.l1_ev (s : ByteArray) (hs : s.size ≤ 1000000) (k i u : Int) : ∀ (d j : Nat) (x : List Int), j + d = s.size → x.length ≤ 2 * j + 1 → Ev (fun n => withyref03_Put.l1 n x (j : Int) k i u s) ((⟨(sn x ++ (esc ((B s).drop j) ++ [0, 1])).toArray⟩ : ByteArray), 0)
 | 0, j, x, h, hx => by
  refine Ev.step (fun k => withyref03_Put.l1.eq_2 ..) (evneg (by omega) (evpos (by omega) (evsome (evpos (by simp; omega) (evof (Ev.now _) ?_)))))
  rw [dn_end (by omega), sn_eq]
  simp [sn, esc]
 | d + 1, j, x, h, hx => by
  obtain ⟨c, r, h1, h2, h3, h4⟩ := dn (s := s) (i := j) (by omega)
  refine Ev.step (fun k => withyref03_Put.l1.eq_2 ..) (evpos (by omega) (evpos (by omega) (evpos (by omega) (evsome ?_))))
  rw [h2, h1, w64 (by omega)]
  by_cases hc : c = 0
  ·subst hc
   refine evpos rfl (evpos (by simp; omega) ?_)
   have := withyref03_Put.l1_ev s hs k i u d (j + 1) ((x ++ [((0 : UInt8).toNat : Int)]) ++ [255]) (by omega) (by simp; omega)
   rw [h3] at this
   refine evof this ?_
   rw [esc_0]; simp [sn]
  ·have hc' : ¬ (c.toNat : Int) = 0 := fun e => hc (UInt8.toNat_inj.mp (by show c.toNat = 0; omega))
   refine evneg hc' ?_
   have := withyref03_Put.l1_ev s hs k i u d (j + 1) (x ++ [(c.toNat : Int)]) (by omega) (by simp; omega)
   rw [h3] at this
   refine evof this ?_
   rw [esc_c _ _ hc]
   simp [sn]
theorem withyref03_Put.ev (k i u : Int) (s : ByteArray) (hw : Cl.wf ⟨k, i, u, B s⟩) (hs : s.size ≤ 1000000) : Ev (fun n => withyref03_Put.f n k i u s) (putR ⟨k, i, u, B s⟩) := by
 unfold withyref03_Put.f
 rw [right_ref]
 refine evsome ?_
 unfold putR
 by_cases hr : Cl.right ⟨k, i, u, B s⟩ = true
 ·refine evpos hr ?_
  rw [if_pos hr]
  obtain ⟨w1, w2, w3, w4⟩ := hw
  rcases right_cases hr with e | ⟨e, h1⟩ | e | e | e <;> simp only [Cl.mk.injEq] at e
  ·obtain ⟨rfl, rfl, rfl, -⟩ := e
   exact evpos rfl (evof (Ev.now _) rfl)
  ·obtain ⟨rfl, rfl, -, -⟩ := e
   simp only at h1 w3
   refine evneg (by decide) (evpos rfl (evof (Ev.now _) ?_))
   have : u = 0 ∨ u = 1 := by omega
   rcases this with rfl | rfl <;> rfl
  ·obtain ⟨rfl, -, rfl, -⟩ := e
   simp only at w1 w2
   refine evneg (by decide) (evneg (by decide) (evpos rfl ?_))
   obtain ⟨n, hn⟩ := Int.eq_ofNat_of_zero_le (show 0 ≤ i + 9223372036854775808 by omega)
   have hi : IntKind.u64.wrap ((IntKind.u64.wrap i) + 9223372036854775808) = (n : Int) := by
    rw [IntKind.wrap_u64, IntKind.wrap_u64]; omega
   rw [hi]
   have := withyref03_Put.l0_ev n (by omega) 8 0 (by omega)
   rw [Nat.pow_zero, Nat.div_one] at this
   refine evof this ?_
   rw [cput_2, hn]; rfl
  ·obtain ⟨rfl, rfl, -, -⟩ := e
   simp only at w3 w4
   refine evneg (by decide) (evneg (by decide) (evneg (by decide) (evpos rfl ?_)))
   obtain ⟨n, rfl⟩ := Int.eq_ofNat_of_zero_le w3
   refine evbind (withyref01_Put.ev n (by omega)) ?_
   have hl := vput_len n
   refine evpos (by show 1 + (vput n).length ≤ _; omega) (evof (Ev.now _) ?_)
   rw [show (⟨#[64]⟩ : ByteArray) = ⟨[64].toArray⟩ from rfl, str_cat, cput_3]
   rfl
  ·obtain ⟨rfl, rfl, rfl, -⟩ := e
   refine evneg (by decide) (evneg (by decide) (evneg (by decide) (evneg (by decide) ?_)))
   have := withyref03_Put.l1_ev s hs 4 0 0 s.size 0 [80] (by omega) (by simp)
   rw [List.drop_zero] at this
   refine evof this ?_
   rw [cput_4]; rfl
 ·refine evneg hr ?_
  rw [if_neg hr]
  exact Ev.now _
theorem withyref03_text.l0_ev (s : ByteArray) (hs : s.size ≤ 1000000) : ∀ (n i : Nat) (x : List Int), i ≤ s.size → s.size - i ≤ n → x.length ≤ i → Ev (fun k => withyref03_text.l0 k s (i : Int) x) (tR (sn x) (tget ((B s).drop i)) i) := by
 intro n
 induction n with
 | zero =>
  intro i x hi hn hx
  refine Ev.step (fun k => withyref03_text.l0.eq_2 ..) ?_
  refine evneg (by omega) ?_
  rw [dn_end (by omega)]
  exact evof (Ev.now _) (by simp [tR, tget])
 | succ n ih =>
  intro i x hi hn hx
  refine Ev.step (fun k => withyref03_text.l0.eq_2 ..) ?_
  by_cases he : s.size ≤ i
  ·refine evneg (by omega) ?_
   rw [dn_end (by omega)]
   exact evof (Ev.now _) (by simp [tR, tget])
  refine evpos (by omega) (evpos (by omega) ?_)
  obtain ⟨c, r, h1, h2, h3, h4⟩ := dn (s := s) (i := i) (by omega)
  have ew : wrap64 ((i : Int) + 1) = ((i + 1 : Nat) : Int) := by rw [w64 (by omega)]; omega
  have ew2 : wrap64 ((i : Int) + 2) = ((i + 2 : Nat) : Int) := by rw [w64 (by omega)]; omega
  rw [h2, ew, ew2, h1]
  clear ew ew2
  by_cases hc : c = 0
  ·subst hc
   refine evpos rfl ?_
   by_cases he2 : i + 1 = s.size
   ·refine evpos (by omega) ?_
    have hr : r = [] := List.eq_nil_of_length_eq_zero (by omega)
    rw [hr, tget_0]
    exact evof (Ev.now _) (by simp [tR])
   refine evneg (by omega) (evpos (by omega) (evpos (by omega) ?_))
   obtain ⟨d, r2, k1, k2, k3, k4⟩ := dn (s := s) (i := i + 1) (by omega)
   have hr : r = d :: r2 := by rw [← h3]; exact k1
   rw [k2, hr]
   by_cases d1 : d = 1
   ·subst d1
    refine evpos rfl ?_
    rw [tget_01]
    exact evof (Ev.now _) (by simp [tR, sn_eq])
   have d1' : ¬ (d.toNat : Int) = 1 := fun e => d1 (UInt8.toNat_inj.mp (by show d.toNat = 1; omega))
   refine evneg d1' ?_
   by_cases d2 : d = 255
   ·subst d2
    refine evpos rfl (evpos (by omega) ?_)
    refine evof (ih (i + 2) (x ++ [0]) (by omega) (by omega) (by simp; omega)) ?_
    rw [k3, tget_0ff]
    unfold tR
    by_cases ht : (tget r2).2.2 = 0
    ·simp only [ht, if_true, sn, List.map_append, List.map_cons, List.map_nil, List.append_assoc, List.cons_append, List.nil_append, Prod.mk.injEq, and_true]
     exact ⟨rfl, by omega⟩
    ·simp only [if_neg ht]
   have d2' : ¬ (d.toNat : Int) = 255 := fun e => d2 (UInt8.toNat_inj.mp (by show d.toNat = 255; omega))
   refine evneg d2' ?_
   refine evof (Ev.now _) ?_
   simp [tR, tget, d1, d2]
  ·have hc' : ¬ (c.toNat : Int) = 0 := fun e => hc (UInt8.toNat_inj.mp (by show c.toNat = 0; omega))
   refine evneg hc' (evpos (by omega) ?_)
   refine evof (ih (i + 1) (x ++ [(c.toNat : Int)]) (by omega) (by omega) (by simp; omega)) ?_
   rw [h3, tget_c _ _ hc]
   unfold tR
   by_cases ht : (tget r).2.2 = 0
   ·simp only [ht, if_true, sn, List.map_append, List.map_cons, List.map_nil, List.append_assoc, List.cons_append, List.nil_append, Prod.mk.injEq, and_true]
    refine ⟨?_, by omega⟩
    rw [show ((c.toNat : Int)).toNat = c.toNat from rfl, UInt8.ofNat_toNat]
   ·simp only [if_neg ht]
theorem withyref03_text.ev (s : ByteArray) (hs : s.size ≤ 1000000) (i : Nat) (hi : i ≤ s.size) : Ev (fun k => withyref03_text.f k s (i : Int)) (tR [] (tget ((B s).drop i)) i) := by
 unfold withyref03_text.f
 exact withyref03_text.l0_ev s hs s.size i [] hi (by omega) (by simp)
theorem wrap_sub (n : Nat) (h : n < 18446744073709551616) : wrap64 (IntKind.u64.wrap ((n : Int) - 9223372036854775808)) = (n : Int) - 9223372036854775808 := by
 rw [IntKind.wrap_u64]; unfold wrap64; omega
theorem withyref03_Get.l0_ev {s : ByteArray} {i : Nat} (hs : s.size ≤ 1000000) (hi : i + 9 ≤ s.size) : ∀ d j, j + d = 8 → Ev (fun k => withyref03_Get.l0 k s (i : Int) ((beval (((B s).drop (i + 1)).take j) : Nat) : Int) ((j + 1 : Nat) : Int))
  ((2, (beval (((B s).drop (i + 1)).take 8) : Int) - 9223372036854775808, 0, (⟨#[]⟩ : ByteArray), ((i + 9 : Nat) : Int), 0))
 | 0, j, hj => by
  obtain rfl : j = 8 := by omega
  have hlen : ((B s).drop (i + 1)).length = s.size - (i + 1) := by rw [List.length_drop, B_len]
  have hbl := beval_lt (((B s).drop (i + 1)).take 8)
  rw [List.length_take, hlen, Nat.min_eq_left (by omega)] at hbl
  refine Ev.step (fun k => withyref03_Get.l0.eq_2 ..) ?_
  refine evneg (by omega) ?_
  rw [wrap_sub _ hbl, w64 (by omega)]
  exact evof (Ev.now _) rfl
 | d + 1, j, hj => by
  obtain ⟨c2, r2, h1, h2, h3, h4⟩ := dn (s := s) (i := i + 1 + j) (by omega)
  have hrj : ((B s).drop (i + 1)).drop j = c2 :: r2 := by rw [List.drop_drop]; exact h1
  have ew : wrap64 ((i : Int) + ((j + 1 : Nat) : Int)) = ((i + 1 + j : Nat) : Int) := by rw [w64 (by omega)]; omega
  have hbl := beval_lt (((B s).drop (i + 1)).take j)
  have hp : 256 ^ (((B s).drop (i + 1)).take j).length ≤ 256 ^ 7 := Nat.pow_le_pow_right (by decide) (by rw [List.length_take]; omega)
  have hc2 := c2.toNat_lt
  refine Ev.step (fun k => withyref03_Get.l0.eq_2 ..) ?_
  refine evpos (by omega) ?_
  rw [ew, h2]
  clear ew
  refine evpos (by omega) (evpos (by omega) ?_)
  rw [wu64 (n := ((beval (((B s).drop (i + 1)).take j) : Nat) : Int) * 256) (by omega), wu64 (n := (c2.toNat : Int)) (by omega), wu64 (by omega), w64 (by omega)]
  have e : ((beval (((B s).drop (i + 1)).take j) : Nat) : Int) * 256 + (c2.toNat : Int) = ((beval (((B s).drop (i + 1)).take (j + 1)) : Nat) : Int) := by
   rw [take_of_drop hrj, beval_snoc]; omega
  have e2 : ((j + 1 : Nat) : Int) + 1 = ((j + 1 + 1 : Nat) : Int) := by omega
  rw [e, e2]
  exact withyref03_Get.l0_ev hs hi d (j + 1) (by omega)
theorem withyref03_Get.ev (s : ByteArray) (hs : s.size ≤ 1000000) (i : Nat) (hi : i ≤ s.size) : Ev (fun k => withyref03_Get.f k s (i : Int)) (cR (cget ((B s).drop i)) i) := by
 unfold withyref03_Get.f
 refine evneg (by omega) ?_
 refine Ev.step (fun k => withyref03_Get.j0.eq_2 ..) ?_
 refine evneg (by simp; omega) ?_
 by_cases he : i = s.size
 ·refine evpos (by omega) ?_
  rw [dn_end (by omega)]
  exact evof (Ev.now _) (by simp [cR, cget])
 refine evneg (by omega) (evpos (by omega) (evpos (by omega) ?_))
 obtain ⟨c, r, h1, h2, h3, h4⟩ := dn (s := s) (i := i) (by omega)
 have hcl := c.toNat_lt
 have ew : wrap64 ((i : Int) + 1) = ((i + 1 : Nat) : Int) := by rw [w64 (by omega)]; omega
 have e9 : wrap64 ((i : Int) + 9) = ((i + 9 : Nat) : Int) := by rw [w64 (by omega)]; omega
 have k16 := u8_is 16 (by decide) c
 have k32 := u8_is 32 (by decide) c
 have k33 := u8_is 33 (by decide) c
 have k48 := u8_is 48 (by decide) c
 have k64 := u8_is 64 (by decide) c
 have k80 := u8_is 80 (by decide) c
 rw [h2, ew, h1]
 by_cases c16 : c = 16
 ·subst c16
  exact evpos rfl (evof (Ev.now _) rfl)
 refine evneg (fun e => c16 (k16.1 e)) ?_
 by_cases c32 : c = 32
 ·subst c32
  refine evpos rfl (Ev.step (fun k => withyref03_Get.j1.eq_2 ..) (evpos rfl (evpos (by omega) (evpos (by omega) ?_))))
  rw [h2, ew]
  exact evof (Ev.now _) rfl
 refine evneg (fun e => c32 (k32.1 e)) (Ev.step (fun k => withyref03_Get.j1.eq_2 ..) ?_)
 by_cases c33 : c = 33
 ·subst c33
  refine evpos rfl (evpos (by omega) (evpos (by omega) ?_))
  rw [h2, ew]
  exact evof (Ev.now _) rfl
 refine evneg (by rw [beq_iff_eq]; exact fun e => c33 (k33.1 e)) ?_
 by_cases c48 : c = 48
 ·subst c48
  refine evpos rfl ?_
  rw [e9, cget_48]
  by_cases hl : r.length < 8
  ·rw [if_pos hl]
   refine evpos (by omega) (evof (Ev.now _) ?_)
   simp [cR]
  ·rw [if_neg hl]
   refine evneg (by omega) ?_
   have := withyref03_Get.l0_ev (s := s) (i := i) hs (by omega) 8 0 (by omega)
   refine evof this ?_
   rw [h3]; simp [cR]
 refine evneg (fun e => c48 (k48.1 e)) ?_
 by_cases c64 : c = 64
 ·subst c64
  refine evpos rfl ?_
  rw [ew]
  have hg := withyref01_Get.ev s hs (i + 1) (by omega)
  rw [h3] at hg
  refine evbind hg ?_
  rw [cget_64]
  by_cases h0 : (vget r).2.2 = 0
  ·rw [if_pos h0]
   refine evpos (by show (((vget r).2.2 : Nat) : Int) = 0; omega) (evof (Ev.now _) ?_)
   simp only [gR, cR, if_pos h0, if_true, Prod.mk.injEq, true_and, and_true]
   omega
  ·rw [if_neg h0]
   refine evneg (by show ¬ (((vget r).2.2 : Nat) : Int) = 0; omega) (evof (Ev.now _) ?_)
   simp only [gR, cR, if_neg h0]
 refine evneg (fun e => c64 (k64.1 e)) ?_
 by_cases c80 : c = 80
 ·subst c80
  refine evpos rfl ?_
  rw [ew]
  have hg := withyref03_text.ev s hs (i + 1) (by omega)
  rw [h3] at hg
  refine evbind hg ?_
  rw [cget_80]
  by_cases h0 : (tget r).2.2 = 0
  ·rw [if_pos h0]
   unfold tR
   rw [if_pos h0]
   refine evpos rfl (evof (Ev.now _) ?_)
   simp only [cR, if_true, Prod.mk.injEq, true_and, and_true, List.nil_append]
   omega
  ·rw [if_neg h0]
   unfold tR
   rw [if_neg h0]
   refine evneg (by show ¬ (((tget r).2.2 : Nat) : Int) = 0; omega) (evof (Ev.now _) ?_)
   simp only [cR, if_neg h0]
 refine evneg (fun e => c80 (k80.1 e)) (evof (Ev.now _) ?_)
 simp [cR, cget, c16, c32, c33, c48, c64, c80]
theorem lcmp_less : ∀ a b : Bytes, lcmp a b = if Op.bytesLess a b = true then -1 else if Op.bytesLess b a = true then 1 else 0
 | [], [] => rfl
 | [], _ :: _ => rfl
 | _ :: _, [] => rfl
 | x :: a, y :: b => by
  have ih := lcmp_less a b
  by_cases h1 : x < y
  ·simp [lcmp, Op.bytesLess, h1]
  ·by_cases h2 : y < x
   ·have h3 : (x == y) = false := beq_eq_false_iff_ne.mpr fun h => by subst h; exact UInt8.lt_irrefl _ h2
    simp [lcmp, Op.bytesLess, h1, h2, h3]
   ·obtain rfl : x = y := UInt8.le_antisymm (UInt8.not_lt.mp h2) (UInt8.not_lt.mp h1)
    simp [lcmp, Op.bytesLess, UInt8.lt_irrefl, ih]
theorem sign_sgn (a b : Int) : withyref03_sign.f (decide (a < b)) (decide (a > b)) = some (sgn a b) := by
 unfold withyref03_sign.f sgn
 by_cases h1 : a < b <;> by_cases h2 : a > b <;> simp [h1, h2]
theorem withyref03_Compare.at_ (k i u : Int) (s : ByteArray) (k' i' u' : Int) (s' : ByteArray) (ha : Cl.right ⟨k, i, u, B s⟩ = true) (hb : Cl.right ⟨k', i', u', B s'⟩ = true) :
  withyref03_Compare.f k i u s k' i' u' s' = some (ccmp ⟨k, i, u, B s⟩ ⟨k', i', u', B s'⟩) := by
 unfold withyref03_Compare.f ccmp
 by_cases hk : k = k'
 ·subst hk
  rw [if_pos rfl, if_pos (sgn_self k)]
  have hs : ∀ {t : ByteArray}, ([] : Bytes) = B t → B t = [] := fun h => h.symm
  by_cases k2 : k = 2
  ·subst k2
   have e1 := right_cases ha
   have e2 := right_cases hb
   simp only [Cl.mk.injEq] at e1 e2
   obtain ⟨hu, hbs⟩ : u = 0 ∧ B s = [] := by rcases e1 with ⟨h, _⟩ | ⟨⟨h, _⟩, _⟩ | ⟨_, _, h1, h2⟩ | ⟨h, _⟩ | ⟨h, _⟩ <;> first | (exfalso; omega) | exact ⟨h1, h2⟩
   obtain ⟨hu', hbs'⟩ : u' = 0 ∧ B s' = [] := by rcases e2 with ⟨h, _⟩ | ⟨⟨h, _⟩, _⟩ | ⟨_, _, h1, h2⟩ | ⟨h, _⟩ | ⟨h, _⟩ <;> first | (exfalso; omega) | exact ⟨h1, h2⟩
   rw [if_pos rfl, sign_sgn, hu, hu', hbs, hbs']
   simp only [Option.bind_some, sgn_self, if_true, lcmp]
   split <;> simp_all
  ·rw [if_neg k2]
   by_cases k4 : k = 4
   ·subst k4
    have e1 := right_cases ha
    have e2 := right_cases hb
    simp only [Cl.mk.injEq] at e1 e2
    obtain ⟨hi, hu⟩ : i = 0 ∧ u = 0 := by rcases e1 with ⟨h, _⟩ | ⟨⟨h, _⟩, _⟩ | ⟨h, _⟩ | ⟨h, _⟩ | ⟨_, h1, h2, _⟩ <;> first | (exfalso; omega) | exact ⟨h1, h2⟩
    obtain ⟨hi', hu'⟩ : i' = 0 ∧ u' = 0 := by rcases e2 with ⟨h, _⟩ | ⟨⟨h, _⟩, _⟩ | ⟨h, _⟩ | ⟨h, _⟩ | ⟨_, h1, h2, _⟩ <;> first | (exfalso; omega) | exact ⟨h1, h2⟩
    rw [if_pos rfl, hi, hi', hu, hu']
    simp only [sgn_self, if_true]
    rw [B_toList, B_toList, lcmp_less]
    unfold withyref03_sign.f
    (repeat' split) <;> rfl
   ·rw [if_neg k4, sign_sgn]
    have e1 := right_cases ha
    have e2 := right_cases hb
    simp only [Cl.mk.injEq] at e1 e2
    obtain ⟨hi, hbs⟩ : i = 0 ∧ B s = [] := by rcases e1 with ⟨_, h1, _, h2⟩ | ⟨⟨_, h1, _, h2⟩, _⟩ | ⟨h, _⟩ | ⟨_, h1, _, h2⟩ | ⟨h, _⟩ <;> first | exact ⟨h1, h2⟩ | (exfalso; omega)
    obtain ⟨hi', hbs'⟩ : i' = 0 ∧ B s' = [] := by rcases e2 with ⟨_, h1, _, h2⟩ | ⟨⟨_, h1, _, h2⟩, _⟩ | ⟨h, _⟩ | ⟨_, h1, _, h2⟩ | ⟨h, _⟩ <;> first | exact ⟨h1, h2⟩ | (exfalso; omega)
    rw [hi, hi', hbs, hbs']
    simp only [Option.bind_some, sgn_self, if_true, lcmp]
    split <;> simp_all
 ·have hne : sgn k k' ≠ 0 := fun e => hk (sgn_zero.1 e)
  rw [if_neg hk, if_neg hne]
  unfold withyref03_sign.f sgn
  by_cases h1 : k < k'
  ·simp [h1]
  ·simp [h1]; omega
end Go.Proofs.YtimnjdgelencpaaDoor.A
