/- withylaw12.ChainBack, of what the print says it computes, answers true. No condition. -/
import Derived.Test.YtlagllfbomaehaaDoorPFixed
import Derived.Test.YtlagllfbomaehaaDoorAWithylaw12ChainBack
namespace Go.Proofs.YtlagllfbomaehaaDoor.A
open Go Go.RowKit Go.Proofs Go.Proofs.YtlagllfbomaehaaDoorW Go.Proofs.YtlagllfbomaehaaDoorW.PrintWords Go.Proofs.YtlagllfbomaehaaDoorW.PrintMore Go.Proofs.YtlagllfbomaehaaDoor.Hand
set_option linter.unusedSimpArgs false
set_option linter.unusedVariables false
theorem cut12 (a b : Int) (d : ByteArray) : ∃ d', d'.size ≤ 1100 ∧ withylaw12_Cut.f a b d = some (a, b, d') := by
  have := mn_le (d.size : Int) 1100 (by omega) (by decide)
  refine ⟨d.extract 0 (mn (d.size : Int) 1100).toNat, by rw [ByteArray.size_extract]; omega, ?_⟩
  unfold withylaw12_Cut.f
  rw [if_pos this.1, if_pos this.2.1]
theorem back_j0 (s : ByteArray) (hs : s.size ≤ 1100) : Ev (fun n => withylaw12_ChainBack.j0 n s) true := by
  refine Ev.step (fun k => withylaw12_ChainBack.j0.eq_2 ..) ?_
  refine evbind (chain_Decode.ev s (by omega)) ?_
  rcases dec_err s with h0 | h3
  · refine evpos h0 ?_
    obtain ⟨a, b, d, e, hd⟩ : ∃ a b d e, decS s = (a, b, d, e) := ⟨_, _, _, _, rfl⟩
    rw [hd] at h0 ⊢
    obtain rfl : e = 0 := h0
    obtain ⟨hm, hpg⟩ := enc_dec hd
    have hm2 := mayB_iff.1 hm
    have hE : encS a b d s.size = (⟨(B s).toArray⟩, 0) := by
      unfold encS; rw [if_pos hm2.1, if_pos hm, hpg]
    have h := chain_Encode.ev a b d s.size (by have := sizeB_le hm2.1; omega)
    rw [hE] at h
    exact evbind h (evpos rfl (evpos rfl (evbind withylaw12_fixed.ev (Ev.now _))))
  · rw [h3]
    exact evneg (by decide) (evpos rfl (evpos (by rw [B_toList]; decide) (evbind withylaw12_fixed.ev (Ev.now _))))
theorem withylaw12_ChainBack.ev (a b : Int) (d : ByteArray) (p : Int) (s : ByteArray) : Ev (fun n => withylaw12_ChainBack.f n a b d p s) true := by
  unfold withylaw12_ChainBack.f
  obtain ⟨d', hd, hc⟩ := cut12 a b d
  have hm := mn_le (s.size : Int) 1100 (by omega) (by decide)
  have hj := back_j0 (s.extract 0 (mn (s.size : Int) 1100).toNat) (by rw [ByteArray.size_extract]; omega)
  refine evbind (ev_const hc) (evpos hm.1 (evpos hm.2.1 ?_))
  refine evbind (chain_Encode.ev a b d' p (by omega)) (evbind (ev_const (chain_May.ev a b d' p (by omega))) ?_)
  by_cases hM : mayB a b d'.size p = true
  · have hM2 := mayB_iff.1 hM
    have hE : encS a b d' p = (⟨(chainPage a b (B d') p).toArray⟩, 0) := by unfold encS; rw [if_pos hM2.1, if_pos hM]
    rw [hE]
    have hM' : mayB a b (B d').length p = true := by rw [B_len]; exact hM
    have hD := dec_enc a b (B d') p hM'
    have hz := (chain_reads a b (B d') p hM' ⟨(chainPage a b (B d') p).toArray⟩ rfl).1
    have hp2 := sizeB_le hM2.1
    refine evneg (by rw [hM]; simp) (evpos rfl ?_)
    have h := chain_Decode.ev ⟨(chainPage a b (B d') p).toArray⟩ (by rw [hz]; omega)
    rw [hD] at h
    refine evbind h (evpos rfl (evneg ?_ (evpos (by rw [hz]; omega) hj)))
    simp
  · have hE : encS a b d' p = (⟨#[]⟩, 3) ∨ encS a b d' p = (⟨#[]⟩, 4) := by
      unfold encS
      by_cases hp : sizeB p = true
      · rw [if_pos hp, if_neg hM]; exact .inl rfl
      · rw [if_neg hp]; exact .inr rfl
    have hM' : mayB a b d'.size p = false := by simpa using hM
    rcases hE with hE | hE <;> rw [hE, hM']
    · exact evneg (by decide) (evneg (by decide) hj)
    · exact evneg (by decide) (evneg (by decide) hj)
end Go.Proofs.YtlagllfbomaehaaDoor.A
