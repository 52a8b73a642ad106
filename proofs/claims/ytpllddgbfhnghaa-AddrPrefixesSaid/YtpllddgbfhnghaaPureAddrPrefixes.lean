/- The pure statement of AddrPrefixes: blocks, their addresses and halves, and which cover or meet one another are those of the reference. -/
import Derived.Test.YtpllddgbfhnghaaPx30
import Derived.Test.YtpllddgbfhnghaaAwake1
import Derived.Test.YtpllddgbfhnghaaRef3
namespace Go.Proofs.Ytpllddgbfhnghaa.Pure
open Go.RowKit Go.Proofs.Ytpllddgbfhnghaa.P Go.Proofs.Ytpllddgbfhnghaa Go.Proofs.YtpllddgbfhnghaaW.PrintWords Go.Proofs.YtpllddgbfhnghaaW.PrintLast Go.Proofs.YtpllddgbfhnghaaW.PrintMore
theorem AddrPrefixes : tenancylaw01_AddrPrefixes.Pure := by
  intro a0 a1 n b0 b1 m c0 c1 ha0 ha1 hn hb0 hb1 hm hc0 hc1
  obtain ⟨a, ha, rfl, rfl⟩ := HL_of a0 a1 ha0 ha1
  obtain ⟨b, hb, rfl, rfl⟩ := HL_of b0 b1 hb0 hb1
  obtain ⟨c, hc, rfl, rfl⟩ := HL_of c0 c1 hc0 hc1
  have n1 := wf_i64 hn
  have m1 := wf_i64 hm
  refine ⟨300, ?_⟩
  have last : ∀ x : Bool, x = false → tenancylaw01_AddrPrefixes.j0 300 x (H a) (L a) n (H b) (L b) m (H c) (L c) = some true := by
    rintro x rfl
    simp only [tenancylaw01_AddrPrefixes.j0, Bool.false_eq_true, if_false]
    rw [halves_v 299 a n (by decide) ha n1.1 n1.2, ref_halves_v 299 a n (by decide) ha]
    have rest : ((addr_Has.f 299 (H a) (L a) n (H c) (L c)).bind fun t508 => ((tenancyref01_Has.f 299 (H a) (L a) n (H c) (L c)).bind fun t509 => (if (t508 == t509) = true then ((addr_Covers.f 299 (H a) (L a) n (H b) (L b) m).bind fun t510 => ((tenancyref01_Covers.f 299 (H a) (L a) n (H b) (L b) m).bind fun t511 => (if (t510 == t511) = true then ((addr_Meets.f 299 (H a) (L a) n (H b) (L b) m).bind fun t512 => ((tenancyref01_Meets.f 299 (H a) (L a) n (H b) (L b) m).bind fun t513 => (some (t512 == t513)))) else (none)))) else (none)))) = some true := by
      rw [has_v 299 a c n (by decide) ha n1.1 n1.2, ref_has_v 299 a c n (by decide) ha hc]
      simp only [bindS, beq_self_eq_true, if_true]
      rw [covers_v 299 a b n m (by decide) ha n1.1 n1.2 hb m1.1 m1.2, ref_covers_v 299 a b n m (by decide) ha hb]
      simp only [bindS, beq_self_eq_true, if_true]
      rw [meets_v 299 a b n m (by decide) ha n1.1 n1.2 hb m1.1 m1.2, ref_meets_v 299 a b n m (by decide) ha hb]
      simp only [bindS, beq_self_eq_true]
    by_cases h : soundN a n ∧ n ≠ 128
    · rw [if_pos h]
      simp only [bindS, beq_self_eq_true, Bool.and_self, if_true]
      exact rest
    · rw [if_neg h]
      simp only [bindS, beq_self_eq_true, Bool.and_self, if_true]
      exact rest
  unfold tenancylaw01_AddrPrefixes.f
  rw [awake1_v 300 (by decide), clip_v 300 c n (by decide) hc n1.1 n1.2, ref_clip_v 300 c n (by decide) hc, sound_v 300 a n (by decide) ha n1.1 n1.2, ref_sound_v 300 a n (by decide) ha, span_v 300 a n (by decide) ha n1.1 n1.2, ref_span_v 300 a n (by decide) ha]
  by_cases h : 0 ≤ n ∧ n ≤ 128
  · rw [if_pos h]
    by_cases h2 : soundN a n
    · rw [if_pos h2]
      simp only [bindS, if_true, beq_self_eq_true, bne_self_eq_false, Bool.not_true, Bool.or_self, Bool.false_eq_true, if_false]
      exact last _ rfl
    · rw [if_neg h2]
      simp only [bindS, if_true, beq_self_eq_true, bne_self_eq_false, Bool.not_true, Bool.or_self, Bool.false_eq_true, if_false]
      exact last _ rfl
  · rw [if_neg h]
    by_cases h2 : soundN a n
    · exact absurd ⟨h2.1, h2.2.1⟩ h
    · rw [if_neg h2]
      simp only [bindS, if_true, beq_self_eq_true, bne_self_eq_false, Bool.not_true, Bool.or_self, Bool.false_eq_true, if_false]
      exact last _ rfl
end Go.Proofs.Ytpllddgbfhnghaa.Pure
