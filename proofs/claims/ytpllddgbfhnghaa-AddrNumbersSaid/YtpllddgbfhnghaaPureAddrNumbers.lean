/- The pure statement of AddrNumbers: sums, differences, shifts, rests and the order of addresses are those of the reference. -/
import Derived.Test.YtpllddgbfhnghaaPx25
import Derived.Test.YtpllddgbfhnghaaPx23
import Derived.Test.YtpllddgbfhnghaaAwake1
import Derived.Test.YtpllddgbfhnghaaRef2
namespace Go.Proofs.Ytpllddgbfhnghaa.Pure
open Go.RowKit Go.Proofs.Ytpllddgbfhnghaa.P Go.Proofs.Ytpllddgbfhnghaa Go.Proofs.YtpllddgbfhnghaaW.PrintWords Go.Proofs.YtpllddgbfhnghaaW.PrintLast Go.Proofs.YtpllddgbfhnghaaW.PrintMore
theorem to4_v (a : Nat) (ha : a < 340282366920938463463374607431768211456) : addr_To4.f (H a) (L a) = some (if a < 4294967296 then ((a : Int), true) else (0, false)) := by
  unfold addr_To4.f
  by_cases c : H a = 0
  · rw [if_pos c]
    by_cases c2 : L a > 4294967295
    · rw [if_pos c2, if_neg (by unfold H L at *; omega)]
    · rw [if_neg c2, if_pos (by unfold H L at *; omega)]
      refine congrArg some (Prod.ext ?_ rfl)
      show L a % 4294967296 = (a : Int)
      unfold H L at *; omega
  · rw [if_neg c, if_neg (by unfold H at c; omega)]
theorem AddrNumbers : tenancylaw01_AddrNumbers.Pure := by
  intro a0 a1 b0 b1 n ha0 ha1 hb0 hb1 hn
  obtain ⟨a, ha, rfl, rfl⟩ := HL_of a0 a1 ha0 ha1
  obtain ⟨b, hb, rfl, rfl⟩ := HL_of b0 b1 hb0 hb1
  have n1 := wf_i64 hn
  refine ⟨600, ?_⟩
  unfold tenancylaw01_AddrNumbers.f
  rw [awake1_v 600 (by decide), add_v a b ha hb, ref_add_v 600 a b (by decide) ha hb]
  simp only [bindS, if_true, HL_bne, bne_self_eq_false]
  rw [if_neg (by simp)]
  simp only [tenancylaw01_AddrNumbers.j0, Bool.false_eq_true, if_false]
  rw [sub_v a b ha hb, ref_sub_v 599 a b (by decide) ha hb]
  simp only [bindS, HL_bne, bne_self_eq_false]
  rw [if_neg (by simp)]
  simp only [tenancylaw01_AddrNumbers.j1, Bool.false_eq_true, if_false]
  rw [mod_v 598 a b (by decide) ha hb, ref_mod_v 598 a b (by decide) ha hb]
  have last : ∀ x : Bool, x = false → tenancylaw01_AddrNumbers.j2 598 n x (H a) (L a) (H b) (L b) = some true := by
    rintro x rfl
    simp only [tenancylaw01_AddrNumbers.j2, Bool.false_eq_true, if_false]
    rw [to4_v a ha, ref_to4_v 597 a (by decide) ha]
    simp only [bindS, if_true, beq_self_eq_true]
    rw [cmp_v 597 a b (by decide), ref_cmp_v 597 a b (by decide) ha hb]
    simp only [bindS, if_true]
    rw [up_v a n ha n1.1 n1.2, ref_up_v 597 a n (by decide) ha n1.1 n1.2]
    simp only [bindS, if_true, beq_self_eq_true, Bool.and_self]
    rw [down_v a n ha n1.1 n1.2, ref_down_v 597 a n (by decide) ha n1.1 n1.2]
    simp only [bindS, if_true, beq_self_eq_true, Bool.and_self]
    simp [addr_Of4.f, tenancyref01_Of4.f]
  by_cases c : b = 0
  · rw [if_pos c]
    simp only [bindS, bne_self_eq_false]
    rw [if_neg (by simp)]
    exact last _ rfl
  · rw [if_neg c]
    simp only [bindS, HL_bne, bne_self_eq_false]
    rw [if_neg (by simp)]
    exact last _ rfl
end Go.Proofs.Ytpllddgbfhnghaa.Pure
