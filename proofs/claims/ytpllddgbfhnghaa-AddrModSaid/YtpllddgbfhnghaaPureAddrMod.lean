/- The pure statement of AddrMod: a rest is below what it is by, and b more changes it not. -/
import Derived.Test.YtpllddgbfhnghaaPx13
import Derived.Test.YtpllddgbfhnghaaAwake1
namespace Go.Proofs.Ytpllddgbfhnghaa.Pure
open Go.RowKit Go.Proofs.Ytpllddgbfhnghaa.P Go.Proofs.Ytpllddgbfhnghaa Go.Proofs.YtpllddgbfhnghaaW.PrintWords Go.Proofs.YtpllddgbfhnghaaW.PrintLast Go.Proofs.YtpllddgbfhnghaaW.PrintMore
theorem AddrMod : tenancylaw01_AddrMod.Pure := by
  intro a0 a1 b0 b1 ha0 ha1 hb0 hb1
  obtain ⟨a, ha, rfl, rfl⟩ := HL_of a0 a1 ha0 ha1
  obtain ⟨b, hb, rfl, rfl⟩ := HL_of b0 b1 hb0 hb1
  have m : ∀ x : Nat, x % 340282366920938463463374607431768211456 < 340282366920938463463374607431768211456 := fun x => Nat.mod_lt _ (by decide)
  refine ⟨90, ?_⟩
  unfold tenancylaw01_AddrMod.f
  rw [awake1_v 90 (by decide), mod_v 90 a b (by decide) ha hb, HL_zero]
  simp only [bindS, if_true]
  by_cases c : b = 0
  · rw [if_pos c, decide_eq_true c]
    simp
  · rw [if_neg c, decide_eq_false c]
    have h1 : a % b < b := Nat.mod_lt _ (by omega)
    have h2 : a % b ≤ a := Nat.mod_le _ _
    have h3 : a < b → a % b = a := Nat.mod_eq_of_lt
    have h4 : (a + b) % b = a % b := Nat.add_mod_right _ _
    have hr : a % b < 340282366920938463463374607431768211456 := Nat.lt_of_le_of_lt h2 ha
    have last : tenancylaw01_AddrMod.j0 90 false (H a) (L a) (H b) (L b) (H (a % b)) (L (a % b)) = some true := by
      simp only [tenancylaw01_AddrMod.j0]
      rw [add_v a b ha hb]
      simp only [bindS, Bool.false_eq_true, if_false]
      rw [mod_v 89 _ b (by decide) (m _) hb, if_neg c]
      simp only [bindS, if_true, HL_beq]
      by_cases o : 340282366920938463463374607431768211456 ≤ a + b
      · rw [decide_eq_true o, if_pos rfl]
      · rw [decide_eq_false o, if_neg (by decide), Nat.mod_eq_of_lt (show a + b < 340282366920938463463374607431768211456 by omega), h4, decide_eq_true rfl]
    simp only [bindS, Bool.false_eq_true, if_false, if_true]
    rw [cmp_v 90 _ _ (by decide), cmp_v 90 _ _ (by decide), cmp_v 90 _ _ (by decide)]
    simp only [bindS, cmpN_lt, cmpN_ge, cmpN_gt, HL_bne]
    rw [if_neg (by omega), if_neg (by omega)]
    by_cases o : a < b
    · rw [if_pos o, decide_eq_false (by rw [h3 o]; simp), last]
    · rw [if_neg o, last]
end Go.Proofs.Ytpllddgbfhnghaa.Pure
