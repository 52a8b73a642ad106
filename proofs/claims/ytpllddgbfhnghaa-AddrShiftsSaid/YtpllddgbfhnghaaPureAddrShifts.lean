/- The pure statement of AddrShifts: shifts clear bits, and two are one. -/
import Derived.Test.YtpllddgbfhnghaaPx14
import Derived.Test.YtpllddgbfhnghaaAwake1
namespace Go.Proofs.Ytpllddgbfhnghaa.Pure
open Go.RowKit Go.Proofs.Ytpllddgbfhnghaa.P Go.Proofs.Ytpllddgbfhnghaa Go.Proofs.YtpllddgbfhnghaaW.PrintWords Go.Proofs.YtpllddgbfhnghaaW.PrintLast Go.Proofs.YtpllddgbfhnghaaW.PrintMore
theorem up_up (a i m : Nat) : upN (upN a i) m = upN a ((i : Int) + m) := by
  unfold upN
  rw [show ((i : Int) + (m : Int)).toNat = i + m by omega, Int.toNat_natCast, Int.toNat_natCast, Nat.mod_mul_mod, Nat.pow_add, Nat.mul_assoc]
theorem down_down (a i m : Nat) : downN (downN a i) m = downN a ((i : Int) + m) := by
  unfold downN
  rw [show ((i : Int) + (m : Int)).toNat = i + m by omega, Int.toNat_natCast, Int.toNat_natCast, Nat.div_div_eq_div_mul, Nat.pow_add]
theorem up_far (a i : Nat) (h : 128 < i) : upN a i = 0 := by
  unfold upN
  rw [Int.toNat_natCast, show i = 128 + (i - 128) by omega, Nat.pow_add, Nat.mul_left_comm]
  exact Nat.mul_mod_right _ _
theorem down_far (a i : Nat) (h : 128 < i) (ha : a < 340282366920938463463374607431768211456) : downN a i = 0 := by
  unfold downN
  rw [Int.toNat_natCast]
  refine Nat.div_eq_of_lt (Nat.lt_of_lt_of_le ha ?_)
  rw [show (340282366920938463463374607431768211456 : Nat) = 2 ^ 128 from rfl]
  exact Nat.pow_le_pow_right (by decide) (by omega)
theorem up_down (a i : Nat) (h : i ≤ 128) (ha : a < 340282366920938463463374607431768211456) : upN (downN a i) i = clipN a (128 - (i : Int)) := by
  unfold upN downN clipN sz
  rw [show (128 - (128 - (i : Int))).toNat = i by omega, Int.toNat_natCast]
  exact Nat.mod_eq_of_lt (Nat.lt_of_le_of_lt (Nat.div_mul_le_self _ _) ha)
theorem down_up (a i : Nat) (h : i ≤ 128) (ha : a < 340282366920938463463374607431768211456) : downN (upN a i) i = (a + 340282366920938463463374607431768211456 - upN (downN a (128 - (i : Int))) (128 - (i : Int))) % 340282366920938463463374607431768211456 := by
  have e1 : downN (upN a i) i = a % 2 ^ (128 - i) := by
    unfold upN downN
    rw [Int.toNat_natCast, ← pow_split' h, Nat.mul_comm a, Nat.mul_mod_mul_left, Nat.mul_div_cancel_left _ (Nat.two_pow_pos _)]
  have e2 : upN (downN a (128 - (i : Int))) (128 - (i : Int)) = a / 2 ^ (128 - i) * 2 ^ (128 - i) := by
    unfold upN downN
    rw [show (128 - (i : Int)).toNat = 128 - i by omega]
    exact Nat.mod_eq_of_lt (Nat.lt_of_le_of_lt (Nat.div_mul_le_self _ _) ha)
  have e3 := Nat.div_add_mod a (2 ^ (128 - i))
  rw [e1, e2, Nat.mul_comm (a / 2 ^ (128 - i))]
  generalize 2 ^ (128 - i) * (a / 2 ^ (128 - i)) = x at *
  omega
theorem AddrShifts : tenancylaw01_AddrShifts.Pure := by
  intro a0 a1 n m ha0 ha1 hn hm
  obtain ⟨a, ha, rfl, rfl⟩ := HL_of a0 a1 ha0 ha1
  have b1 := wf_u8 hn
  have b2 := wf_u8 hm
  obtain ⟨i, rfl⟩ := Int.eq_ofNat_of_zero_le b1.1
  obtain ⟨j, rfl⟩ := Int.eq_ofNat_of_zero_le b2.1
  have hd : ∀ x : Int, downN a x < 340282366920938463463374607431768211456 := fun x => Nat.lt_of_le_of_lt (downN_le a x) ha
  have hu : ∀ x : Int, upN a x < 340282366920938463463374607431768211456 := upN_lt a
  refine ⟨90, ?_⟩
  unfold tenancylaw01_AddrShifts.f
  rw [awake1_v 90 (by decide), w64_in (x := (i : Int)) (by omega) (by omega), w64_in (x := (j : Int)) (by omega) (by omega), w64_in (x := (i : Int) + j) (by omega) (by omega)]
  rw [up_v a i ha (by omega) (by omega), up_v a _ ha (by omega) (by omega), down_v a i ha (by omega) (by omega), down_v a _ ha (by omega) (by omega)]
  simp only [bindS, if_true]
  rw [up_v _ j (hu _) (by omega) (by omega), down_v _ j (hd _) (by omega) (by omega)]
  simp only [bindS, HL_bne]
  rw [up_up, down_down, decide_eq_false (show ¬ (upN a ((i : Int) + j) ≠ upN a ((i : Int) + j)) from fun h => h rfl), decide_eq_false (show ¬ (downN a ((i : Int) + j) ≠ downN a ((i : Int) + j)) from fun h => h rfl), if_neg (by decide)]
  simp only [tenancylaw01_AddrShifts.j0, Bool.false_eq_true, if_false]
  by_cases c : (i : Int) > 128
  · rw [if_pos c, up_v a i ha (by omega) (by omega), down_v a i ha (by omega) (by omega)]
    simp only [bindS, HL_zero]
    rw [up_far a i (by omega), down_far a i (by omega) ha]
    simp
  · rw [if_neg c, w64_in (by omega) (by omega), clip_v 89 a _ (by decide) ha (by omega) (by omega), if_pos (by omega), down_v a _ ha (by omega) (by omega)]
    simp only [bindS]
    rw [up_v _ _ (hd _) (by omega) (by omega)]
    simp only [bindS]
    rw [sub_v a _ ha (upN_lt _ _), down_v a i ha (by omega) (by omega), up_v a i ha (by omega) (by omega)]
    simp only [bindS]
    rw [up_v _ i (hd _) (by omega) (by omega), down_v _ i (hu _) (by omega) (by omega)]
    simp only [bindS, HL_beq]
    rw [up_down a i (by omega) ha, down_up a i (by omega) ha]
    simp
end Go.Proofs.Ytpllddgbfhnghaa.Pure
