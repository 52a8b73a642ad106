/- The first layer's reference, bit by bit: what its loops come to, in whole numbers of 128 bits. No condition but that the numbers are below 2^128. -/
import Derived.Test.YtpllddgbfhnghaaPx17
import Derived.Test.YtpllddgbfhnghaaPx20
import Derived.Test.YtpllddgbfhnghaaPx18
import Derived.Test.YtpllddgbfhnghaaPx19
import Derived.Test.YtpllddgbfhnghaaPx21
import Derived.Test.YtpllddgbfhnghaaPx23
import Derived.Test.YtpllddgbfhnghaaPx22
import Derived.Test.YtpllddgbfhnghaaAddrV
namespace Go.Proofs.Ytpllddgbfhnghaa
open Go.RowKit Go.Proofs.Ytpllddgbfhnghaa.P Go.Proofs.YtpllddgbfhnghaaW.PrintWords Go.Proofs.YtpllddgbfhnghaaW.PrintLast Go.Proofs.YtpllddgbfhnghaaW.PrintMore

/-- bit i of a, 0 the highest -/
def bitN (a : Nat) (i : Nat) : Nat := a / 2 ^ (127 - i) % 2
theorem bitN_lt (a i : Nat) : bitN a i < 2 := Nat.mod_lt _ (by decide)
theorem and_one (x : Nat) (h : x < 18446744073709551616) : Go.bits .and .u64 x 1 = ((x % 2 : Nat) : Int) := by
  have := and_nat x 1 h (by decide)
  rw [show ((1 : Nat) : Int) = 1 from rfl] at this
  rw [this, show (1 : Nat) = 2 ^ 1 - 1 from rfl, Nat.and_two_pow_sub_one_eq_mod]
theorem bit_v (a i : Nat) (hi : i < 128) (ha : a < 340282366920938463463374607431768211456) : tenancyref01_bit.f (H a) (L a) i = some (bitN a i : Int) := by
  unfold tenancyref01_bit.f
  by_cases c : (i : Int) < 64
  · rw [if_pos c, w64_in (by omega) (by omega), wu64_in (by omega) (by omega), if_pos (by omega), show (63 - (i : Int)) = ((63 - i : Nat) : Int) by omega]
    unfold H
    rw [shr_nat _ _ (by omega)]
    have e : a / 18446744073709551616 / 2 ^ (63 - i) = a / 2 ^ (127 - i) := by
      rw [show (18446744073709551616 : Nat) = 2 ^ 64 from rfl, Nat.div_div_eq_div_mul, ← Nat.pow_add, show 64 + (63 - i) = 127 - i by omega]
    have hh : a / 18446744073709551616 < 18446744073709551616 := by omega
    rw [e, and_one _ (by rw [← e]; exact Nat.lt_of_le_of_lt (Nat.div_le_self _ _) hh)]
    rfl
  · rw [if_neg c, w64_in (by omega) (by omega), wu64_in (by omega) (by omega), if_pos (by omega), show (127 - (i : Int)) = ((127 - i : Nat) : Int) by omega]
    unfold L
    rw [shr_nat _ _ (by omega)]
    rw [and_one _ (Nat.lt_of_le_of_lt (Nat.div_le_self _ _) (Nat.mod_lt _ (by decide)))]
    unfold bitN
    have e : a % 18446744073709551616 / 2 ^ (127 - i) % 2 = a / 2 ^ (127 - i) % 2 := by
      have hp : 2 ^ (127 - i) * 2 ^ (64 - (127 - i)) = 18446744073709551616 := pow_split (by omega)
      have hs : 2 ^ (64 - (127 - i)) = 2 * 2 ^ (63 - (127 - i)) := by rw [show 64 - (127 - i) = 63 - (127 - i) + 1 by omega, Nat.pow_succ, Nat.mul_comm]
      rw [← hp, Nat.mod_mul_right_div_self, hs, Nat.mod_mul_right_mod]
    rw [e]
theorem or_new (x t : Nat) (h : x / t % 2 = 0) (ht : ∃ j, t = 2 ^ j) : x ||| t = x + t := by
  obtain ⟨j, rfl⟩ := ht
  apply Nat.eq_of_testBit_eq
  intro i
  have key : x.testBit j = false := by rw [Nat.testBit_eq_decide_div_mod_eq, h]; rfl
  rw [Nat.testBit_or, Nat.testBit_two_pow]
  have e : x + 2 ^ j = 2 ^ j * (x / 2 ^ j + 1) + x % 2 ^ j := by
    have := Nat.div_add_mod x (2 ^ j)
    rw [Nat.mul_add, Nat.mul_one]; omega
  have e0 : x = 2 ^ j * (x / 2 ^ j) + x % 2 ^ j := (Nat.div_add_mod x (2 ^ j)).symm
  have hlt : x % 2 ^ j < 2 ^ j := Nat.mod_lt _ (Nat.two_pow_pos j)
  rw [e]
  conv => lhs; rw [e0]
  rw [Nat.testBit_two_pow_mul_add _ hlt, Nat.testBit_two_pow_mul_add _ hlt]
  by_cases c : i < j
  · rw [if_pos c, if_pos c, decide_eq_false (by omega), Bool.or_false]
  · rw [if_neg c, if_neg c]
    obtain ⟨m, rfl⟩ : ∃ m, i = j + m := ⟨i - j, by omega⟩
    rw [show j + m - j = m by omega]
    have hq : x / 2 ^ j % 2 = 0 := h
    cases m with
    | zero =>
      rw [decide_eq_true (by omega), Bool.or_true, Nat.testBit_zero]
      exact (decide_eq_true (by omega)).symm
    | succ m =>
      rw [decide_eq_false (by omega), Bool.or_false, Nat.testBit_succ, Nat.testBit_succ, show (x / 2 ^ j + 1) / 2 = x / 2 ^ j / 2 by omega]
/-- setting a bit that isn't set: a sum -/
theorem with_v (a i : Nat) (hi : i < 128) (ha : a < 340282366920938463463374607431768211456) (h : bitN a i = 0) : tenancyref01_with.f (H a) (L a) i = some (H (a + 2 ^ (127 - i)), L (a + 2 ^ (127 - i))) := by
  unfold tenancyref01_with.f
  have hor : a ||| 2 ^ (127 - i) = a + 2 ^ (127 - i) := or_new a _ h ⟨_, rfl⟩
  rw [← hor]
  by_cases c : (i : Int) < 64
  · rw [if_pos c, w64_in (by omega) (by omega), wu64_in (by omega) (by omega), if_pos (by omega), show (63 - (i : Int)) = ((63 - i : Nat) : Int) by omega]
    have hp : 2 ^ (63 - i) < 18446744073709551616 := by rw [show (18446744073709551616 : Nat) = 2 ^ 64 from rfl]; exact Nat.pow_lt_pow_right (by decide) (by omega)
    have e1 : shl .u64 1 ((63 - i : Nat) : Int) = ((2 ^ (63 - i) : Nat) : Int) := by
      have := shl_nat 1 (63 - i) (by omega)
      rw [Nat.one_mul, Nat.mod_eq_of_lt hp] at this
      exact this
    rw [e1]
    unfold H L
    rw [or_nat _ _ (by omega) hp]
    have e2 : 2 ^ (127 - i) = 2 ^ (63 - i) * 18446744073709551616 := by rw [show (18446744073709551616 : Nat) = 2 ^ 64 from rfl, ← Nat.pow_add, show 63 - i + 64 = 127 - i by omega]
    rw [show (18446744073709551616 : Nat) = 2 ^ 64 from rfl, Nat.or_div_two_pow, Nat.or_mod_two_pow]
    rw [show (2 : Nat) ^ 64 = 18446744073709551616 from rfl, e2, Nat.mul_div_cancel _ (by decide), Nat.mul_mod_left, Nat.or_zero]
  · rw [if_neg c, w64_in (by omega) (by omega), wu64_in (by omega) (by omega), if_pos (by omega), show (127 - (i : Int)) = ((127 - i : Nat) : Int) by omega]
    have hp : 2 ^ (127 - i) < 18446744073709551616 := by rw [show (18446744073709551616 : Nat) = 2 ^ 64 from rfl]; exact Nat.pow_lt_pow_right (by decide) (by omega)
    have e1 : shl .u64 1 ((127 - i : Nat) : Int) = ((2 ^ (127 - i) : Nat) : Int) := by
      have := shl_nat 1 (127 - i) (by omega)
      rw [Nat.one_mul, Nat.mod_eq_of_lt hp] at this
      exact this
    rw [e1]
    unfold H L
    rw [or_nat _ _ (Nat.mod_lt _ (by decide)) hp]
    rw [show (18446744073709551616 : Nat) = 2 ^ 64 from rfl, Nat.or_div_two_pow, Nat.or_mod_two_pow]
    rw [show (2 : Nat) ^ 64 = 18446744073709551616 from rfl, Nat.div_eq_of_lt hp, Nat.or_zero, Nat.mod_eq_of_lt hp]

/-! ### the highest bits of a number, one more -/
/-- the highest i bits of r -/
def topN (r i : Nat) : Nat := r / 2 ^ (128 - i) * 2 ^ (128 - i)
theorem topN_zero {r : Nat} (h : r < 340282366920938463463374607431768211456) : topN r 0 = 0 := by
  unfold topN; rw [Nat.div_eq_of_lt (by simpa using h), Nat.zero_mul]
theorem topN_all (r : Nat) : topN r 128 = r := by unfold topN; simp
theorem topN_le (r i : Nat) : topN r i ≤ r := Nat.div_mul_le_self _ _
theorem topN_bit (r i : Nat) (hi : i < 128) : bitN (topN r i) i = 0 := by
  unfold bitN topN
  rw [show 128 - i = 127 - i + 1 by omega, Nat.pow_succ, ← Nat.mul_assoc, Nat.mul_right_comm, Nat.mul_div_cancel _ (Nat.two_pow_pos _), Nat.mul_mod_left]
theorem topN_succ (r i : Nat) (hi : i < 128) : topN r (i + 1) = topN r i + bitN r i * 2 ^ (127 - i) := by
  unfold topN bitN
  rw [show 128 - (i + 1) = 127 - i by omega, show 128 - i = 127 - i + 1 by omega, Nat.pow_succ, ← Nat.div_div_eq_div_mul]
  generalize r / 2 ^ (127 - i) = q
  generalize 2 ^ (127 - i) = t
  have : q = q / 2 * 2 + q % 2 := by omega
  calc q * t = (q / 2 * 2 + q % 2) * t := by rw [← this]
    _ = q / 2 * (t * 2) + q % 2 * t := by rw [Nat.add_mul, Nat.mul_assoc, Nat.mul_comm 2 t]
theorem topN_one (r i : Nat) (hi : i < 128) (h : bitN r i = 1) : topN r (i + 1) = topN r i + 2 ^ (127 - i) := by rw [topN_succ r i hi, h, Nat.one_mul]
theorem topN_none (r i : Nat) (hi : i < 128) (h : bitN r i ≠ 1) : topN r (i + 1) = topN r i := by
  have := bitN_lt r i
  rw [topN_succ r i hi, show bitN r i = 0 by omega, Nat.zero_mul, Nat.add_zero]
end Go.Proofs.Ytpllddgbfhnghaa
