/- What the printed functions of package addr come to, in whole numbers of 128 bits: Add, Sub, Cmp, Up, Down. No condition but that the numbers are below 2^128. -/
import Derived.Test.YtpllddgbfhnghaaPx4
import Derived.Test.YtpllddgbfhnghaaPx5
import Derived.Test.YtpllddgbfhnghaaPx6
import Derived.Test.YtpllddgbfhnghaaPx9
import Derived.Test.YtpllddgbfhnghaaNum
namespace Go.Proofs.Ytpllddgbfhnghaa
open Go.RowKit Go.Proofs.Ytpllddgbfhnghaa.P Go.Proofs.YtpllddgbfhnghaaW.PrintWords Go.Proofs.YtpllddgbfhnghaaW.PrintLast Go.Proofs.YtpllddgbfhnghaaW.PrintMore

theorem add_v (a b : Nat) (ha : a < 340282366920938463463374607431768211456) (hb : b < 340282366920938463463374607431768211456) :
    addr_Add.f (H a) (L a) (H b) (L b) = some (H ((a + b) % 340282366920938463463374607431768211456), L ((a + b) % 340282366920938463463374607431768211456), decide (340282366920938463463374607431768211456 ≤ a + b)) := by
  unfold addr_Add.f
  rw [if_pos ⟨H_ge _, H_lt ha, L_ge _, L_lt _, H_ge _, H_lt hb, L_ge _, L_lt _⟩]
  refine congrArg some (Prod.ext ?_ (Prod.ext ?_ ?_))
  · show (H a + H b + (L a + L b) / 18446744073709551616) % 18446744073709551616 = _
    unfold H L; omega
  · show (L a + L b) % 18446744073709551616 = L ((a + b) % 340282366920938463463374607431768211456)
    unfold L; omega
  · show ((H a + H b + (L a + L b) / 18446744073709551616) / 18446744073709551616 != 0) = _
    by_cases h : 340282366920938463463374607431768211456 ≤ a + b
    · rw [decide_eq_true h]
      exact bne_iff_ne.2 (by unfold H L; omega)
    · rw [decide_eq_false h]
      exact bne_eq_false_iff_eq.2 (by unfold H L; omega)

theorem sub_v (a b : Nat) (ha : a < 340282366920938463463374607431768211456) (hb : b < 340282366920938463463374607431768211456) :
    addr_Sub.f (H a) (L a) (H b) (L b) = some (H ((a + 340282366920938463463374607431768211456 - b) % 340282366920938463463374607431768211456), L ((a + 340282366920938463463374607431768211456 - b) % 340282366920938463463374607431768211456), decide (a < b)) := by
  unfold addr_Sub.f
  rw [if_pos ⟨H_ge _, H_lt ha, L_ge _, L_lt _, H_ge _, H_lt hb, L_ge _, L_lt _⟩]
  refine congrArg some (Prod.ext ?_ (Prod.ext ?_ ?_))
  · show (H a + 18446744073709551616 - H b - (if L a < L b then 1 else 0)) % 18446744073709551616 = _
    unfold H L; split <;> omega
  · show (L a + 18446744073709551616 - L b) % 18446744073709551616 = L ((a + 340282366920938463463374607431768211456 - b) % 340282366920938463463374607431768211456)
    unfold L; omega
  · show decide (H a < H b + (if L a < L b then 1 else 0)) = _
    refine decide_eq_decide.2 ?_
    unfold H L; split <;> omega

theorem compare_v (x y : Int) : cmp_Compare_uint64.f x y = some (if x < y then -1 else if x = y then 0 else 1) := by
  unfold cmp_Compare_uint64.f cmp_isNaN_uint64.f
  simp only [bindS, bne_self_eq_false, Bool.false_eq_true, if_false]
  by_cases h : x < y
  · rw [if_pos h, if_pos h]
  · rw [if_neg h, if_neg h]
    by_cases h2 : x = y
    · rw [if_neg (by omega), if_pos h2]
    · rw [if_pos (by omega), if_neg h2]
/-- the order of two numbers, as Go tells it -/
def cmpN (a b : Nat) : Int := if a < b then -1 else if a = b then 0 else 1
theorem cmp_v (k a b : Nat) (hk : 3 ≤ k) : addr_Cmp.f k (H a) (L a) (H b) (L b) = some (cmpN a b) := by
  obtain ⟨k, rfl⟩ : ∃ m, k = m + 3 := ⟨k - 3, by omega⟩
  unfold addr_Cmp.f
  rw [compare_v, compare_v]
  simp only [bindS]
  unfold cmp_Or_int.f
  have hr : ∀ x y : Int, cmp_Or_int.l0 (k + 3) 0 [x, y] (([x, y] : List Int).length : Int) 0 = some (if x = 0 then (if y = 0 then 0 else y) else x) := by
    intro x y
    simp only [cmp_Or_int.l0, List.length_cons, List.length_nil]
    by_cases hx : x = 0
    · by_cases hy : y = 0
      · simp [rd, wrap64, hx, hy]
      · simp [rd, wrap64, hx, hy]
    · simp [rd, hx]
  rw [hr]
  refine congrArg some ?_
  unfold cmpN H L
  by_cases h1 : ((a / 18446744073709551616 : Nat) : Int) < ((b / 18446744073709551616 : Nat) : Int)
  · rw [if_pos h1, if_neg (by omega), if_pos (by omega)]
  · rw [if_neg h1]
    by_cases h2 : ((a / 18446744073709551616 : Nat) : Int) = ((b / 18446744073709551616 : Nat) : Int)
    · rw [if_pos h2, if_pos rfl]
      by_cases h3 : ((a % 18446744073709551616 : Nat) : Int) < ((b % 18446744073709551616 : Nat) : Int)
      · rw [if_pos h3, if_neg (by omega), if_pos (by omega)]
      · rw [if_neg h3]
        by_cases h4 : ((a % 18446744073709551616 : Nat) : Int) = ((b % 18446744073709551616 : Nat) : Int)
        · rw [if_pos h4, if_pos rfl, if_neg (by omega), if_pos (by omega)]
        · rw [if_neg h4, if_neg (by omega), if_neg (by omega), if_neg (by omega)]
    · rw [if_neg h2, if_neg (by omega), if_neg (by omega), if_neg (by omega)]
theorem cmpN_lt {a b : Nat} : cmpN a b < 0 ↔ a < b := by unfold cmpN; split <;> (try split) <;> omega
theorem cmpN_le {a b : Nat} : cmpN a b ≤ 0 ↔ a ≤ b := by unfold cmpN; split <;> (try split) <;> omega
theorem cmpN_ge {a b : Nat} : cmpN a b ≥ 0 ↔ b ≤ a := by unfold cmpN; split <;> (try split) <;> omega
theorem cmpN_gt {a b : Nat} : cmpN a b > 0 ↔ b < a := by unfold cmpN; split <;> (try split) <;> omega

theorem cmpN_dlt (a b : Nat) : decide (cmpN a b < 0) = decide (a < b) := decide_eq_decide.2 cmpN_lt
theorem cmpN_dle (a b : Nat) : decide (cmpN a b ≤ 0) = decide (a ≤ b) := decide_eq_decide.2 cmpN_le
theorem cmpN_dge (a b : Nat) : decide (cmpN a b ≥ 0) = decide (b ≤ a) := decide_eq_decide.2 cmpN_ge
theorem cmpN_dgt (a b : Nat) : decide (cmpN a b > 0) = decide (b < a) := decide_eq_decide.2 cmpN_gt

/-- a times 2 to the n, cut at 128 bits -/
def upN (a : Nat) (n : Int) : Nat := a * 2 ^ n.toNat % 340282366920938463463374607431768211456
def downN (a : Nat) (n : Int) : Nat := a / 2 ^ n.toNat
theorem upN_lt (a : Nat) (n : Int) : upN a n < 340282366920938463463374607431768211456 := Nat.mod_lt _ (by decide)
theorem downN_le (a : Nat) (n : Int) : downN a n ≤ a := Nat.div_le_self _ _
theorem up_v (a : Nat) (n : Int) (ha : a < 340282366920938463463374607431768211456) (h1 : -9223372036854775808 ≤ n) (h2 : n ≤ 9223372036854775807) :
    addr_Up.f (H a) (L a) n = some (H (upN a n), L (upN a n)) := by
  unfold addr_Up.f
  by_cases c1 : n ≤ 0
  · rw [if_pos c1]
    have : upN a n = a := by unfold upN; rw [show n.toNat = 0 by omega]; simp; omega
    rw [this]
  · rw [if_neg c1]
    obtain ⟨m, rfl⟩ := Int.eq_ofNat_of_zero_le (show 0 ≤ n by omega)
    by_cases c2 : (m : Int) ≥ 64
    · rw [if_pos c2, w64_in (by omega) (by omega), if_pos (by omega)]
      rw [show ((m : Int) - 64) = ((m - 64 : Nat) : Int) by omega]
      unfold L upN
      rw [Int.toNat_natCast]
      by_cases c3 : m - 64 ≤ 64
      · rw [shl_nat _ _ c3]
        have e : a * 2 ^ m = a * 2 ^ (m - 64) * 18446744073709551616 := by
          rw [show (18446744073709551616 : Nat) = 2 ^ 64 from rfl, Nat.mul_assoc, ← Nat.pow_add, show m - 64 + 64 = m by omega]
        have e2 : a * 2 ^ (m - 64) % 18446744073709551616 = a % 18446744073709551616 * 2 ^ (m - 64) % 18446744073709551616 := by
          rw [Nat.mod_mul_mod]
        rw [e]
        unfold H
        refine congrArg some (Prod.ext ?_ ?_)
        · show (((a % 18446744073709551616) * 2 ^ (m - 64) % 18446744073709551616 : Nat) : Int) = _
          rw [← e2]; omega
        · show (0 : Int) = _
          omega
      · rw [shl_far _ _ (by omega)]
        have e : a * 2 ^ m % 340282366920938463463374607431768211456 = 0 := by
          have : a * 2 ^ m = 340282366920938463463374607431768211456 * (a * 2 ^ (m - 128)) := by
            rw [show (340282366920938463463374607431768211456 : Nat) = 2 ^ 128 from rfl, ← Nat.mul_assoc, Nat.mul_comm (2 ^ 128) a, Nat.mul_assoc, ← Nat.pow_add, show 128 + (m - 128) = m by omega]
          rw [this]; exact Nat.mul_mod_right _ _
        rw [e]
        rfl
    · rw [if_neg c2, if_pos (by omega), w64_in (by omega) (by omega), if_pos (by omega)]
      rw [show (64 - (m : Int)) = ((64 - m : Nat) : Int) by omega]
      have hpq := pow_split (n := m) (by omega)
      obtain ⟨s1, s2, s3, s4⟩ := shl_halves a (2 ^ m) (2 ^ (64 - m)) hpq (Nat.two_pow_pos _) (Nat.two_pow_pos _)
      unfold upN
      rw [Int.toNat_natCast]
      unfold H L
      rw [shl_nat _ _ (by omega), shr_nat _ _ (by omega), shl_nat _ _ (by omega)]
      rw [or_nat _ _ (Nat.mod_lt _ (by decide)) (by omega), or_add _ _ m s2 s3]
      refine congrArg some (Prod.ext ?_ ?_)
      · show ((_ : Nat) : Int) = ((_ : Nat) : Int)
        rw [s1]; omega
      · show ((_ : Nat) : Int) = ((_ : Nat) : Int)
        rw [s1]; omega
theorem down_v (a : Nat) (n : Int) (ha : a < 340282366920938463463374607431768211456) (h1 : -9223372036854775808 ≤ n) (h2 : n ≤ 9223372036854775807) :
    addr_Down.f (H a) (L a) n = some (H (downN a n), L (downN a n)) := by
  unfold addr_Down.f
  by_cases c1 : n ≤ 0
  · rw [if_pos c1]
    have : downN a n = a := by unfold downN; rw [show n.toNat = 0 by omega]; simp
    rw [this]
  · rw [if_neg c1]
    obtain ⟨m, rfl⟩ := Int.eq_ofNat_of_zero_le (show 0 ≤ n by omega)
    have hh : a / 18446744073709551616 < 18446744073709551616 := by omega
    by_cases c2 : (m : Int) ≥ 64
    · rw [if_pos c2, w64_in (by omega) (by omega), if_pos (by omega)]
      rw [show ((m : Int) - 64) = ((m - 64 : Nat) : Int) by omega]
      unfold downN
      rw [Int.toNat_natCast]
      have e : a / 2 ^ m = a / 18446744073709551616 / 2 ^ (m - 64) := by
        rw [show (18446744073709551616 : Nat) = 2 ^ 64 from rfl, Nat.div_div_eq_div_mul, ← Nat.pow_add, show 64 + (m - 64) = m by omega]
      have e3 : a / 18446744073709551616 / 2 ^ (m - 64) < 18446744073709551616 := Nat.lt_of_le_of_lt (Nat.div_le_self _ _) hh
      rw [e]
      unfold H L
      by_cases c3 : m - 64 ≤ 64
      · rw [shr_nat _ _ c3]
        generalize a / 18446744073709551616 / 2 ^ (m - 64) = z at *
        refine congrArg some (Prod.ext ?_ ?_)
        · show (0 : Int) = ((_ : Nat) : Int)
          omega
        · show ((_ : Nat) : Int) = ((_ : Nat) : Int)
          omega
      · rw [shr_far _ _ hh (by omega)]
        have e4 : a / 18446744073709551616 / 2 ^ (m - 64) = 0 := by
          refine Nat.div_eq_of_lt (Nat.lt_of_lt_of_le hh ?_)
          rw [show (18446744073709551616 : Nat) = 2 ^ 64 from rfl]
          exact Nat.pow_le_pow_right (by decide) (by omega)
        rw [e4]
        rfl
    · rw [if_neg c2, if_pos (by omega), w64_in (by omega) (by omega), if_pos (by omega)]
      rw [show (64 - (m : Int)) = ((64 - m : Nat) : Int) by omega]
      have hpq := pow_split (n := m) (by omega)
      obtain ⟨s1, s2, s3, s4, s5⟩ := shr_halves a (2 ^ m) (2 ^ (64 - m)) ha hpq (Nat.two_pow_pos _) (Nat.two_pow_pos _)
      unfold downN
      rw [Int.toNat_natCast]
      unfold H L
      rw [shr_nat _ _ (by omega), shr_nat _ _ (by omega), shl_nat _ _ (by omega)]
      rw [or_nat _ _ (by omega) (Nat.mod_lt _ (by decide)), Nat.or_comm, or_add _ _ (64 - m) s2 s3]
      have key : ∀ X Y : Nat, X < 18446744073709551616 → Y < 18446744073709551616 → (X * 18446744073709551616 + Y) / 18446744073709551616 = X ∧ (X * 18446744073709551616 + Y) % 18446744073709551616 = Y := by
        intro X Y hX hY
        omega
      obtain ⟨e1, e2⟩ := key _ _ s5 s4
      rw [s1, e1, e2]
end Go.Proofs.Ytpllddgbfhnghaa
