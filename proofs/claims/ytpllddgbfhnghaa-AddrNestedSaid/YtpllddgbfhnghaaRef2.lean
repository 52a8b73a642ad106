/- The first layer's reference: Cmp, Add, Sub, Up, Down, Mod, To4 come to what the package's own functions come to. No condition but that the numbers are below 2^128. -/
import Derived.Test.YtpllddgbfhnghaaRef1
namespace Go.Proofs.Ytpllddgbfhnghaa
open Go.RowKit Go.Proofs.Ytpllddgbfhnghaa.P Go.Proofs.YtpllddgbfhnghaaW.PrintWords Go.Proofs.YtpllddgbfhnghaaW.PrintLast Go.Proofs.YtpllddgbfhnghaaW.PrintMore

theorem ref_cmp_l0 (a b : Nat) (ha : a < 340282366920938463463374607431768211456) (hb : b < 340282366920938463463374607431768211456) : ∀ (d k i : Nat), i + d = 128 → d < k → a / 2 ^ (128 - i) = b / 2 ^ (128 - i) →
    tenancyref01_Cmp.l0 k (i : Int) (H a) (L a) (H b) (L b) = some (cmpN a b) := by
  intro d
  induction d with
  | zero =>
    intro k i hi hk he
    obtain ⟨k, rfl⟩ : ∃ m, k = m + 1 := ⟨k - 1, by omega⟩
    simp only [tenancyref01_Cmp.l0]
    rw [if_neg (by omega)]
    have : a = b := by rw [show 128 - i = 0 by omega] at he; simpa using he
    unfold cmpN
    rw [if_neg (by omega), if_pos this]
  | succ d ih =>
    intro k i hi hk he
    obtain ⟨k, rfl⟩ : ∃ m, k = m + 1 := ⟨k - 1, by omega⟩
    simp only [tenancyref01_Cmp.l0]
    rw [if_pos (by omega), bit_v a i (by omega) ha, bit_v b i (by omega) hb]
    simp only [bindS]
    rw [show 128 - i = 127 - i + 1 by omega, Nat.pow_succ, ← Nat.div_div_eq_div_mul, ← Nat.div_div_eq_div_mul] at he
    have ea : bitN a i = a / 2 ^ (127 - i) % 2 := rfl
    have eb : bitN b i = b / 2 ^ (127 - i) % 2 := rfl
    by_cases c1 : (bitN a i : Int) < (bitN b i : Int)
    · rw [if_pos c1]
      have : a / 2 ^ (127 - i) < b / 2 ^ (127 - i) := by omega
      have : a < b := Nat.lt_of_div_lt_div this
      unfold cmpN
      rw [if_pos this]
    · rw [if_neg c1]
      by_cases c2 : (bitN a i : Int) > (bitN b i : Int)
      · rw [if_pos c2]
        have : b / 2 ^ (127 - i) < a / 2 ^ (127 - i) := by omega
        have : b < a := Nat.lt_of_div_lt_div this
        unfold cmpN
        rw [if_neg (by omega), if_neg (by omega)]
      · rw [if_neg c2, w64_in (by omega) (by omega), show (i : Int) + 1 = ((i + 1 : Nat) : Int) by omega]
        refine ih k (i + 1) (by omega) (by omega) ?_
        rw [show 128 - (i + 1) = 127 - i by omega]
        omega
theorem ref_cmp_v (k a b : Nat) (hk : 130 ≤ k) (ha : a < 340282366920938463463374607431768211456) (hb : b < 340282366920938463463374607431768211456) : tenancyref01_Cmp.f k (H a) (L a) (H b) (L b) = some (cmpN a b) := by
  unfold tenancyref01_Cmp.f
  refine ref_cmp_l0 a b ha hb 128 k 0 rfl (by omega) ?_
  rw [Nat.div_eq_of_lt (by simpa using ha), Nat.div_eq_of_lt (by simpa using hb)]

theorem mod_next (a j : Nat) : a % 2 ^ (j + 1) = a % 2 ^ j + a / 2 ^ j % 2 * 2 ^ j := by rw [Nat.mod_pow_succ, Nat.mul_comm (2 ^ j)]
theorem ref_add_l0 (a b : Nat) (ha : a < 340282366920938463463374607431768211456) (hb : b < 340282366920938463463374607431768211456) : ∀ (d k c o : Nat), d ≤ 128 → d < k → c < 2 → o < 2 ^ (128 - d) → a % 2 ^ (128 - d) + b % 2 ^ (128 - d) = o + c * 2 ^ (128 - d) →
    tenancyref01_Add.l0 k (c : Int) ((d : Int) - 1) (H a) (L a) (H b) (L b) (H o) (L o) = some (H ((a + b) % 340282366920938463463374607431768211456), L ((a + b) % 340282366920938463463374607431768211456), decide (340282366920938463463374607431768211456 ≤ a + b)) := by
  intro d
  induction d with
  | zero =>
    intro k c o _ hk hc ho he
    obtain ⟨k, rfl⟩ : ∃ m, k = m + 1 := ⟨k - 1, by omega⟩
    simp only [tenancyref01_Add.l0]
    rw [if_neg (by omega)]
    rw [show (2 : Nat) ^ (128 - 0) = 340282366920938463463374607431768211456 from rfl, Nat.mod_eq_of_lt ha, Nat.mod_eq_of_lt hb] at he
    rw [show (2 : Nat) ^ (128 - 0) = 340282366920938463463374607431768211456 from rfl] at ho
    have e1 : (a + b) % 340282366920938463463374607431768211456 = o := by omega
    rw [e1]
    have e2 : ((c : Int) == 1) = decide (340282366920938463463374607431768211456 ≤ a + b) := by
      by_cases h : 340282366920938463463374607431768211456 ≤ a + b
      · rw [decide_eq_true h]; exact beq_iff_eq.2 (by omega)
      · rw [decide_eq_false h]; exact beq_eq_false_iff_ne.2 (by omega)
    rw [e2]
  | succ d ih =>
    intro k c o hd hk hc ho he
    obtain ⟨k, rfl⟩ : ∃ m, k = m + 1 := ⟨k - 1, by omega⟩
    simp only [tenancyref01_Add.l0]
    have ei : (((d + 1 : Nat) : Int) - 1) = (d : Int) := by omega
    rw [if_pos (by omega), ei, bit_v a d (by omega) ha, bit_v b d (by omega) hb]
    simp only [bindS]
    have hj : 128 - d = 128 - (d + 1) + 1 := by omega
    have hj2 : 127 - d = 128 - (d + 1) := by omega
    have ma := mod_next a (128 - (d + 1))
    have mb := mod_next b (128 - (d + 1))
    rw [← hj] at ma mb
    have ba : bitN a d = a / 2 ^ (128 - (d + 1)) % 2 := by unfold bitN; rw [hj2]
    have bb : bitN b d = b / 2 ^ (128 - (d + 1)) % 2 := by unfold bitN; rw [hj2]
    rw [← ba] at ma
    rw [← bb] at mb
    have la := bitN_lt a d
    have lb := bitN_lt b d
    have pj : 2 ^ (128 - d) = 2 ^ (128 - (d + 1)) * 2 := by rw [hj, Nat.pow_succ]
    rw [wu64_in (x := (bitN a d : Int) + bitN b d) (by omega) (by omega), wu64_in (x := (bitN a d : Int) + bitN b d + c) (by omega) (by omega)]
    rw [Int.tmod_eq_emod_of_nonneg (by omega), Int.tdiv_eq_ediv_of_nonneg (by omega), wu64_in (by omega) (by omega), w64_in (by omega) (by omega)]
    rw [show ((bitN a d : Int) + bitN b d + c) / 2 = (((bitN a d + bitN b d + c) / 2 : Nat) : Int) by omega]
    have hlt : o < 340282366920938463463374607431768211456 := by
      refine Nat.lt_of_lt_of_le ho ?_
      rw [show (340282366920938463463374607431768211456 : Nat) = 2 ^ 128 from rfl]
      exact Nat.pow_le_pow_right (by decide) (by omega)
    generalize ht : 2 ^ (128 - (d + 1)) = t at *
    by_cases c1 : ((bitN a d : Int) + bitN b d + c) % 2 = 1
    · rw [if_pos c1, with_v o d (by omega) hlt (by unfold bitN; rw [hj2, ht, Nat.div_eq_of_lt ho])]
      simp only [bindS]
      rw [hj2, ht]
      refine ih k _ _ (by omega) (by omega) (by omega) (by omega) ?_
      have hb1 : bitN a d = 0 ∨ bitN a d = 1 := by omega
      have hb2 : bitN b d = 0 ∨ bitN b d = 1 := by omega
      have hc2 : c = 0 ∨ c = 1 := by omega
      rw [ma, mb, pj]
      rcases hb1 with h1 | h1 <;> rcases hb2 with h2 | h2 <;> rcases hc2 with h3 | h3 <;> simp only [h1, h2, h3] at * <;> omega
    · rw [if_neg c1]
      refine ih k _ _ (by omega) (by omega) (by omega) (by omega) ?_
      have hb1 : bitN a d = 0 ∨ bitN a d = 1 := by omega
      have hb2 : bitN b d = 0 ∨ bitN b d = 1 := by omega
      have hc2 : c = 0 ∨ c = 1 := by omega
      rw [ma, mb, pj]
      rcases hb1 with h1 | h1 <;> rcases hb2 with h2 | h2 <;> rcases hc2 with h3 | h3 <;> simp only [h1, h2, h3] at * <;> omega
theorem ref_add_v (k a b : Nat) (hk : 130 ≤ k) (ha : a < 340282366920938463463374607431768211456) (hb : b < 340282366920938463463374607431768211456) :
    tenancyref01_Add.f k (H a) (L a) (H b) (L b) = some (H ((a + b) % 340282366920938463463374607431768211456), L ((a + b) % 340282366920938463463374607431768211456), decide (340282366920938463463374607431768211456 ≤ a + b)) := by
  unfold tenancyref01_Add.f
  exact ref_add_l0 a b ha hb 128 k 0 0 (by decide) (by omega) (by decide) (by decide) (by simp [Nat.mod_one])

theorem ref_sub_l0 (a b : Nat) (ha : a < 340282366920938463463374607431768211456) (hb : b < 340282366920938463463374607431768211456) : ∀ (d k c o : Nat), d ≤ 128 → d < k → c < 2 → o < 2 ^ (128 - d) → a % 2 ^ (128 - d) + c * 2 ^ (128 - d) = b % 2 ^ (128 - d) + o →
    tenancyref01_Sub.l0 k (c : Int) ((d : Int) - 1) (H a) (L a) (H b) (L b) (H o) (L o) = some (H ((a + 340282366920938463463374607431768211456 - b) % 340282366920938463463374607431768211456), L ((a + 340282366920938463463374607431768211456 - b) % 340282366920938463463374607431768211456), decide (a < b)) := by
  intro d
  induction d with
  | zero =>
    intro k c o _ hk hc ho he
    obtain ⟨k, rfl⟩ : ∃ m, k = m + 1 := ⟨k - 1, by omega⟩
    simp only [tenancyref01_Sub.l0]
    rw [if_neg (by omega)]
    rw [show (2 : Nat) ^ (128 - 0) = 340282366920938463463374607431768211456 from rfl, Nat.mod_eq_of_lt ha, Nat.mod_eq_of_lt hb] at he
    rw [show (2 : Nat) ^ (128 - 0) = 340282366920938463463374607431768211456 from rfl] at ho
    have e1 : (a + 340282366920938463463374607431768211456 - b) % 340282366920938463463374607431768211456 = o := by omega
    rw [e1]
    have e2 : ((c : Int) == 1) = decide (a < b) := by
      by_cases h : a < b
      · rw [decide_eq_true h]; exact beq_iff_eq.2 (by omega)
      · rw [decide_eq_false h]; exact beq_eq_false_iff_ne.2 (by omega)
    rw [e2]
  | succ d ih =>
    intro k c o hd hk hc ho he
    obtain ⟨k, rfl⟩ : ∃ m, k = m + 1 := ⟨k - 1, by omega⟩
    simp only [tenancyref01_Sub.l0]
    have ei : (((d + 1 : Nat) : Int) - 1) = (d : Int) := by omega
    rw [if_pos (by omega), ei, bit_v a d (by omega) ha, bit_v b d (by omega) hb]
    simp only [bindS]
    have hj : 128 - d = 128 - (d + 1) + 1 := by omega
    have hj2 : 127 - d = 128 - (d + 1) := by omega
    have ma := mod_next a (128 - (d + 1))
    have mb := mod_next b (128 - (d + 1))
    rw [← hj] at ma mb
    have ba : bitN a d = a / 2 ^ (128 - (d + 1)) % 2 := by unfold bitN; rw [hj2]
    have bb : bitN b d = b / 2 ^ (128 - (d + 1)) % 2 := by unfold bitN; rw [hj2]
    rw [← ba] at ma
    rw [← bb] at mb
    have la := bitN_lt a d
    have lb := bitN_lt b d
    have pj : 2 ^ (128 - d) = 2 ^ (128 - (d + 1)) * 2 := by rw [hj, Nat.pow_succ]
    rw [wu64_in (x := (bitN a d : Int) + 2) (by omega) (by omega), wu64_in (x := (bitN a d : Int) + 2 - bitN b d) (by omega) (by omega), wu64_in (x := (bitN a d : Int) + 2 - bitN b d - c) (by omega) (by omega)]
    rw [Int.tmod_eq_emod_of_nonneg (by omega), Int.tdiv_eq_ediv_of_nonneg (by omega), wu64_in (x := ((bitN a d : Int) + 2 - bitN b d - c) / 2) (by omega) (by omega), wu64_in (by omega) (by omega), w64_in (by omega) (by omega)]
    rw [show 1 - ((bitN a d : Int) + 2 - bitN b d - c) / 2 = ((1 - (bitN a d + 2 - bitN b d - c) / 2 : Nat) : Int) by omega]
    have hlt : o < 340282366920938463463374607431768211456 := by
      refine Nat.lt_of_lt_of_le ho ?_
      rw [show (340282366920938463463374607431768211456 : Nat) = 2 ^ 128 from rfl]
      exact Nat.pow_le_pow_right (by decide) (by omega)
    generalize ht : 2 ^ (128 - (d + 1)) = t at *
    by_cases c1 : ((bitN a d : Int) + 2 - bitN b d - c) % 2 = 1
    · rw [if_pos c1, with_v o d (by omega) hlt (by unfold bitN; rw [hj2, ht, Nat.div_eq_of_lt ho])]
      simp only [bindS]
      rw [hj2, ht]
      refine ih k _ _ (by omega) (by omega) (by omega) (by omega) ?_
      have hb1 : bitN a d = 0 ∨ bitN a d = 1 := by omega
      have hb2 : bitN b d = 0 ∨ bitN b d = 1 := by omega
      have hc2 : c = 0 ∨ c = 1 := by omega
      rw [ma, mb, pj]
      rcases hb1 with h1 | h1 <;> rcases hb2 with h2 | h2 <;> rcases hc2 with h3 | h3 <;> simp only [h1, h2, h3] at * <;> omega
    · rw [if_neg c1]
      refine ih k _ _ (by omega) (by omega) (by omega) (by omega) ?_
      have hb1 : bitN a d = 0 ∨ bitN a d = 1 := by omega
      have hb2 : bitN b d = 0 ∨ bitN b d = 1 := by omega
      have hc2 : c = 0 ∨ c = 1 := by omega
      rw [ma, mb, pj]
      rcases hb1 with h1 | h1 <;> rcases hb2 with h2 | h2 <;> rcases hc2 with h3 | h3 <;> simp only [h1, h2, h3] at * <;> omega
theorem ref_sub_v (k a b : Nat) (hk : 130 ≤ k) (ha : a < 340282366920938463463374607431768211456) (hb : b < 340282366920938463463374607431768211456) :
    tenancyref01_Sub.f k (H a) (L a) (H b) (L b) = some (H ((a + 340282366920938463463374607431768211456 - b) % 340282366920938463463374607431768211456), L ((a + 340282366920938463463374607431768211456 - b) % 340282366920938463463374607431768211456), decide (a < b)) := by
  unfold tenancyref01_Sub.f
  exact ref_sub_l0 a b ha hb 128 k 0 0 (by decide) (by omega) (by decide) (by decide) (by simp [Nat.mod_one])

theorem ref_up_l0 (a n : Nat) (ha : a < 340282366920938463463374607431768211456) : ∀ (d k i : Nat), i + n + d = 128 → 2 * d + 2 ≤ k →
    tenancyref01_Up.l0 k (n : Int) (i : Int) (H a) (L a) (H (topN (upN a n) i)) (L (topN (upN a n) i)) = some (H (upN a n), L (upN a n)) := by
  have hR := upN_lt a n
  have fin : ∀ (k i : Nat), i + n ≥ 128 → i ≤ 128 → topN (upN a n) i = upN a n := by
    intro k i h h2
    have : upN a n % 2 ^ (128 - i) = 0 := by
      unfold upN
      rw [Int.toNat_natCast]
      have e : 2 ^ (128 - i) ∣ a * 2 ^ n := Nat.dvd_trans (Nat.pow_dvd_pow 2 (by omega)) (Nat.dvd_mul_left _ _)
      have e2 : 2 ^ (128 - i) ∣ 340282366920938463463374607431768211456 := by
        rw [show (340282366920938463463374607431768211456 : Nat) = 2 ^ 128 from rfl]; exact Nat.pow_dvd_pow 2 (by omega)
      exact Nat.mod_eq_zero_of_dvd ((Nat.dvd_mod_iff e2).2 e)
    unfold topN
    exact Nat.div_mul_cancel (Nat.dvd_of_mod_eq_zero this)
  intro d
  induction d with
  | zero =>
    intro k i hi hk
    obtain ⟨k, rfl⟩ : ∃ m, k = m + 2 := ⟨k - 2, by omega⟩
    have e : ∀ b : Bool, b = false → tenancyref01_Up.j1 (k + 1) (n : Int) (i : Int) b (H a) (L a) (H (topN (upN a n) i)) (L (topN (upN a n) i)) = some (H (upN a n), L (upN a n)) := by
      rintro b rfl
      simp only [tenancyref01_Up.j1, Bool.false_eq_true, if_false]
      rw [fin k i (by omega) (by omega)]
    simp only [tenancyref01_Up.l0]
    by_cases c1 : (i : Int) < 128
    · rw [if_pos c1]
      by_cases c2 : (n : Int) < 128
      · rw [if_pos c2, w64_in (by omega) (by omega)]
        exact e _ (decide_eq_false (by omega))
      · rw [if_neg c2]; exact e _ rfl
    · rw [if_neg c1]; exact e _ rfl
  | succ d ih =>
    intro k i hi hk
    obtain ⟨k, rfl⟩ : ∃ m, k = m + 2 := ⟨k - 2, by omega⟩
    simp only [tenancyref01_Up.l0]
    rw [if_pos (by omega), if_pos (by omega), w64_in (x := (i : Int) + n) (by omega) (by omega), decide_eq_true (by omega)]
    simp only [tenancyref01_Up.j1, if_true]
    rw [w64_in (x := (i : Int) + n) (by omega) (by omega), show (i : Int) + n = ((i + n : Nat) : Int) by omega, bit_v a (i + n) (by omega) ha]
    simp only [bindS]
    have eb : bitN (upN a n) i = bitN a (i + n) := by
      unfold bitN upN
      rw [Int.toNat_natCast, show (340282366920938463463374607431768211456 : Nat) = 2 ^ (127 - i) * 2 ^ (i + 1) by rw [← Nat.pow_add, show 127 - i + (i + 1) = 128 by omega]]
      rw [Nat.mod_mul_right_div_self, Nat.pow_succ, Nat.mul_comm (2 ^ i) 2, Nat.mod_mul_right_mod]
      rw [show 2 ^ (127 - i) = 2 ^ n * 2 ^ (127 - (i + n)) by rw [← Nat.pow_add, show n + (127 - (i + n)) = 127 - i by omega]]
      rw [Nat.mul_comm a, Nat.mul_div_mul_left _ _ (Nat.two_pow_pos n)]
    rw [w64_in (x := (i : Int) + 1) (by omega) (by omega), show (i : Int) + 1 = ((i + 1 : Nat) : Int) by omega]
    by_cases c : (bitN a (i + n) : Int) = 1
    · rw [if_pos c, with_v _ i (by omega) (Nat.lt_of_le_of_lt (topN_le _ _) hR) (topN_bit _ i (by omega))]
      simp only [bindS]
      rw [← topN_one _ i (by omega) (by rw [eb]; omega)]
      exact ih k (i + 1) (by omega) (by omega)
    · rw [if_neg c, ← topN_none _ i (by omega) (by rw [eb]; omega)]
      exact ih k (i + 1) (by omega) (by omega)
theorem ref_up_v (k a : Nat) (n : Int) (hk : 260 ≤ k) (ha : a < 340282366920938463463374607431768211456) (h1 : -9223372036854775808 ≤ n) (h2 : n ≤ 9223372036854775807) :
    tenancyref01_Up.f k (H a) (L a) n = some (H (upN a n), L (upN a n)) := by
  unfold tenancyref01_Up.f
  by_cases c : n < 0
  · rw [if_pos c]
    have : upN a n = a := by unfold upN; rw [show n.toNat = 0 by omega, Nat.pow_zero, Nat.mul_one, Nat.mod_eq_of_lt ha]
    rw [this]
  · rw [if_neg c]
    obtain ⟨m, rfl⟩ := Int.eq_ofNat_of_zero_le (show 0 ≤ n by omega)
    have z := topN_zero (upN_lt a m)
    by_cases c2 : m ≤ 128
    · have := ref_up_l0 a m ha (128 - m) k 0 (by omega) (by omega)
      rw [z] at this
      exact this
    · obtain ⟨k, rfl⟩ : ∃ m, k = m + 2 := ⟨k - 2, by omega⟩
      have e : upN a m = 0 := by
        unfold upN
        rw [Int.toNat_natCast, show m = 128 + (m - 128) by omega, Nat.pow_add, Nat.mul_left_comm]
        exact Nat.mul_mod_right _ _
      simp only [tenancyref01_Up.l0]
      rw [if_pos (by decide), if_neg (by omega)]
      simp only [tenancyref01_Up.j1, Bool.false_eq_true, if_false]
      rw [e]
      rfl

theorem ref_down_l0 (a n : Nat) (ha : a < 340282366920938463463374607431768211456) : ∀ (d k i : Nat), i + n + d = 128 → 2 * d + 2 ≤ k →
    tenancyref01_Down.l0 k (n : Int) (i : Int) (H a) (L a) (H (topN (downN a n) (i + n))) (L (topN (downN a n) (i + n))) = some (H (downN a n), L (downN a n)) := by
  have hR : downN a n < 340282366920938463463374607431768211456 := Nat.lt_of_le_of_lt (downN_le a n) ha
  intro d
  induction d with
  | zero =>
    intro k i hi hk
    obtain ⟨k, rfl⟩ : ∃ m, k = m + 2 := ⟨k - 2, by omega⟩
    have e : ∀ b : Bool, b = false → tenancyref01_Down.j1 (k + 1) (n : Int) (i : Int) b (H a) (L a) (H (topN (downN a n) (i + n))) (L (topN (downN a n) (i + n))) = some (H (downN a n), L (downN a n)) := by
      rintro b rfl
      simp only [tenancyref01_Down.j1, Bool.false_eq_true, if_false]
      rw [show i + n = 128 by omega, topN_all]
    simp only [tenancyref01_Down.l0]
    by_cases c1 : (i : Int) < 128
    · rw [if_pos c1]
      by_cases c2 : (n : Int) < 128
      · rw [if_pos c2, w64_in (by omega) (by omega)]
        exact e _ (decide_eq_false (by omega))
      · rw [if_neg c2]; exact e _ rfl
    · rw [if_neg c1]; exact e _ rfl
  | succ d ih =>
    intro k i hi hk
    obtain ⟨k, rfl⟩ : ∃ m, k = m + 2 := ⟨k - 2, by omega⟩
    simp only [tenancyref01_Down.l0]
    rw [if_pos (by omega), if_pos (by omega), w64_in (x := (i : Int) + n) (by omega) (by omega), decide_eq_true (by omega)]
    simp only [tenancyref01_Down.j1, if_true]
    rw [bit_v a i (by omega) ha]
    simp only [bindS]
    rw [w64_in (x := (i : Int) + n) (by omega) (by omega), show (i : Int) + n = ((i + n : Nat) : Int) by omega]
    have eb : bitN (downN a n) (i + n) = bitN a i := by
      unfold bitN downN
      rw [Int.toNat_natCast, Nat.div_div_eq_div_mul, ← Nat.pow_add, show n + (127 - (i + n)) = 127 - i by omega]
    rw [w64_in (x := (i : Int) + 1) (by omega) (by omega), show (i : Int) + 1 = ((i + 1 : Nat) : Int) by omega]
    by_cases c : (bitN a i : Int) = 1
    · rw [if_pos c, with_v _ (i + n) (by omega) (Nat.lt_of_le_of_lt (topN_le _ _) hR) (topN_bit _ _ (by omega))]
      simp only [bindS]
      rw [← topN_one _ (i + n) (by omega) (by rw [eb]; omega), show i + n + 1 = i + 1 + n by omega]
      exact ih k (i + 1) (by omega) (by omega)
    · rw [if_neg c, ← topN_none _ (i + n) (by omega) (by rw [eb]; omega), show i + n + 1 = i + 1 + n by omega]
      exact ih k (i + 1) (by omega) (by omega)
theorem ref_down_v (k a : Nat) (n : Int) (hk : 260 ≤ k) (ha : a < 340282366920938463463374607431768211456) (h1 : -9223372036854775808 ≤ n) (h2 : n ≤ 9223372036854775807) :
    tenancyref01_Down.f k (H a) (L a) n = some (H (downN a n), L (downN a n)) := by
  unfold tenancyref01_Down.f
  by_cases c : n < 0
  · rw [if_pos c]
    have : downN a n = a := by unfold downN; rw [show n.toNat = 0 by omega, Nat.pow_zero, Nat.div_one]
    rw [this]
  · rw [if_neg c]
    obtain ⟨m, rfl⟩ := Int.eq_ofNat_of_zero_le (show 0 ≤ n by omega)
    by_cases c2 : m ≤ 128
    · have := ref_down_l0 a m ha (128 - m) k 0 (by omega) (by omega)
      have z : topN (downN a m) (0 + m) = 0 := by
        unfold topN downN
        rw [Int.toNat_natCast, Nat.div_div_eq_div_mul, ← Nat.pow_add, show m + (128 - (0 + m)) = 128 by omega, Nat.div_eq_of_lt (by simpa using ha), Nat.zero_mul]
      rw [z] at this
      exact this
    · obtain ⟨k, rfl⟩ : ∃ m, k = m + 2 := ⟨k - 2, by omega⟩
      have e : downN a m = 0 := by
        unfold downN
        rw [Int.toNat_natCast]
        refine Nat.div_eq_of_lt (Nat.lt_of_lt_of_le ha ?_)
        rw [show (340282366920938463463374607431768211456 : Nat) = 2 ^ 128 from rfl]
        exact Nat.pow_le_pow_right (by decide) (by omega)
      simp only [tenancyref01_Down.l0]
      rw [if_pos (by decide), if_neg (by omega)]
      simp only [tenancyref01_Down.j1, Bool.false_eq_true, if_false]
      rw [e]
      rfl

theorem ref_mod_l0 (a b : Nat) (hb0 : 0 < b) (ha : a < 340282366920938463463374607431768211456) (hb : b < 340282366920938463463374607431768211456) : ∀ (d k i : Nat), i + d = 128 → 2 * d + 270 ≤ k →
    tenancyref01_Mod.l0 k (i : Int) (H a) (L a) (H b) (L b) (H (a / 2 ^ (128 - i) % b)) (L (a / 2 ^ (128 - i) % b)) = some (H (a % b), L (a % b), true) := by
  intro d
  induction d with
  | zero =>
    intro k i hi hk
    obtain ⟨k, rfl⟩ : ∃ m, k = m + 1 := ⟨k - 1, by omega⟩
    simp only [tenancyref01_Mod.l0]
    rw [if_neg (by omega), show 128 - i = 0 by omega, Nat.pow_zero, Nat.div_one]
  | succ d ih =>
    intro k i hi hk
    obtain ⟨k, rfl⟩ : ∃ m, k = m + 2 := ⟨k - 2, by omega⟩
    simp only [tenancyref01_Mod.l0]
    have hr : a / 2 ^ (128 - i) % b < b := Nat.mod_lt _ hb0
    have ih' := ih k (i + 1) (by omega) (by omega)
    have enext : a / 2 ^ (128 - (i + 1)) % b = (2 * (a / 2 ^ (128 - i) % b) + bitN a i) % b := by
      unfold bitN
      rw [show 128 - (i + 1) = 127 - i by omega, show 128 - i = 127 - i + 1 by omega, Nat.pow_succ, ← Nat.div_div_eq_div_mul]
      generalize a / 2 ^ (127 - i) = q
      rw [Nat.add_mod, Nat.mul_mod_mod, ← Nat.add_mod]
      congr 1
      omega
    rw [enext] at ih'
    generalize a / 2 ^ (128 - i) % b = r at *
    have hrM : r < 340282366920938463463374607431768211456 := Nat.lt_trans hr hb
    have h0 := bit_v r 0 (by decide) hrM
    rw [show ((0 : Nat) : Int) = 0 from rfl] at h0
    rw [if_pos (by omega), h0]
    simp only [bindS]
    rw [ref_up_v _ r 1 (by omega) hrM (by decide) (by decide), bit_v a i (by omega) ha]
    simp only [bindS]
    have eu : upN r 1 = 2 * r % 340282366920938463463374607431768211456 := by unfold upN; rw [show (1 : Int).toNat = 1 from rfl, Nat.pow_one, Nat.mul_comm]
    have hbit := bitN_lt a i
    have last : ∀ r' : Nat, r' = 2 * r % 340282366920938463463374607431768211456 + bitN a i →
        tenancyref01_Mod.j1 (k + 1) (i : Int) ((bitN r 0 : Int) == 1) (H a) (L a) (H b) (L b) (H r') (L r') = some (H (a % b), L (a % b), true) := by
      intro r' hr'
      have hb127 : bitN r 0 = r / 170141183460469231731687303715884105728 % 2 := rfl
      have hr'M : r' < 340282366920938463463374607431768211456 := by omega
      simp only [tenancyref01_Mod.j1]
      rw [w64_in (x := (i : Int) + 1) (by omega) (by omega), show (i : Int) + 1 = ((i + 1 : Nat) : Int) by omega]
      by_cases c1 : ((bitN r 0 : Int) == 1) = true
      · rw [if_pos c1, ref_sub_v k r' b (by omega) hr'M hb]
        simp only [bindS]
        have c1' : bitN r 0 = 1 := by have := beq_iff_eq.1 c1; omega
        have e : (r' + 340282366920938463463374607431768211456 - b) % 340282366920938463463374607431768211456 = (2 * r + bitN a i) % b := by
          have e1 : (2 * r + bitN a i) % b = 2 * r + bitN a i - b := by
            rw [Nat.mod_eq_sub_mod (by omega), Nat.mod_eq_of_lt (by omega)]
          rw [e1]; omega
        rw [e]
        exact ih'
      · rw [if_neg c1, ref_cmp_v k r' b (by omega) hr'M hb]
        simp only [bindS, cmpN_ge]
        have c1' : ¬ bitN r 0 = 1 := fun h => c1 (beq_iff_eq.2 (by omega))
        have e0 : r' = 2 * r + bitN a i := by omega
        by_cases c2 : b ≤ r'
        · rw [if_pos c2, ref_sub_v k r' b (by omega) hr'M hb]
          simp only [bindS]
          have e : (r' + 340282366920938463463374607431768211456 - b) % 340282366920938463463374607431768211456 = (2 * r + bitN a i) % b := by
            have e1 : (2 * r + bitN a i) % b = 2 * r + bitN a i - b := by
              rw [Nat.mod_eq_sub_mod (by omega), Nat.mod_eq_of_lt (by omega)]
            rw [e1]; omega
          rw [e]
          exact ih'
        · rw [if_neg c2]
          have e : r' = (2 * r + bitN a i) % b := by rw [Nat.mod_eq_of_lt (by omega)]; exact e0
          rw [e]
          exact ih'
    rw [eu]
    by_cases c : (bitN a i : Int) = 1
    · have hz : bitN (2 * r % 340282366920938463463374607431768211456) 127 = 0 := by
        unfold bitN
        rw [show 127 - 127 = 0 from rfl, Nat.pow_zero, Nat.div_one]; omega
      have hw := with_v (2 * r % 340282366920938463463374607431768211456) 127 (by decide) (Nat.mod_lt _ (by decide)) hz
      rw [show ((127 : Nat) : Int) = 127 from rfl] at hw
      rw [if_pos c, hw]
      simp only [bindS]
      exact last _ (by rw [show 127 - 127 = 0 from rfl, Nat.pow_zero]; omega)
    · rw [if_neg c]
      exact last _ (by omega)
theorem ref_mod_v (k a b : Nat) (hk : 530 ≤ k) (ha : a < 340282366920938463463374607431768211456) (hb : b < 340282366920938463463374607431768211456) :
    tenancyref01_Mod.f k (H a) (L a) (H b) (L b) = if b = 0 then some (0, 0, false) else some (H (a % b), L (a % b), true) := by
  unfold tenancyref01_Mod.f
  rw [HL_zero]
  by_cases c : b = 0
  · rw [decide_eq_true c, if_pos rfl, if_pos c]
  · rw [decide_eq_false c, if_neg (by decide), if_neg c]
    have := ref_mod_l0 a b (by omega) ha hb 128 k 0 rfl (by omega)
    rw [Nat.div_eq_of_lt (a := a) (by simpa using ha), Nat.zero_mod] at this
    exact this

theorem ref_to4_l0 (a : Nat) (ha : a < 340282366920938463463374607431768211456) : ∀ (d k i : Nat), i + d = 96 → d < k → a / 2 ^ (128 - i) = 0 →
    tenancyref01_To4.l0 k (i : Int) (H a) (L a) = some (if a < 4294967296 then ((a : Int), true) else (0, false)) := by
  intro d
  induction d with
  | zero =>
    intro k i hi hk he
    obtain ⟨k, rfl⟩ : ∃ m, k = m + 1 := ⟨k - 1, by omega⟩
    simp only [tenancyref01_To4.l0]
    rw [show 128 - i = 32 by omega] at he
    have hl : a < 4294967296 := by omega
    rw [if_neg (by omega), if_pos hl]
    refine congrArg some (Prod.ext ?_ rfl)
    show L a % 4294967296 = (a : Int)
    unfold L; omega
  | succ d ih =>
    intro k i hi hk he
    obtain ⟨k, rfl⟩ : ∃ m, k = m + 1 := ⟨k - 1, by omega⟩
    simp only [tenancyref01_To4.l0]
    rw [if_pos (by omega), bit_v a i (by omega) ha]
    simp only [bindS]
    rw [show 128 - i = 127 - i + 1 by omega, Nat.pow_succ, ← Nat.div_div_eq_div_mul] at he
    have hb : bitN a i = a / 2 ^ (127 - i) % 2 := rfl
    by_cases c : (bitN a i : Int) = 1
    · rw [if_pos c]
      have h1 : ¬ a < 4294967296 := by
        intro h
        have : a / 2 ^ (127 - i) = 0 := by
          refine Nat.div_eq_of_lt (Nat.lt_of_lt_of_le h ?_)
          rw [show (4294967296 : Nat) = 2 ^ 32 from rfl]
          exact Nat.pow_le_pow_right (by decide) (by omega)
        omega
      rw [if_neg h1]
    · rw [if_neg c, w64_in (by omega) (by omega), show (i : Int) + 1 = ((i + 1 : Nat) : Int) by omega]
      refine ih k (i + 1) (by omega) (by omega) ?_
      rw [show 128 - (i + 1) = 127 - i by omega]
      omega
theorem ref_to4_v (k a : Nat) (hk : 100 ≤ k) (ha : a < 340282366920938463463374607431768211456) : tenancyref01_To4.f k (H a) (L a) = some (if a < 4294967296 then ((a : Int), true) else (0, false)) := by
  unfold tenancyref01_To4.f
  refine ref_to4_l0 a ha 96 k 0 rfl (by omega) ?_
  exact Nat.div_eq_of_lt (by simpa using ha)
end Go.Proofs.Ytpllddgbfhnghaa
