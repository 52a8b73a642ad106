/- What the printed functions math/bits.Div64 and addr.Mod come to: the remainder. No condition but that the numbers are of their kinds. -/
import Derived.Test.YtpllddgbfhnghaaPx7
import Derived.Test.YtpllddgbfhnghaaPx8
import Derived.Test.YtpllddgbfhnghaaAddrV
import Derived.Lib.ItoaNum
namespace Go.Proofs.Ytpllddgbfhnghaa
open Go.RowKit Go.Proofs.Ytpllddgbfhnghaa.P Go.Proofs.YtpllddgbfhnghaaW.PrintWords Go.Proofs.YtpllddgbfhnghaaW.PrintLast Go.Proofs.YtpllddgbfhnghaaW.PrintMore

theorem and_mask (x : Nat) (h : x < 18446744073709551616) : Go.bits .and .u64 x 4294967295 = ((x % 4294967296 : Nat) : Int) := by
  have := and_nat x 4294967295 h (by decide)
  rw [show ((4294967295 : Nat) : Int) = 4294967295 from rfl] at this
  rw [this, show (4294967295 : Nat) = 2 ^ 32 - 1 from rfl, Nat.and_two_pow_sub_one_eq_mod]

/-! ### one digit of the quotient: y = y1 * 2^32 + y0, u < y, d < 2^32; q is a guess, rh = u - q * y1 -/
/-- the guess is too great -/
theorem dig_hi {Y y1 y0 u d q rh : Int} (hY : Y = y1 * 4294967296 + y0) (_h1 : 0 ≤ y1) (hu : u < Y) (_hu0 : 0 ≤ u) (hd0 : 0 ≤ d) (hd : d < 4294967296) (hrh : rh = u - q * y1)
    (hc : 4294967296 ≤ q ∨ rh * 4294967296 + d < q * y0) (hYp : 0 < Y) : (u * 4294967296 + d) / Y ≤ q - 1 := by
  have e : q * Y = (u - rh) * 4294967296 + q * y0 := by
    have : u - rh = q * y1 := by omega
    rw [this, hY, Int.mul_add, Int.mul_assoc]
  have hgt : u * 4294967296 + d < q * Y := by
    rcases hc with hc | hc
    · have : 4294967296 * Y ≤ q * Y := Int.mul_le_mul_of_nonneg_right hc (Int.le_of_lt hYp)
      omega
    · rw [e, Int.sub_mul]; omega
  have : (u * 4294967296 + d) / Y < q := Int.ediv_lt_of_lt_mul hYp hgt
  omega
/-- the guess is not too great -/
theorem dig_lo {Y y1 y0 u d q rh : Int} (hY : Y = y1 * 4294967296 + y0) (hrh : rh = u - q * y1) (hc : q * y0 ≤ rh * 4294967296 + d) (hYp : 0 < Y) : q ≤ (u * 4294967296 + d) / Y := by
  have e : q * Y = (u - rh) * 4294967296 + q * y0 := by
    have : u - rh = q * y1 := by omega
    rw [this, hY, Int.mul_add, Int.mul_assoc]
  refine Int.le_ediv_of_mul_le hYp ?_
  rw [e, Int.sub_mul]; omega
/-- where the rest has grown past 2^32 the guess is not too great -/
theorem dig_far {y0 q rh d : Int} (_hq0 : 0 ≤ q) (hq : q ≤ 4294967296) (h0 : 0 ≤ y0) (hy : y0 < 4294967296) (hr : 4294967296 ≤ rh) (hd : 0 ≤ d) : q * y0 ≤ rh * 4294967296 + d := by
  have h1 : q * y0 ≤ 4294967296 * y0 := Int.mul_le_mul_of_nonneg_right hq h0
  omega
theorem dig_start {Y y1 y0 u q : Int} (hY : Y = y1 * 4294967296 + y0) (hy1 : 2147483648 ≤ y1) (hy0 : y0 < 4294967296) (hu : u < Y) (hu0 : 0 ≤ u) (hq : q = u / y1) : 0 ≤ q ∧ q ≤ 4294967297 ∧ 0 ≤ u - q * y1 ∧ u - q * y1 < y1 := by
  subst hq
  have h1 := Int.ediv_mul_add_emod u y1
  have h2 := Int.emod_nonneg u (show y1 ≠ 0 by omega)
  have h3 := Int.emod_lt_of_pos u (show 0 < y1 by omega)
  refine ⟨Int.ediv_nonneg hu0 (by omega), ?_, by omega, by omega⟩
  have : u / y1 < 4294967298 := Int.ediv_lt_of_lt_mul (by omega) (by omega)
  omega

section
variable {Y y1 y0 u d s e : Int}
/-- the first digit's loop -/
theorem div_l0 (hY : Y = y1 * 4294967296 + y0) (hy1 : 2147483648 ≤ y1) (hy1' : y1 < 4294967296) (h0 : 0 ≤ y0) (hy0 : y0 < 4294967296) (hu0 : 0 ≤ u) (hu : u < Y) (hd0 : 0 ≤ d) (hd : d < 4294967296) (m : Nat) :
    ∀ (k : Nat) (q rh : Int), rh = u - q * y1 → 0 ≤ rh → rh < 4294967296 → 0 ≤ q → q ≤ 4294967297 → (u * 4294967296 + d) / Y ≤ q → 4294967296 ≤ rh + m * 2147483648 →
      ∃ k', k ≤ k' ∧ bits_Div64.l0 (k + 2 * m + 2) Y s y1 y0 u d e q rh = bits_Div64.j2 k' Y s y1 y0 u d e ((u * 4294967296 + d) / Y) := by
  induction m with
  | zero => intro k q rh _ _ _ _ _ _ h; omega
  | succ m ih =>
    intro k q rh hrh hr0 hr hq0 hq hQ hm
    rw [show k + 2 * (m + 1) + 2 = (k + 2 * m + 2) + 1 + 1 by omega]
    have hYp : 0 < Y := by omega
    have go : ∀ b : Bool, (b = true → 4294967296 ≤ q ∨ rh * 4294967296 + d < q * y0) → (b = false → q * y0 ≤ rh * 4294967296 + d) →
        ∃ k', k ≤ k' ∧ bits_Div64.j1 (k + 2 * m + 2 + 1) Y s y1 y0 u d e q rh b = bits_Div64.j2 k' Y s y1 y0 u d e ((u * 4294967296 + d) / Y) := by
      intro b ht hf
      simp only [bits_Div64.j1]
      cases b with
      | true =>
        rw [if_pos rfl]
        have hQ1 := dig_hi hY (by omega) hu hu0 hd0 hd hrh (ht rfl) hYp
        have hQ0 : 0 ≤ (u * 4294967296 + d) / Y := Int.ediv_nonneg (by omega) (by omega)
        have hrh' : rh + y1 = u - (q - 1) * y1 := by rw [hrh, Int.sub_mul]; omega
        rw [wu64_in (x := rh + y1) (by omega) (by omega), wu64_in (x := q - 1) (by omega) (by omega)]
        by_cases c : rh + y1 ≥ 4294967296
        · rw [if_pos c]
          have := dig_lo hY hrh' (dig_far (q := q - 1) (rh := rh + y1) (d := d) (by omega) (by omega) h0 hy0 (by omega) hd0) hYp
          exact ⟨k + 2 * m + 2, by omega, by rw [show q - 1 = (u * 4294967296 + d) / Y by omega]⟩
        · rw [if_neg c]
          exact ih k (q - 1) (rh + y1) hrh' (by omega) (by omega) (by omega) (by omega) hQ1 (by omega)
      | false =>
        rw [if_neg (by decide)]
        have := dig_lo hY hrh (hf rfl) hYp
        exact ⟨k + 2 * m + 2, by omega, by rw [show q = (u * 4294967296 + d) / Y by omega]⟩
    simp only [bits_Div64.l0]
    by_cases c : q ≥ 4294967296
    · rw [if_pos c]
      exact go true (fun _ => .inl c) (fun h => by cases h)
    · rw [if_neg c]
      have p1 : 0 ≤ q * y0 := Int.mul_nonneg hq0 h0
      have p2 : q * y0 ≤ 4294967295 * y0 := Int.mul_le_mul_of_nonneg_right (by omega) h0
      rw [wu64_in (x := q * y0) p1 (by omega), wu64_in (x := 4294967296 * rh) (by omega) (by omega), wu64_in (x := 4294967296 * rh + d) (by omega) (by omega)]
      refine go _ (fun h => .inr ?_) (fun h => ?_)
      · have := of_decide_eq_true h; omega
      · have := of_decide_eq_false h; omega
/-- the second digit's loop, and the end -/
theorem div_l1 (hY : Y = y1 * 4294967296 + y0) (hy1 : 2147483648 ≤ y1) (hy1' : y1 < 4294967296) (h0 : 0 ≤ y0) (hy0 : y0 < 4294967296) (hu0 : 0 ≤ u) (hu : u < Y) (hd0 : 0 ≤ d) (hd : d < 4294967296) (hs : 0 ≤ s) (x : Int) (m : Nat) :
    ∀ (k : Nat) (q rh : Int), rh = u - q * y1 → 0 ≤ rh → rh < 4294967296 → 0 ≤ q → q ≤ 4294967297 → (u * 4294967296 + d) / Y ≤ q → 4294967296 ≤ rh + m * 2147483648 →
      ∃ r, bits_Div64.l1 (k + 2 * m + 2) Y s y1 y0 d x rh u q = some (r, shr .u64 ((u * 4294967296 + d) % Y) s) := by
  have hYp : 0 < Y := by omega
  have fin : ∀ q, q = (u * 4294967296 + d) / Y → IntKind.u64.wrap (IntKind.u64.wrap (IntKind.u64.wrap (u * 4294967296) + d) - IntKind.u64.wrap (q * Y)) = (u * 4294967296 + d) % Y := by
    intro q hq
    have e1 := Int.ediv_mul_add_emod (u * 4294967296 + d) Y
    have e2 := Int.emod_nonneg (u * 4294967296 + d) (show Y ≠ 0 by omega)
    have e3 := Int.emod_lt_of_pos (u * 4294967296 + d) hYp
    have e4 : Y < 18446744073709551616 := by omega
    rw [← hq] at e1
    simp only [wu64]
    generalize q * Y = z at *
    omega
  induction m with
  | zero => intro k q rh _ _ _ _ _ _ h; omega
  | succ m ih =>
    intro k q rh hrh hr0 hr hq0 hq hQ hm
    rw [show k + 2 * (m + 1) + 2 = (k + 2 * m + 2) + 1 + 1 by omega]
    have go : ∀ b : Bool, (b = true → 4294967296 ≤ q ∨ rh * 4294967296 + d < q * y0) → (b = false → q * y0 ≤ rh * 4294967296 + d) →
        ∃ r, bits_Div64.j4 (k + 2 * m + 2 + 1) Y s y1 y0 d x rh u q b = some (r, shr .u64 ((u * 4294967296 + d) % Y) s) := by
      intro b ht hf
      simp only [bits_Div64.j4]
      cases b with
      | true =>
        rw [if_pos rfl]
        have hQ1 := dig_hi hY (by omega) hu hu0 hd0 hd hrh (ht rfl) hYp
        have hQ0 : 0 ≤ (u * 4294967296 + d) / Y := Int.ediv_nonneg (by omega) (by omega)
        have hrh' : rh + y1 = u - (q - 1) * y1 := by rw [hrh, Int.sub_mul]; omega
        rw [wu64_in (x := rh + y1) (by omega) (by omega), wu64_in (x := q - 1) (by omega) (by omega)]
        by_cases c : rh + y1 ≥ 4294967296
        · rw [if_pos c, if_pos hs]
          have := dig_lo hY hrh' (dig_far (q := q - 1) (rh := rh + y1) (d := d) (by omega) (by omega) h0 hy0 (by omega) hd0) hYp
          rw [fin (q - 1) (by omega)]
          exact ⟨_, rfl⟩
        · rw [if_neg c]
          exact ih k (q - 1) (rh + y1) hrh' (by omega) (by omega) (by omega) (by omega) hQ1 (by omega)
      | false =>
        rw [if_neg (by decide), if_pos hs]
        have := dig_lo hY hrh (hf rfl) hYp
        rw [fin q (by omega)]
        exact ⟨_, rfl⟩
    simp only [bits_Div64.l1]
    by_cases c : q ≥ 4294967296
    · rw [if_pos c]
      exact go true (fun _ => .inl c) (fun h => by cases h)
    · rw [if_neg c]
      have p1 : 0 ≤ q * y0 := Int.mul_nonneg hq0 h0
      have p2 : q * y0 ≤ 4294967295 * y0 := Int.mul_le_mul_of_nonneg_right (by omega) h0
      rw [wu64_in (x := q * y0) p1 (by omega), wu64_in (x := 4294967296 * rh) (by omega) (by omega), wu64_in (x := 4294967296 * rh + d) (by omega) (by omega)]
      refine go _ (fun h => .inr ?_) (fun h => ?_)
      · have := of_decide_eq_true h; omega
      · have := of_decide_eq_false h; omega
end
theorem tdiv_pos {a b : Int} (h : 0 ≤ a) (_h2 : 0 ≤ b) : Int.tdiv a b = a / b := Int.tdiv_eq_ediv_of_nonneg h
/-- both digits -/
theorem div_core (Y y1 y0 u d e s : Int) (hY : Y = y1 * 4294967296 + y0) (hy1 : 2147483648 ≤ y1) (hy1' : y1 < 4294967296) (h0 : 0 ≤ y0) (hy0 : y0 < 4294967296) (hu0 : 0 ≤ u) (hu : u < Y) (hd0 : 0 ≤ d) (hd : d < 4294967296) (he0 : 0 ≤ e) (he : e < 4294967296) (hs : 0 ≤ s) (k : Nat) (hk : 20 ≤ k) :
    ∃ r, bits_Div64.l0 k Y s y1 y0 u d e (u / y1) (u - (u / y1) * y1) = some (r, shr .u64 ((u * 18446744073709551616 + d * 4294967296 + e) % Y) s) := by
  have hYp : 0 < Y := by omega
  have hYt : Y < 18446744073709551616 := by omega
  obtain ⟨a1, a2, a3, a4⟩ := dig_start (q := u / y1) hY hy1 hy0 hu hu0 rfl
  have guess : ∀ {u d : Int}, 0 ≤ u → u < Y → 0 ≤ d → d < 4294967296 → (u * 4294967296 + d) / Y ≤ u / y1 := by
    intro u d hu0 hu hd0 hd
    have b1 := Int.ediv_mul_add_emod u y1
    have b2 := Int.emod_lt_of_pos u (show 0 < y1 by omega)
    have b3 : 0 ≤ u / y1 := Int.ediv_nonneg hu0 (by omega)
    have : (u * 4294967296 + d) / Y < u / y1 + 1 := by
      refine Int.ediv_lt_of_lt_mul hYp ?_
      have c1 : (u / y1 + 1) * Y = (u / y1 * y1) * 4294967296 + y1 * 4294967296 + (u / y1 + 1) * y0 := by
        rw [hY, Int.mul_add, Int.add_mul (u / y1) 1 (y1 * 4294967296), ← Int.mul_assoc]; omega
      have c2 : 0 ≤ (u / y1 + 1) * y0 := Int.mul_nonneg (by omega) h0
      rw [c1]
      omega
    omega
  have g1 := guess hu0 hu hd0 hd
  obtain ⟨k', hk', e1⟩ := div_l0 (s := s) (e := e) hY hy1 hy1' h0 hy0 hu0 hu hd0 hd 2 (k - 6) (u / y1) (u - u / y1 * y1) rfl a3 (by omega) a1 a2 g1 (by omega)
  rw [show k - 6 + 2 * 2 + 2 = k by omega] at e1
  rw [e1]
  obtain ⟨k2, rfl⟩ : ∃ m, k' = m + 1 := ⟨k' - 1, by omega⟩
  simp only [bits_Div64.j2]
  rw [if_neg (by omega)]
  have q1 := Int.ediv_mul_add_emod (u * 4294967296 + d) Y
  have q2 := Int.emod_nonneg (u * 4294967296 + d) (show Y ≠ 0 by omega)
  have q3 := Int.emod_lt_of_pos (u * 4294967296 + d) hYp
  have u21 : IntKind.u64.wrap (IntKind.u64.wrap (IntKind.u64.wrap (u * 4294967296) + d) - IntKind.u64.wrap ((u * 4294967296 + d) / Y * Y)) = (u * 4294967296 + d) % Y := by
    simp only [wu64]
    generalize (u * 4294967296 + d) / Y * Y = z at *
    omega
  rw [u21]
  generalize hv : (u * 4294967296 + d) % Y = v at *
  have t1 := tdiv_pos q2 (show 0 ≤ y1 by omega)
  obtain ⟨b1, b2, b3, b4⟩ := dig_start (q := v / y1) hY hy1 hy0 q3 q2 rfl
  have b5 := Int.ediv_mul_add_emod v y1
  have b6 := Int.emod_nonneg v (show y1 ≠ 0 by omega)
  rw [t1, wu64_in (x := v / y1) b1 (by omega), wu64_in (x := v / y1 * y1) (Int.mul_nonneg b1 (by omega)) (by omega), wu64_in (x := v - v / y1 * y1) b3 (by omega)]
  obtain ⟨r, e2⟩ := div_l1 (s := s) hY hy1 hy1' h0 hy0 q2 q3 he0 he hs ((u * 4294967296 + d) / Y) 2 (k2 - 6) (v / y1) (v - v / y1 * y1) rfl b3 (by omega) b1 b2 (guess q2 q3 he0 he) (by omega)
  rw [show k2 - 6 + 2 * 2 + 2 = k2 by omega] at e2
  refine ⟨r, e2.trans ?_⟩
  have e3 : (v * 4294967296 + e) % Y = (u * 18446744073709551616 + d * 4294967296 + e) % Y := by
    have : u * 18446744073709551616 + d * 4294967296 + e = (v * 4294967296 + e) + Y * ((u * 4294967296 + d) / Y * 4294967296) := by
      have z : (u * 4294967296 + d) * 4294967296 = ((u * 4294967296 + d) / Y * Y + v) * 4294967296 := by rw [q1]
      have z2 : (u * 4294967296 + d) / Y * Y * 4294967296 = Y * ((u * 4294967296 + d) / Y * 4294967296) := by
        rw [Int.mul_comm _ Y, Int.mul_assoc]
      rw [Int.add_mul, Int.add_mul, z2] at z
      omega
    rw [this, Int.add_mul_emod_self_left]
  rw [e3]
/-- the rest of hi * 2^64 + lo by y -/
theorem div64_v (k hi lo y : Nat) (hk : 20 ≤ k) (hy : hi < y) (hyt : y < 18446744073709551616) (hlo : lo < 18446744073709551616) :
    ∃ r, bits_Div64.f k hi lo y = some (r, (((hi * 18446744073709551616 + lo) % y : Nat) : Int)) := by
  unfold bits_Div64.f
  rw [if_neg (by omega), if_neg (by omega)]
  by_cases c : (hi : Int) = 0
  · rw [if_pos c]
    have : hi = 0 := by omega
    subst this
    refine ⟨_, congrArg some (Prod.ext rfl ?_)⟩
    show Int.tmod lo y = _
    rw [Int.tmod_eq_emod_of_nonneg (by omega)]
    simp
  · rw [if_neg c]
    obtain ⟨l1, l2, l3⟩ := Lib.bitLenAux_bounds 64 y (by omega) (by omega)
    have l4 : Lib.bitLenAux 64 y ≤ 64 := Lib.bitLenAux_le 64 y 64 (by omega)
    unfold bits_LeadingZeros64.f
    rw [if_pos ⟨by omega, by omega⟩]
    simp only [bindS, Int.toNat_natCast]
    unfold Lib.bitLen
    generalize Lib.bitLenAux 64 y = b at *
    rw [show (64 - (b : Int)) = ((64 - b : Nat) : Int) by omega]
    generalize hs : 64 - b = s
    have hsb : s ≤ 63 := by omega
    rw [wu64_in (x := (s : Int)) (by omega) (by omega), show (64 - (s : Int)) = ((64 - s : Nat) : Int) by omega, wu64_in (x := ((64 - s : Nat) : Int)) (by omega) (by omega), if_pos (by omega), if_pos (by omega)]
    have hpq := pow_split (n := s) (by omega)
    have hp := Nat.two_pow_pos s
    have hq := Nat.two_pow_pos (64 - s)
    have ylo : 9223372036854775808 ≤ y * 2 ^ s := by
      have : 2 ^ (b - 1) * 2 ^ s = 9223372036854775808 := by rw [← Nat.pow_add, show b - 1 + s = 63 by omega]
      rw [← this]; exact Nat.mul_le_mul_right _ l2
    have yhi : y * 2 ^ s < 18446744073709551616 := by
      have : 2 ^ b * 2 ^ s = 18446744073709551616 := by rw [← Nat.pow_add, show b + s = 64 by omega]
      rw [← this]; exact Nat.mul_lt_mul_of_pos_right l3 hp
    have eY : shl .u64 y s = ((y * 2 ^ s : Nat) : Int) := by rw [shl_nat _ _ (by omega), Nat.mod_eq_of_lt yhi]
    -- the number, shifted
    have ha : hi * 18446744073709551616 + lo < y * 18446744073709551616 := by omega
    have hap : (hi * 18446744073709551616 + lo) * 2 ^ s < y * 2 ^ s * 18446744073709551616 := by
      rw [Nat.mul_right_comm]; exact Nat.mul_lt_mul_of_pos_right ha hp
    obtain ⟨s1, s2, s3, s4⟩ := shl_halves (hi * 18446744073709551616 + lo) (2 ^ s) (2 ^ (64 - s)) hpq hp hq
    have z1 : (hi * 18446744073709551616 + lo) / 18446744073709551616 = hi := by omega
    have z2 : (hi * 18446744073709551616 + lo) % 18446744073709551616 = lo := by omega
    simp only [z1, z2] at s1 s2 s3 s4
    rw [Nat.mod_eq_of_lt (by omega)] at s1
    have eu : Go.bits .or .u64 (shl .u64 hi s) (shr .u64 lo ((64 - s : Nat) : Int)) = ((hi * 2 ^ s % 18446744073709551616 + lo / 2 ^ (64 - s) : Nat) : Int) := by
      rw [shl_nat _ _ (by omega), shr_nat _ _ (by omega), or_nat _ _ (Nat.mod_lt _ (by decide)) (by omega), or_add _ _ s s2 s3]
    have el : shl .u64 lo s = ((lo * 2 ^ s % 18446744073709551616 : Nat) : Int) := shl_nat _ _ (by omega)
    rw [eY, eu, el]
    rw [and_mask _ yhi, and_mask _ (Nat.mod_lt _ (by decide))]
    generalize hu : hi * 2 ^ s % 18446744073709551616 + lo / 2 ^ (64 - s) = u at *
    generalize hw : lo * 2 ^ s % 18446744073709551616 = w at *
    have hmod : ((hi * 18446744073709551616 + lo) * 2 ^ s) % (y * 2 ^ s) = ((hi * 18446744073709551616 + lo) % y) * 2 ^ s := Nat.mul_mod_mul_right _ _ _
    rw [s1] at hmod hap
    have hyr : (hi * 18446744073709551616 + lo) % y < 18446744073709551616 := Nat.lt_trans (Nat.mod_lt _ (by omega)) hyt
    obtain ⟨r, hr⟩ : ∃ r, (hi * 18446744073709551616 + lo) % y = r := ⟨_, rfl⟩
    rw [hr] at hmod hyr ⊢
    clear hr
    obtain ⟨Y, hYn⟩ : ∃ Y, y * 2 ^ s = Y := ⟨_, rfl⟩
    rw [hYn] at hmod hap ylo yhi ⊢
    clear hYn eY
    have hut : u < Y := by omega
    have hwt : w < 18446744073709551616 := by omega
    rw [if_neg (by omega)]
    obtain ⟨z, hz⟩ := div_core (Y : Int) ((Y : Int) / 4294967296) ((Y % 4294967296 : Nat) : Int) u ((w : Int) / 4294967296) ((w % 4294967296 : Nat) : Int) s (by omega) (by omega) (by omega) (by omega) (by omega) (by omega) (by omega) (by omega) (by omega) (by omega) (by omega) (by omega) k hk
    have t := tdiv_pos (a := (u : Int)) (b := (Y : Int) / 4294967296) (by omega) (by omega)
    obtain ⟨a1, a2, a3, a4⟩ := dig_start (Y := (Y : Int)) (y1 := (Y : Int) / 4294967296) (y0 := ((Y % 4294967296 : Nat) : Int)) (u := u) (q := (u : Int) / ((Y : Int) / 4294967296)) (by omega) (by omega) (by omega) (by omega) (by omega) rfl
    rw [t, wu64_in (x := (u : Int) / ((Y : Int) / 4294967296)) a1 (by omega), wu64_in (x := (u : Int) / ((Y : Int) / 4294967296) * ((Y : Int) / 4294967296)) (Int.mul_nonneg a1 (by omega)) (by omega), wu64_in (x := (u : Int) - (u : Int) / ((Y : Int) / 4294967296) * ((Y : Int) / 4294967296)) a3 (by omega)]
    refine ⟨z, hz.trans ?_⟩
    have e1 : ((u : Int) * 18446744073709551616 + (w : Int) / 4294967296 * 4294967296 + ((w % 4294967296 : Nat) : Int)) % (Y : Int) = ((r * 2 ^ s : Nat) : Int) := by
      rw [← hmod]
      have : (u : Int) * 18446744073709551616 + (w : Int) / 4294967296 * 4294967296 + ((w % 4294967296 : Nat) : Int) = ((u * 18446744073709551616 + w : Nat) : Int) := by omega
      rw [this]
      exact (Int.natCast_emod _ _).symm
    rw [e1, shr_nat _ _ (by omega), Nat.mul_div_cancel _ hp]

/-! ### Mod -/
/-- the loop of the long division: from n on down -/
theorem mod_l0 (b : Nat) (_hb0 : 0 < b) (hb : b < 340282366920938463463374607431768211456) : ∀ (n : Nat) (k a : Nat), n ≤ 63 → n + 5 ≤ k → a < b * 2 ^ (n + 1) → b * 2 ^ n < 340282366920938463463374607431768211456 → a < 340282366920938463463374607431768211456 →
    addr_Mod.l0 k (n : Int) (H a) (L a) (H b) (L b) = some (H (a % b), L (a % b), true) := by
  have step : ∀ (n k a : Nat), n ≤ 63 → 3 ≤ k → a < b * 2 ^ (n + 1) → b * 2 ^ n < 340282366920938463463374607431768211456 → a < 340282366920938463463374607431768211456 →
      ∃ a', a' < b * 2 ^ n ∧ a' < 340282366920938463463374607431768211456 ∧ a' % b = a % b ∧ addr_Mod.l0 (k + 1) (n : Int) (H a) (L a) (H b) (L b) = addr_Mod.l0 k ((n : Int) - 1) (H a') (L a') (H b) (L b) := by
    intro n k a hn hk hlt hbn ha
    simp only [addr_Mod.l0]
    rw [if_pos (by omega), up_v b n hb (by omega) (by omega)]
    simp only [bindS]
    have eu : upN b n = b * 2 ^ n := by unfold upN; rw [Int.toNat_natCast, Nat.mod_eq_of_lt hbn]
    rw [eu, cmp_v k _ _ hk]
    simp only [bindS, cmpN_ge]
    rw [w64_in (by omega) (by omega)]
    by_cases c : b * 2 ^ n ≤ a
    · rw [if_pos c, sub_v _ _ ha hbn]
      simp only [bindS]
      have e : (a + 340282366920938463463374607431768211456 - b * 2 ^ n) % 340282366920938463463374607431768211456 = a - b * 2 ^ n := by omega
      rw [e]
      have hp : b * 2 ^ (n + 1) = b * 2 ^ n + b * 2 ^ n := by rw [Nat.pow_succ, ← Nat.mul_assoc]; omega
      refine ⟨a - b * 2 ^ n, by omega, by omega, ?_, rfl⟩
      have : a = (a - b * 2 ^ n) + b * 2 ^ n := by omega
      conv => rhs; rw [this]
      exact (Nat.add_mul_mod_self_left _ _ _).symm
    · rw [if_neg c]
      exact ⟨a, by omega, ha, rfl, rfl⟩
  intro n
  induction n with
  | zero =>
    intro k a hn hk hlt hbn ha
    obtain ⟨k, rfl⟩ : ∃ m, k = m + 2 := ⟨k - 2, by omega⟩
    obtain ⟨a', h1, h2, h3, h4⟩ := step 0 (k + 1) a hn (by omega) hlt hbn ha
    rw [h4]
    simp only [addr_Mod.l0]
    rw [if_neg (by omega), ← h3]
    have : a' < b := by simpa using h1
    rw [Nat.mod_eq_of_lt this]
  | succ n ih =>
    intro k a hn hk hlt hbn ha
    obtain ⟨k, rfl⟩ : ∃ m, k = m + 1 := ⟨k - 1, by omega⟩
    obtain ⟨a', h1, h2, h3, h4⟩ := step (n + 1) k a hn (by omega) hlt hbn ha
    rw [h4, show (((n + 1 : Nat) : Int) - 1) = (n : Int) by omega]
    have hle : b * 2 ^ n ≤ b * 2 ^ (n + 1) := Nat.mul_le_mul_left _ (Nat.pow_le_pow_right (by decide) (by omega))
    rw [ih k a' (by omega) (by omega) h1 (by omega) h2, h3]
theorem mod_v (k a b : Nat) (hk : 80 ≤ k) (ha : a < 340282366920938463463374607431768211456) (hb : b < 340282366920938463463374607431768211456) :
    addr_Mod.f k (H a) (L a) (H b) (L b) = if b = 0 then some (0, 0, false) else some (H (a % b), L (a % b), true) := by
  unfold addr_Mod.f
  rw [HL_zero]
  by_cases c : b = 0
  · rw [decide_eq_true c, if_pos rfl, if_pos c]
  · rw [decide_eq_false c, if_neg (by decide), if_neg c]
    by_cases c2 : H b = 0
    · rw [if_pos c2]
      have hbl : b < 18446744073709551616 := by unfold H at c2; omega
      have eL : L b = (b : Int) := by unfold L; omega
      rw [eL, if_neg (by omega)]
      have t : Int.tmod (H a) (b : Int) = ((a / 18446744073709551616 % b : Nat) : Int) := by
        unfold H; rw [Int.tmod_eq_emod_of_nonneg (by omega)]; omega
      rw [t]
      have hl : a % 18446744073709551616 < 18446744073709551616 := Nat.mod_lt _ (by decide)
      obtain ⟨r, e⟩ := div64_v k (a / 18446744073709551616 % b) (a % 18446744073709551616) b (by omega) (Nat.mod_lt _ (by omega)) hbl hl
      have e0 : L a = ((a % 18446744073709551616 : Nat) : Int) := rfl
      rw [e0, e]
      simp only [bindS]
      have em : (a / 18446744073709551616 % b * 18446744073709551616 + a % 18446744073709551616) % b = a % b := by
        rw [Nat.add_mod, Nat.mod_mul_mod, ← Nat.add_mod]
        congr 1
        omega
      rw [em]
      have hm : a % b < 18446744073709551616 := Nat.lt_trans (Nat.mod_lt _ (by omega)) hbl
      have e1 : H (a % b) = 0 := by unfold H; omega
      have e2 : L (a % b) = ((a % b : Nat) : Int) := by unfold L; omega
      rw [e1, e2]
    · rw [if_neg c2]
      unfold bits_LeadingZeros64.f
      have h1 := H_ge b
      have h2 := H_lt hb
      rw [if_pos ⟨h1, by omega⟩]
      simp only [bindS]
      unfold Lib.bitLen
      have hbh : (H b).toNat = b / 18446744073709551616 := by unfold H; omega
      rw [hbh]
      have hne : b / 18446744073709551616 ≠ 0 := by unfold H at c2; omega
      obtain ⟨l1, l2, l3⟩ := Lib.bitLenAux_bounds 64 (b / 18446744073709551616) (by omega) hne
      have l4 : Lib.bitLenAux 64 (b / 18446744073709551616) ≤ 64 := Lib.bitLenAux_le 64 _ 64 (by omega)
      generalize Lib.bitLenAux 64 (b / 18446744073709551616) = m at *
      rw [show (64 - (m : Int)) = ((64 - m : Nat) : Int) by omega]
      have e1 : 2 ^ (m - 1) * 18446744073709551616 ≤ b := by omega
      have e2 : b < 2 ^ m * 18446744073709551616 := by omega
      have p1 : 2 ^ (m - 1) * 18446744073709551616 * 2 ^ (64 - m + 1) = 340282366920938463463374607431768211456 := by
        rw [show (18446744073709551616 : Nat) = 2 ^ 64 from rfl, ← Nat.pow_add, ← Nat.pow_add, show m - 1 + 64 + (64 - m + 1) = 128 by omega]
      have p2 : 2 ^ m * 18446744073709551616 * 2 ^ (64 - m) = 340282366920938463463374607431768211456 := by
        rw [show (18446744073709551616 : Nat) = 2 ^ 64 from rfl, ← Nat.pow_add, ← Nat.pow_add, show m + 64 + (64 - m) = 128 by omega]
      refine mod_l0 b (by omega) hb (64 - m) k a (by omega) (by omega) ?_ ?_ ha
      · have := Nat.mul_le_mul_right (2 ^ (64 - m + 1)) e1
        omega
      · have := Nat.mul_lt_mul_of_pos_right e2 (Nat.two_pow_pos (64 - m))
        omega
end Go.Proofs.Ytpllddgbfhnghaa
