/- What the printed functions of package addr come to on prefixes: Clip, Sound, Span, Has, Covers, Meets, Halves. No condition but the kinds' own bounds. -/
import Derived.Test.YtpllddgbfhnghaaPx10
import Derived.Test.YtpllddgbfhnghaaAddrV
namespace Go.Proofs.Ytpllddgbfhnghaa
open Go.RowKit Go.Proofs.Ytpllddgbfhnghaa.P Go.Proofs.YtpllddgbfhnghaaW.PrintWords Go.Proofs.YtpllddgbfhnghaaW.PrintLast Go.Proofs.YtpllddgbfhnghaaW.PrintMore

/-- how many addresses a block of n bits has -/
def sz (n : Int) : Nat := 2 ^ (128 - n).toNat
def clipN (a : Nat) (n : Int) : Nat := a / sz n * sz n
def soundN (a : Nat) (n : Int) : Prop := 0 ≤ n ∧ n ≤ 128 ∧ a % sz n = 0
instance (a : Nat) (n : Int) : Decidable (soundN a n) := by unfold soundN; exact inferInstance
def lastN (a : Nat) (n : Int) : Nat := a + (sz n - 1)
def hasN (a : Nat) (n : Int) (x : Nat) : Prop := soundN a n ∧ a ≤ x ∧ x ≤ lastN a n
instance (a : Nat) (n : Int) (x : Nat) : Decidable (hasN a n x) := by unfold hasN; exact inferInstance
def coversN (a : Nat) (n : Int) (b : Nat) (m : Int) : Prop := soundN b m ∧ hasN a n b ∧ hasN a n (lastN b m)
instance (a : Nat) (n : Int) (b : Nat) (m : Int) : Decidable (coversN a n b m) := by unfold coversN; exact inferInstance

theorem sz_pos (n : Int) : 0 < sz n := Nat.two_pow_pos _
theorem sz_mul {n : Int} (h0 : 0 ≤ n) (h1 : n ≤ 128) : 2 ^ n.toNat * sz n = 340282366920938463463374607431768211456 := by
  unfold sz
  rw [show (128 - n).toNat = 128 - n.toNat by omega]
  exact pow_split' (by omega)
theorem sz_le {n : Int} (h0 : 0 ≤ n) : sz n ≤ 340282366920938463463374607431768211456 := by
  unfold sz
  rw [show (340282366920938463463374607431768211456 : Nat) = 2 ^ 128 from rfl]
  exact Nat.pow_le_pow_right (by decide) (by omega)
theorem sz_half {n : Int} (h1 : n < 128) : sz n = 2 * sz (n + 1) := by
  unfold sz
  rw [show (128 - n).toNat = (128 - (n + 1)).toNat + 1 by omega, Nat.pow_succ, Nat.mul_comm]
theorem sz_128 : sz 128 = 1 := rfl
theorem sz_dvd {n m : Int} (h : n ≤ m) : sz m ∣ sz n := Nat.pow_dvd_pow 2 (by omega)
theorem clipN_le (a : Nat) (n : Int) : clipN a n ≤ a := Nat.div_mul_le_self _ _
theorem clipN_mod (a : Nat) (n : Int) : clipN a n % sz n = 0 := Nat.mul_mod_left _ _
theorem clipN_lt (a : Nat) (n : Int) : a < clipN a n + sz n := by
  unfold clipN
  have := Nat.div_add_mod a (sz n)
  have := Nat.mod_lt a (sz_pos n)
  rw [Nat.mul_comm (a / sz n)]
  omega
theorem clipN_eq (a : Nat) (n : Int) : clipN a n = a ↔ a % sz n = 0 := by
  unfold clipN
  have := Nat.div_add_mod a (sz n)
  rw [Nat.mul_comm] at this
  constructor <;> intro h <;> omega
/-- a multiple of the size below 2^128 has room for the whole block -/
theorem mult_room {a : Nat} {n : Int} (h0 : 0 ≤ n) (h1 : n ≤ 128) (ha : a < 340282366920938463463374607431768211456) (h : a % sz n = 0) : a + sz n ≤ 340282366920938463463374607431768211456 := by
  obtain ⟨q, rfl⟩ := Nat.dvd_of_mod_eq_zero h
  have e := sz_mul h0 h1
  rw [← e, Nat.mul_comm] at ha
  have hq : q < 2 ^ n.toNat := by
    rw [Nat.mul_comm q] at ha
    rw [Nat.mul_comm _ (sz n)] at ha
    exact Nat.lt_of_mul_lt_mul_left ha
  calc sz n * q + sz n = sz n * (q + 1) := by rw [Nat.mul_add, Nat.mul_one]
    _ ≤ sz n * 2 ^ n.toNat := Nat.mul_le_mul_left _ hq
    _ = _ := by rw [Nat.mul_comm]; exact e
theorem lastN_lt {a : Nat} {n : Int} (h : soundN a n) (ha : a < 340282366920938463463374607431768211456) : lastN a n < 340282366920938463463374607431768211456 := by
  have := mult_room h.1 h.2.1 ha h.2.2
  have := sz_pos n
  unfold lastN; omega

theorem HL_or (a b : Nat) (ha : a < 340282366920938463463374607431768211456) (hb : b < 340282366920938463463374607431768211456) :
    Go.bits .or .u64 (H a) (H b) = H (a ||| b) ∧ Go.bits .or .u64 (L a) (L b) = L (a ||| b) := by
  unfold H L
  rw [or_nat _ _ (by omega) (by omega), or_nat _ _ (Nat.mod_lt _ (by decide)) (Nat.mod_lt _ (by decide))]
  rw [show (18446744073709551616 : Nat) = 2 ^ 64 from rfl, Nat.or_div_two_pow, Nat.or_mod_two_pow]
  exact ⟨rfl, rfl⟩
theorem all_down {n : Int} (h0 : 0 ≤ n) (h1 : n ≤ 128) : downN 340282366920938463463374607431768211455 n = sz n - 1 := by
  unfold downN
  have e := sz_mul h0 h1
  have p1 := sz_pos n
  have p2 := Nat.two_pow_pos n.toNat
  generalize 2 ^ n.toNat = p at *
  generalize sz n = q at *
  obtain ⟨r, rfl⟩ : ∃ r, q = r + 1 := ⟨q - 1, by omega⟩
  have e2 : 340282366920938463463374607431768211455 = p - 1 + p * r := by rw [Nat.mul_add, Nat.mul_one] at e; omega
  rw [e2, Nat.add_mul_div_left _ _ p2, Nat.div_eq_of_lt (by omega)]
  omega
theorem or_last {a : Nat} {n : Int} (h : soundN a n) : a ||| (sz n - 1) = lastN a n := by
  have p := sz_pos n
  unfold lastN
  unfold sz at *
  exact or_add _ _ _ h.2.2 (by omega)

theorem clip_v (k a : Nat) (n : Int) (hk : 1 ≤ k) (ha : a < 340282366920938463463374607431768211456) (h1 : -9223372036854775808 ≤ n) (h2 : n ≤ 9223372036854775807) :
    addr_Clip.f k (H a) (L a) n = if 0 ≤ n ∧ n ≤ 128 then some (H (clipN a n), L (clipN a n), n, true) else some (0, 0, 0, false) := by
  obtain ⟨k, rfl⟩ : ∃ m, k = m + 1 := ⟨k - 1, by omega⟩
  unfold addr_Clip.f
  by_cases c1 : n < 0
  · rw [if_pos c1, if_neg (by omega)]; simp only [addr_Clip.j0, if_true]
  · rw [if_neg c1]
    by_cases c2 : n > 128
    · rw [decide_eq_true c2, if_neg (by omega)]; simp only [addr_Clip.j0, if_true]
    · rw [decide_eq_false c2, if_pos (by omega)]
      simp only [addr_Clip.j0, Bool.false_eq_true, if_false]
      rw [w64_in (by omega) (by omega), down_v a _ ha (by omega) (by omega)]
      simp only [bindS]
      rw [up_v _ _ (Nat.lt_of_le_of_lt (downN_le _ _) ha) (by omega) (by omega)]
      simp only [bindS]
      have e : upN (downN a (128 - n)) (128 - n) = clipN a n := by
        unfold upN downN clipN sz
        exact Nat.mod_eq_of_lt (Nat.lt_of_le_of_lt (Nat.div_mul_le_self _ _) ha)
      rw [e]
theorem sound_v (k a : Nat) (n : Int) (hk : 1 ≤ k) (ha : a < 340282366920938463463374607431768211456) (h1 : -9223372036854775808 ≤ n) (h2 : n ≤ 9223372036854775807) :
    addr_Sound.f k (H a) (L a) n = some (decide (soundN a n)) := by
  unfold addr_Sound.f
  rw [clip_v k a n hk ha h1 h2]
  by_cases c : 0 ≤ n ∧ n ≤ 128
  · rw [if_pos c]
    simp only [bindS, if_true, HL_beq, beq_self_eq_true, Bool.and_true]
    refine congrArg some (decide_eq_decide.2 ?_)
    rw [clipN_eq]
    unfold soundN
    exact ⟨fun h => ⟨c.1, c.2, h⟩, fun h => h.2.2⟩
  · rw [if_neg c]
    simp only [bindS, Bool.false_eq_true, if_false]
    rw [decide_eq_false (fun h : soundN a n => c ⟨h.1, h.2.1⟩)]
theorem span_v (k a : Nat) (n : Int) (hk : 1 ≤ k) (ha : a < 340282366920938463463374607431768211456) (h1 : -9223372036854775808 ≤ n) (h2 : n ≤ 9223372036854775807) :
    addr_Span.f k (H a) (L a) n = if soundN a n then some (H a, L a, H (lastN a n), L (lastN a n)) else some (0, 0, 0, 0) := by
  unfold addr_Span.f
  rw [sound_v k a n hk ha h1 h2]
  simp only [bindS]
  by_cases c : soundN a n
  · rw [decide_eq_true c, if_pos rfl, if_pos c]
    have e := down_v 340282366920938463463374607431768211455 n (by decide) h1 h2
    rw [show H 340282366920938463463374607431768211455 = 18446744073709551615 from rfl, show L 340282366920938463463374607431768211455 = 18446744073709551615 from rfl] at e
    rw [e]
    simp only [bindS]
    rw [all_down c.1 c.2.1]
    have p := sz_pos n
    have q := sz_le c.1
    obtain ⟨o1, o2⟩ := HL_or a (sz n - 1) ha (by omega)
    rw [o1, o2, or_last c]
  · rw [decide_eq_false c, if_neg (by decide), if_neg c]
theorem has_v (k a x : Nat) (n : Int) (hk : 3 ≤ k) (ha : a < 340282366920938463463374607431768211456) (h1 : -9223372036854775808 ≤ n) (h2 : n ≤ 9223372036854775807) :
    addr_Has.f k (H a) (L a) n (H x) (L x) = some (decide (hasN a n x)) := by
  unfold addr_Has.f
  rw [span_v k a n (by omega) ha h1 h2, sound_v k a n (by omega) ha h1 h2]
  by_cases c : soundN a n
  · rw [if_pos c, decide_eq_true c]
    simp only [bindS, if_true]
    rw [cmp_v k _ _ hk, cmp_v k _ _ hk]
    simp only [bindS, cmpN_le]
    by_cases c2 : a ≤ x
    · rw [if_pos c2]
      exact congrArg some (decide_eq_decide.2 ⟨fun h => ⟨c, c2, h⟩, fun h => h.2.2⟩)
    · rw [if_neg c2, decide_eq_false (fun h : hasN a n x => c2 h.2.1)]
  · rw [if_neg c, decide_eq_false c]
    simp only [bindS, Bool.false_eq_true, if_false]
    rw [decide_eq_false (fun h : hasN a n x => c h.1)]
theorem hasN_iff {a x : Nat} {n : Int} (h : soundN a n) : hasN a n x ↔ clipN x n = a := by
  have h1 := clipN_le x n
  have h2 := clipN_lt x n
  have h3 := clipN_mod x n
  have p := sz_pos n
  unfold hasN lastN
  constructor
  · rintro ⟨_, h4, h5⟩
    obtain ⟨u, hu⟩ := Nat.dvd_of_mod_eq_zero h.2.2
    obtain ⟨v, hv⟩ := Nat.dvd_of_mod_eq_zero h3
    have l1 : sz n * u < sz n * (v + 1) := by rw [Nat.mul_add, Nat.mul_one, ← hu, ← hv]; omega
    have l2 : sz n * v < sz n * (u + 1) := by rw [Nat.mul_add, Nat.mul_one, ← hu, ← hv]; omega
    have g1 := Nat.lt_of_mul_lt_mul_left l1
    have g2 := Nat.lt_of_mul_lt_mul_left l2
    rw [hu, hv, show u = v by omega]
  · intro h4
    exact ⟨h, by omega, by omega⟩
end Go.Proofs.Ytpllddgbfhnghaa
