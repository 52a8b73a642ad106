/- The first layer's reference on blocks: Clip, Sound, Span, Has, Covers, Halves come to what the package's own functions come to. No condition but the kinds' own bounds. -/
import Derived.Test.YtpllddgbfhnghaaPx25
import Derived.Test.YtpllddgbfhnghaaPx26
import Derived.Test.YtpllddgbfhnghaaPx28
import Derived.Test.YtpllddgbfhnghaaPx29
import Derived.Test.YtpllddgbfhnghaaPx27
import Derived.Test.YtpllddgbfhnghaaRef2
import Derived.Test.YtpllddgbfhnghaaAddrC
namespace Go.Proofs.Ytpllddgbfhnghaa
open Go.RowKit Go.Proofs.Ytpllddgbfhnghaa.P Go.Proofs.YtpllddgbfhnghaaW.PrintWords Go.Proofs.YtpllddgbfhnghaaW.PrintLast Go.Proofs.YtpllddgbfhnghaaW.PrintMore
theorem clipN_top (a n : Nat) (h : n ≤ 128) : clipN a n = topN a n := by
  unfold clipN topN sz
  rw [show (128 - (n : Int)).toNat = 128 - n by omega]
theorem ref_clip_l0 (a n : Nat) (hn : n ≤ 128) (ha : a < 340282366920938463463374607431768211456) : ∀ (d k i : Nat), i + d = n → d < k →
    tenancyref01_Clip.l0 k (n : Int) (i : Int) (H a) (L a) (H (topN a i)) (L (topN a i)) = some (H (topN a n), L (topN a n), (n : Int), true) := by
  intro d
  induction d with
  | zero =>
    intro k i hi hk
    obtain ⟨k, rfl⟩ : ∃ m, k = m + 1 := ⟨k - 1, by omega⟩
    simp only [tenancyref01_Clip.l0]
    rw [if_neg (by omega), show i = n by omega]
  | succ d ih =>
    intro k i hi hk
    obtain ⟨k, rfl⟩ : ∃ m, k = m + 1 := ⟨k - 1, by omega⟩
    simp only [tenancyref01_Clip.l0]
    rw [if_pos (by omega), bit_v a i (by omega) ha]
    simp only [bindS]
    rw [w64_in (x := (i : Int) + 1) (by omega) (by omega), show (i : Int) + 1 = ((i + 1 : Nat) : Int) by omega]
    by_cases c : (bitN a i : Int) = 1
    · rw [if_pos c, with_v _ i (by omega) (Nat.lt_of_le_of_lt (topN_le _ _) ha) (topN_bit _ i (by omega))]
      simp only [bindS]
      rw [← topN_one _ i (by omega) (by omega)]
      exact ih k (i + 1) (by omega) (by omega)
    · rw [if_neg c, ← topN_none _ i (by omega) (by omega)]
      exact ih k (i + 1) (by omega) (by omega)
theorem ref_clip_v (k a : Nat) (n : Int) (hk : 132 ≤ k) (ha : a < 340282366920938463463374607431768211456) :
    tenancyref01_Clip.f k (H a) (L a) n = if 0 ≤ n ∧ n ≤ 128 then some (H (clipN a n), L (clipN a n), n, true) else some (0, 0, 0, false) := by
  obtain ⟨k, rfl⟩ : ∃ m, k = m + 1 := ⟨k - 1, by omega⟩
  unfold tenancyref01_Clip.f
  by_cases c1 : n < 0
  · rw [if_pos c1, if_neg (by omega)]; simp only [tenancyref01_Clip.j0, if_true]
  · rw [if_neg c1]
    by_cases c2 : n > 128
    · rw [decide_eq_true c2, if_neg (by omega)]; simp only [tenancyref01_Clip.j0, if_true]
    · rw [decide_eq_false c2, if_pos (by omega)]
      simp only [tenancyref01_Clip.j0, Bool.false_eq_true, if_false]
      obtain ⟨m, rfl⟩ := Int.eq_ofNat_of_zero_le (show 0 ≤ n by omega)
      have := ref_clip_l0 a m (by omega) ha m k 0 (by omega) (by omega)
      rw [topN_zero ha, ← clipN_top a m (by omega)] at this
      exact this
theorem ref_sound_v (k a : Nat) (n : Int) (hk : 132 ≤ k) (ha : a < 340282366920938463463374607431768211456) : tenancyref01_Sound.f k (H a) (L a) n = some (decide (soundN a n)) := by
  unfold tenancyref01_Sound.f
  rw [ref_clip_v k a n hk ha]
  by_cases c : 0 ≤ n ∧ n ≤ 128
  · rw [if_pos c]
    simp only [bindS, if_true, HL_beq, beq_self_eq_true, Bool.and_true]
    refine congrArg some (decide_eq_decide.2 ?_)
    rw [clipN_eq]
    unfold soundN
    exact ⟨fun h => ⟨c.1, c.2, h⟩, fun h => h.2.2⟩
  · rw [if_neg c]
    simp only [bindS, Bool.false_eq_true, if_false]
    rw [decide_eq_false (fun h : soundN a n => c ⟨h.1, h.2.1⟩)]
/-- the block's address with its lowest bits set down to bit i -/
theorem ref_span_l0 (a : Nat) (n : Int) (hs : soundN a n) (ha : a < 340282366920938463463374607431768211456) : ∀ (d k i : Nat), i + d = 128 → n ≤ i → d < k →
    tenancyref01_Span.l0 k (i : Int) (H a) (L a) n (H (a + (sz n - 2 ^ (128 - i)))) (L (a + (sz n - 2 ^ (128 - i)))) = some (H a, L a, H (lastN a n), L (lastN a n)) := by
  have hroom := mult_room hs.1 hs.2.1 ha hs.2.2
  intro d
  induction d with
  | zero =>
    intro k i hi hn hk
    obtain ⟨k, rfl⟩ : ∃ m, k = m + 1 := ⟨k - 1, by omega⟩
    simp only [tenancyref01_Span.l0]
    rw [if_neg (by omega), show 128 - i = 0 by omega, Nat.pow_zero]
    rfl
  | succ d ih =>
    intro k i hi hn hk
    obtain ⟨k, rfl⟩ : ∃ m, k = m + 1 := ⟨k - 1, by omega⟩
    simp only [tenancyref01_Span.l0]
    rw [if_pos (by omega), w64_in (x := (i : Int) + 1) (by omega) (by omega), show (i : Int) + 1 = ((i + 1 : Nat) : Int) by omega]
    have hp : 2 ^ (128 - i) = 2 * 2 ^ (127 - i) := by rw [show 128 - i = 127 - i + 1 by omega, Nat.pow_succ, Nat.mul_comm]
    have hle : 2 ^ (128 - i) ≤ sz n := by unfold sz; exact Nat.pow_le_pow_right (by decide) (by omega)
    have hd : 2 ^ (128 - i) ∣ sz n := by unfold sz; exact Nat.pow_dvd_pow 2 (by omega)
    have hz : bitN (a + (sz n - 2 ^ (128 - i))) i = 0 := by
      have h1 : 2 ^ (128 - i) ∣ a + (sz n - 2 ^ (128 - i)) := Nat.dvd_add (Nat.dvd_trans hd (Nat.dvd_of_mod_eq_zero hs.2.2)) (Nat.dvd_sub hd (Nat.dvd_refl _))
      obtain ⟨q, hq⟩ := h1
      unfold bitN
      rw [hq, hp, Nat.mul_comm 2, Nat.mul_assoc, Nat.mul_div_cancel_left _ (Nat.two_pow_pos _), Nat.mul_mod_right]
    have hpos := Nat.two_pow_pos (127 - i)
    rw [with_v _ i (by omega) (by omega) hz]
    simp only [bindS]
    have e : a + (sz n - 2 ^ (128 - i)) + 2 ^ (127 - i) = a + (sz n - 2 ^ (128 - (i + 1))) := by
      rw [show 128 - (i + 1) = 127 - i by omega]; omega
    rw [e]
    exact ih k (i + 1) (by omega) (by omega) (by omega)
theorem ref_span_v (k a : Nat) (n : Int) (hk : 132 ≤ k) (ha : a < 340282366920938463463374607431768211456) :
    tenancyref01_Span.f k (H a) (L a) n = if soundN a n then some (H a, L a, H (lastN a n), L (lastN a n)) else some (0, 0, 0, 0) := by
  unfold tenancyref01_Span.f
  rw [ref_sound_v k a n hk ha]
  simp only [bindS]
  by_cases c : soundN a n
  · rw [decide_eq_true c, if_pos rfl, if_pos c]
    obtain ⟨m, rfl⟩ := Int.eq_ofNat_of_zero_le c.1
    have := ref_span_l0 a m c ha (128 - m) k m (by have := c.2.1; omega) (by omega) (by omega)
    have e : sz (m : Int) - 2 ^ (128 - m) = 0 := by unfold sz; rw [show (128 - (m : Int)).toNat = 128 - m by omega]; omega
    rw [e, Nat.add_zero] at this
    exact this
  · rw [decide_eq_false c, if_neg (by decide), if_neg c]
theorem ref_has_v (k a x : Nat) (n : Int) (hk : 132 ≤ k) (ha : a < 340282366920938463463374607431768211456) (hx : x < 340282366920938463463374607431768211456) :
    tenancyref01_Has.f k (H a) (L a) n (H x) (L x) = some (decide (hasN a n x)) := by
  unfold tenancyref01_Has.f
  rw [ref_clip_v k x n hk hx, ref_sound_v k a n hk ha]
  by_cases c : soundN a n
  · rw [if_pos ⟨c.1, c.2.1⟩, decide_eq_true c]
    simp only [bindS, if_true, HL_beq, beq_self_eq_true, Bool.and_true]
    exact congrArg some (decide_eq_decide.2 (hasN_iff c).symm)
  · have e : ∀ v, (some v).bind (fun bt : Int × Int × Int × Bool => (some (decide (soundN a n))).bind fun t => if t = true then (some ((bt.1 == H a && (bt.2.1 == L a)) && (bt.2.2.1 == n))) else (some false)) = some (decide (hasN a n x)) := by
      intro v
      rw [decide_eq_false c]
      simp only [bindS, Bool.false_eq_true, if_false]
      rw [decide_eq_false (fun h : hasN a n x => c h.1)]
    by_cases c2 : 0 ≤ n ∧ n ≤ 128
    · rw [if_pos c2]; exact e _
    · rw [if_neg c2]; exact e _
theorem ref_covers_v (k a b : Nat) (n m : Int) (hk : 132 ≤ k) (ha : a < 340282366920938463463374607431768211456) (hb : b < 340282366920938463463374607431768211456) :
    tenancyref01_Covers.f k (H a) (L a) n (H b) (L b) m = some (decide (coversN a n b m)) := by
  unfold tenancyref01_Covers.f
  rw [ref_sound_v k b m hk hb]
  simp only [bindS]
  by_cases c : soundN b m
  · rw [decide_eq_true c, if_pos rfl]
    by_cases c2 : m ≥ n
    · rw [if_pos c2, ref_has_v k a b n hk ha hb]
      simp only [bindS]
      exact congrArg some (decide_eq_decide.2 ⟨fun h => (coversN_iff _ _ _ _).2 ⟨c, c2, h⟩, fun h => h.2.1⟩)
    · rw [if_neg c2, decide_eq_false (fun h : coversN a n b m => c2 ((coversN_iff _ _ _ _).1 h).2.1)]
  · rw [decide_eq_false c, if_neg (by decide), decide_eq_false (fun h : coversN a n b m => c h.1)]
/-- what meets -/
def meetsN (a : Nat) (n : Int) (b : Nat) (m : Int) : Prop := coversN a n b m ∨ coversN b m a n
instance (a : Nat) (n : Int) (b : Nat) (m : Int) : Decidable (meetsN a n b m) := by unfold meetsN; exact inferInstance
theorem meets_v (k a b : Nat) (n m : Int) (hk : 3 ≤ k) (ha : a < 340282366920938463463374607431768211456) (h1 : -9223372036854775808 ≤ n) (h2 : n ≤ 9223372036854775807) (hb : b < 340282366920938463463374607431768211456) (g1 : -9223372036854775808 ≤ m) (g2 : m ≤ 9223372036854775807) :
    addr_Meets.f k (H a) (L a) n (H b) (L b) m = some (decide (meetsN a n b m)) := by
  unfold addr_Meets.f
  rw [covers_v k a b n m hk ha h1 h2 hb g1 g2, covers_v k b a m n hk hb g1 g2 ha h1 h2]
  simp only [bindS]
  by_cases c : coversN a n b m
  · rw [decide_eq_true c, if_pos rfl, decide_eq_true (show meetsN a n b m from .inl c)]
  · rw [decide_eq_false c, if_neg (by decide)]
    exact congrArg some (decide_eq_decide.2 ⟨fun h => .inr h, fun h => h.elim (fun h => absurd h c) id⟩)
theorem ref_meets_v (k a b : Nat) (n m : Int) (hk : 132 ≤ k) (ha : a < 340282366920938463463374607431768211456) (hb : b < 340282366920938463463374607431768211456) :
    tenancyref01_Meets.f k (H a) (L a) n (H b) (L b) m = some (decide (meetsN a n b m)) := by
  unfold tenancyref01_Meets.f
  rw [ref_covers_v k a b n m hk ha hb, ref_covers_v k b a m n hk hb ha]
  simp only [bindS]
  by_cases c : coversN a n b m
  · rw [decide_eq_true c, if_pos rfl, decide_eq_true (show meetsN a n b m from .inl c)]
  · rw [decide_eq_false c, if_neg (by decide)]
    exact congrArg some (decide_eq_decide.2 ⟨fun h => .inr h, fun h => h.elim (fun h => absurd h c) id⟩)
theorem halves_v (k a : Nat) (n : Int) (hk : 3 ≤ k) (ha : a < 340282366920938463463374607431768211456) (h1 : -9223372036854775808 ≤ n) (h2 : n ≤ 9223372036854775807) :
    addr_Halves.f k (H a) (L a) n = if soundN a n ∧ n ≠ 128 then some (H a, L a, n + 1, H (a + sz (n + 1)), L (a + sz (n + 1)), n + 1, true) else some (0, 0, 0, 0, 0, 0, false) := by
  obtain ⟨k, rfl⟩ : ∃ m, k = m + 1 := ⟨k - 1, by omega⟩
  unfold addr_Halves.f
  rw [sound_v _ a n (by omega) ha h1 h2]
  simp only [bindS]
  by_cases c : soundN a n
  · rw [decide_eq_true c, if_pos rfl]
    by_cases c2 : n = 128
    · rw [if_neg (fun h => h.2 c2), beq_iff_eq.2 c2]; simp only [addr_Halves.j0, if_true]
    · rw [if_pos ⟨c, c2⟩, beq_eq_false_iff_ne.2 c2]
      have b1 := c.1
      have b2 := c.2.1
      simp only [addr_Halves.j0, Bool.false_eq_true, if_false]
      have hu := up_v 1 (127 - n) (by decide) (by omega) (by omega)
      rw [show H 1 = 0 from rfl, show L 1 = 1 from rfl] at hu
      have hsz : upN 1 (127 - n) = sz (n + 1) := by
        unfold upN sz
        rw [Nat.one_mul, show (127 - n).toNat = (128 - (n + 1)).toNat by omega]
        refine Nat.mod_eq_of_lt ?_
        rw [show (340282366920938463463374607431768211456 : Nat) = 2 ^ 128 from rfl]
        exact Nat.pow_lt_pow_right (by decide) (by omega)
      have hroom := mult_room b1 b2 ha c.2.2
      have hh := sz_half (n := n) (by omega)
      have hp := sz_pos (n + 1)
      rw [w64_in (by omega) (by omega), hu, hsz]
      simp only [bindS]
      rw [add_v a _ ha (by omega)]
      simp only [bindS]
      rw [w64_in (by omega) (by omega), Nat.mod_eq_of_lt (by omega)]
  · rw [decide_eq_false c, if_neg (by decide), if_neg (fun h => c h.1)]; simp only [addr_Halves.j0, if_true]
theorem ref_halves_v (k a : Nat) (n : Int) (hk : 132 ≤ k) (ha : a < 340282366920938463463374607431768211456) :
    tenancyref01_Halves.f k (H a) (L a) n = if soundN a n ∧ n ≠ 128 then some (H a, L a, n + 1, H (a + sz (n + 1)), L (a + sz (n + 1)), n + 1, true) else some (0, 0, 0, 0, 0, 0, false) := by
  unfold tenancyref01_Halves.f
  rw [ref_sound_v _ a n (by omega) ha]
  simp only [bindS]
  by_cases c : soundN a n
  · rw [decide_eq_true c, if_pos rfl]
    by_cases c2 : n = 128
    · rw [if_pos c2, if_neg (show ¬ (soundN a n ∧ n ≠ 128) from fun h => h.2 c2)]
    · rw [if_neg c2, if_pos (show soundN a n ∧ n ≠ 128 from ⟨c, c2⟩)]
      have b1 := c.1
      have b2 := c.2.1
      obtain ⟨m, rfl⟩ := Int.eq_ofNat_of_zero_le b1
      have e : sz ((m : Int) + 1) = 2 ^ (127 - m) := by unfold sz; rw [show (128 - ((m : Int) + 1)).toNat = 127 - m by omega]
      have hz : bitN a m = 0 := by
        have h3 := c.2.2
        unfold bitN
        unfold sz at h3
        rw [show (128 - (m : Int)).toNat = 127 - m + 1 by omega, Nat.pow_succ] at h3
        obtain ⟨q, hq⟩ := Nat.dvd_of_mod_eq_zero h3
        rw [hq, Nat.mul_assoc, Nat.mul_div_cancel_left _ (Nat.two_pow_pos _), Nat.mul_mod_right]
      rw [with_v a m (by omega) ha hz]
      simp only [bindS]
      rw [w64_in (by omega) (by omega), e]
  · rw [decide_eq_false c, if_neg (by decide), if_neg (fun h => c h.1)]
end Go.Proofs.Ytpllddgbfhnghaa
