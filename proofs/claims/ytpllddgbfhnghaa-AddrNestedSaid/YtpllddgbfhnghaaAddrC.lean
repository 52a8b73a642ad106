/- What the printed functions Covers, Meets, Halves of package addr come to. No condition but the kinds' own bounds. -/
import Derived.Test.YtpllddgbfhnghaaPx15
import Derived.Test.YtpllddgbfhnghaaAddrP
namespace Go.Proofs.Ytpllddgbfhnghaa
open Go.RowKit Go.Proofs.Ytpllddgbfhnghaa.P Go.Proofs.YtpllddgbfhnghaaW.PrintWords Go.Proofs.YtpllddgbfhnghaaW.PrintLast Go.Proofs.YtpllddgbfhnghaaW.PrintMore
theorem covers_v (k a b : Nat) (n m : Int) (hk : 3 ≤ k) (ha : a < 340282366920938463463374607431768211456) (h1 : -9223372036854775808 ≤ n) (h2 : n ≤ 9223372036854775807) (hb : b < 340282366920938463463374607431768211456) (g1 : -9223372036854775808 ≤ m) (g2 : m ≤ 9223372036854775807) :
    addr_Covers.f k (H a) (L a) n (H b) (L b) m = some (decide (coversN a n b m)) := by
  unfold addr_Covers.f
  rw [span_v k b m (by omega) hb g1 g2, sound_v k b m (by omega) hb g1 g2]
  by_cases c : soundN b m
  · rw [if_pos c, decide_eq_true c]
    simp only [bindS, if_true]
    rw [has_v k a _ n hk ha h1 h2, has_v k a _ n hk ha h1 h2]
    simp only [bindS]
    by_cases c2 : hasN a n b
    · rw [decide_eq_true c2, if_pos rfl]
      exact congrArg some (decide_eq_decide.2 ⟨fun h => ⟨c, c2, h⟩, fun h => h.2.2⟩)
    · rw [decide_eq_false c2, if_neg (by decide), decide_eq_false (fun h : coversN a n b m => c2 h.2.1)]
  · rw [if_neg c, decide_eq_false c]
    simp only [bindS, Bool.false_eq_true, if_false]
    rw [decide_eq_false (fun h : coversN a n b m => c h.1)]
/-- one covers the other just if it has no more bits and has the other's first address -/
theorem coversN_iff (a b : Nat) (n m : Int) : coversN a n b m ↔ soundN b m ∧ n ≤ m ∧ hasN a n b := by
  unfold coversN
  constructor
  · rintro ⟨h1, h2, h3⟩
    refine ⟨h1, ?_, h2⟩
    have hs := h2.1
    apply Classical.byContradiction
    intro hn
    have hd : sz m = 2 ^ (n - m).toNat * sz n := by
      unfold sz
      rw [← Nat.pow_add, show (n - m).toNat + (128 - n).toNat = (128 - m).toNat by have := hs.1; have := hs.2.1; have := h1.1; omega]
    have h2' : 2 ≤ 2 ^ (n - m).toNat := by
      calc 2 = 2 ^ 1 := rfl
        _ ≤ _ := Nat.pow_le_pow_right (by decide) (by omega)
    have hm : 2 * sz n ≤ sz m := by rw [hd]; exact Nat.mul_le_mul_right _ h2'
    have e1 := h2.2
    have e2 := h3.2
    have p := sz_pos n
    unfold lastN at e1 e2
    omega
  · rintro ⟨h1, h2, h3⟩
    refine ⟨h1, h3, h3.1, ?_, ?_⟩
    · unfold lastN; have := h3.2.1; omega
    · have hs := h3.1
      have hd := sz_dvd h2
      have hb : b % sz m = 0 := h1.2.2
      have ha : (a + sz n) % sz m = 0 := by
        have : sz m ∣ a := Nat.dvd_trans hd (Nat.dvd_of_mod_eq_zero hs.2.2)
        exact Nat.mod_eq_zero_of_dvd (Nat.dvd_add this hd)
      have hlt : b < a + sz n := by have p0 := sz_pos n; have hl := h3.2.2; unfold lastN at hl; omega
      obtain ⟨u, hu⟩ := Nat.dvd_of_mod_eq_zero hb
      obtain ⟨v, hv⟩ := Nat.dvd_of_mod_eq_zero ha
      have : u < v := by rw [hu, hv] at hlt; exact Nat.lt_of_mul_lt_mul_left hlt
      have : sz m * (u + 1) ≤ sz m * v := Nat.mul_le_mul_left _ this
      rw [Nat.mul_add, Nat.mul_one] at this
      have p := sz_pos n
      have p2 := sz_pos m
      unfold lastN
      omega
end Go.Proofs.Ytpllddgbfhnghaa
