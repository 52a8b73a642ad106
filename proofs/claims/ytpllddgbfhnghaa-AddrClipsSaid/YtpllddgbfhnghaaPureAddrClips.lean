/- The pure statement of AddrClips: the block of an address has it, and is that of each of its addresses. -/
import Derived.Test.YtpllddgbfhnghaaPx16
import Derived.Test.YtpllddgbfhnghaaAwake1
import Derived.Test.YtpllddgbfhnghaaAddrC
namespace Go.Proofs.Ytpllddgbfhnghaa.Pure
open Go.RowKit Go.Proofs.Ytpllddgbfhnghaa.P Go.Proofs.Ytpllddgbfhnghaa Go.Proofs.YtpllddgbfhnghaaW.PrintWords Go.Proofs.YtpllddgbfhnghaaW.PrintLast Go.Proofs.YtpllddgbfhnghaaW.PrintMore
theorem clip_clip (a : Nat) {n m : Int} (h : m ≤ n) : clipN (clipN a n) m = clipN a m := by
  obtain ⟨t, ht⟩ := sz_dvd h
  unfold clipN
  rw [ht, ← Nat.div_div_eq_div_mul, Nat.mul_div_cancel _ (sz_pos n), Nat.div_div_eq_div_mul]
theorem AddrClips : tenancylaw01_AddrClips.Pure := by
  intro a0 a1 n m ha0 ha1 hn hm
  obtain ⟨a, ha, rfl, rfl⟩ := HL_of a0 a1 ha0 ha1
  have b1 := wf_i64 hn
  have b2 := wf_i64 hm
  refine ⟨90, ?_⟩
  unfold tenancylaw01_AddrClips.f
  rw [awake1_v 90 (by decide), clip_v 90 a n (by decide) ha (by omega) (by omega)]
  simp only [bindS, if_true]
  by_cases c : 0 ≤ n ∧ n ≤ 128
  · rw [if_pos c]
    simp only [bindS]
    rw [if_neg (by omega), decide_eq_false (show ¬ n > 128 by omega)]
    simp only [tenancylaw01_AddrClips.j0, Bool.false_eq_true, if_false, if_true]
    have hs : soundN (clipN a n) n := ⟨c.1, c.2, clipN_mod a n⟩
    have hc : clipN a n < 340282366920938463463374607431768211456 := Nat.lt_of_le_of_lt (clipN_le a n) ha
    have hl := lastN_lt hs hc
    have hha : hasN (clipN a n) n a := (hasN_iff hs).2 rfl
    have hlast : clipN (lastN (clipN a n) n) n = clipN a n := (hasN_iff hs).1 ⟨hs, by unfold lastN; omega, Nat.le_refl _⟩
    rw [span_v 89 _ n (by decide) hc (by omega) (by omega), if_pos hs]
    simp only [bindS]
    rw [clip_v 89 _ n (by decide) hc (by omega) (by omega), clip_v 89 _ n (by decide) hl (by omega) (by omega), if_pos c, if_pos c]
    simp only [bindS]
    rw [clip_clip a (Int.le_refl n), hlast, w64_in (x := n + 1) (by omega) (by omega), wu64_in (x := n + 1) (by omega) (by omega), if_neg (by omega), wu64 m]
    rw [Int.tmod_eq_emod_of_nonneg (Int.emod_nonneg m (by decide))]
    have r1 := Int.emod_nonneg (m % 18446744073709551616) (show n + 1 ≠ 0 by omega)
    have r2 := Int.emod_lt_of_pos (m % 18446744073709551616) (show 0 < n + 1 by omega)
    generalize m % 18446744073709551616 % (n + 1) = j at *
    rw [w64_in (x := j) (by omega) (by omega), clip_v 89 a j (by decide) ha (by omega) (by omega), if_pos (by omega)]
    simp only [bindS, if_true]
    rw [sound_v 89 _ n (by decide) hc (by omega) (by omega), decide_eq_true hs]
    simp only [bindS, if_true]
    rw [has_v 89 _ a n (by decide) hc (by omega) (by omega), decide_eq_true hha]
    simp only [bindS, if_true, beq_self_eq_true, Bool.and_self]
    rw [cmp_v 89 _ _ (by decide), cmp_v 89 _ _ (by decide)]
    simp only [bindS, cmpN_le]
    rw [if_pos hha.2.1, if_pos hha.2.2]
    rw [covers_v 89 _ _ j n (by decide) (Nat.lt_of_le_of_lt (clipN_le a j) ha) (by omega) (by omega) hc (by omega) (by omega)]
    simp only [bindS]
    refine congrArg some (decide_eq_true ((coversN_iff _ _ _ _).2 ⟨hs, by omega, (hasN_iff ⟨r1, by omega, clipN_mod a j⟩).2 (clip_clip a (by omega))⟩))
  · rw [if_neg c]
    simp only [bindS]
    have e : ∀ b : Bool, b = true → tenancylaw01_AddrClips.j0 90 n m false b (H a) (L a) 0 0 0 = some true := by
      rintro b rfl
      simp [tenancylaw01_AddrClips.j0]
    by_cases c2 : n < 0
    · rw [if_pos c2]; exact e _ rfl
    · rw [if_neg c2]; exact e _ (decide_eq_true (by omega))
end Go.Proofs.Ytpllddgbfhnghaa.Pure
