/- The pure statement of AddrNested: blocks are nested or apart. -/
import Derived.Test.YtpllddgbfhnghaaPx31
import Derived.Test.YtpllddgbfhnghaaAwake1
import Derived.Test.YtpllddgbfhnghaaRef3
namespace Go.Proofs.Ytpllddgbfhnghaa.Pure
open Go.RowKit Go.Proofs.Ytpllddgbfhnghaa.P Go.Proofs.Ytpllddgbfhnghaa Go.Proofs.YtpllddgbfhnghaaW.PrintWords Go.Proofs.YtpllddgbfhnghaaW.PrintLast Go.Proofs.YtpllddgbfhnghaaW.PrintMore
theorem nest_clip (a : Nat) {n m : Int} (h : m ≤ n) : clipN (clipN a n) m = clipN a m := by
  obtain ⟨t, ht⟩ := sz_dvd h
  unfold clipN
  rw [ht, ← Nat.div_div_eq_div_mul, Nat.mul_div_cancel _ (sz_pos n), Nat.div_div_eq_div_mul]
theorem nest_same {a b : Nat} {n m : Int} (h1 : coversN a n b m) (h2 : coversN b m a n) : a = b ∧ n = m := by
  have g1 := (coversN_iff _ _ _ _).1 h1
  have g2 := (coversN_iff _ _ _ _).1 h2
  obtain rfl : n = m := by have := g1.2.1; have := g2.2.1; omega
  have e1 := (hasN_iff g1.2.2.1).1 g1.2.2
  rw [(clipN_eq b n).2 g1.1.2.2] at e1
  exact ⟨e1.symm, rfl⟩
theorem nest_has {a b x : Nat} {n m : Int} (h : coversN a n b m) (hx : hasN b m x) : hasN a n x := by
  obtain ⟨h1, h2, h3⟩ := h
  exact ⟨h2.1, Nat.le_trans h2.2.1 hx.2.1, Nat.le_trans hx.2.2 h3.2.2⟩
theorem nest_meet {a b x : Nat} {n m : Int} (h1 : hasN a n x) (h2 : hasN b m x) : meetsN a n b m := by
  have e1 := (hasN_iff h1.1).1 h1
  have e2 := (hasN_iff h2.1).1 h2
  rcases Int.le_total n m with h | h
  · refine .inl ((coversN_iff _ _ _ _).2 ⟨h2.1, h, (hasN_iff h1.1).2 ?_⟩)
    rw [← e2, nest_clip x h]; exact e1
  · refine .inr ((coversN_iff _ _ _ _).2 ⟨h1.1, h, (hasN_iff h2.1).2 ?_⟩)
    rw [← e1, nest_clip x h]; exact e2
section
variable {a x : Nat} {n : Int}
theorem half_l (h : soundN a n) (h2 : n ≠ 128) : soundN a (n + 1) := by
  have := h.1; have := h.2.1
  refine ⟨by omega, by omega, Nat.mod_eq_zero_of_dvd (Nat.dvd_trans (sz_dvd (by omega)) (Nat.dvd_of_mod_eq_zero h.2.2))⟩
theorem half_r (h : soundN a n) (h2 : n ≠ 128) : soundN (a + sz (n + 1)) (n + 1) := by
  have g := half_l h h2
  refine ⟨g.1, g.2.1, ?_⟩
  rw [Nat.add_mod_right]; exact g.2.2
theorem half_has (h : soundN a n) (h2 : n ≠ 128) : (hasN a n x ↔ hasN a (n + 1) x ∨ hasN (a + sz (n + 1)) (n + 1) x) ∧ ¬ (hasN a (n + 1) x ∧ hasN (a + sz (n + 1)) (n + 1) x) := by
  have g1 := half_l h h2
  have g2 := half_r h h2
  have := h.2.1
  have e := sz_half (n := n) (by omega)
  have p := sz_pos (n + 1)
  unfold hasN lastN
  rw [e]
  refine ⟨⟨fun ⟨_, h3, h4⟩ => ?_, fun h5 => ?_⟩, fun ⟨⟨_, h3, h4⟩, ⟨_, h5, h6⟩⟩ => by omega⟩
  · by_cases c : x < a + sz (n + 1)
    · exact .inl ⟨g1, h3, by omega⟩
    · exact .inr ⟨g2, by omega, by omega⟩
  · rcases h5 with ⟨_, h5, h6⟩ | ⟨_, h5, h6⟩
    · exact ⟨h, h5, by omega⟩
    · exact ⟨h, by omega, by omega⟩
theorem half_cl (h : soundN a n) (h2 : n ≠ 128) : coversN a n a (n + 1) := by
  refine (coversN_iff _ _ _ _).2 ⟨half_l h h2, by omega, h, Nat.le_refl _, by unfold lastN; omega⟩
theorem half_cr (h : soundN a n) (h2 : n ≠ 128) : coversN a n (a + sz (n + 1)) (n + 1) := by
  have := h.2.1
  have e := sz_half (n := n) (by omega)
  have p := sz_pos (n + 1)
  refine (coversN_iff _ _ _ _).2 ⟨half_r h h2, by omega, h, by omega, by unfold lastN; rw [e]; omega⟩
theorem half_apart (_h : soundN a n) (_h2 : n ≠ 128) : ¬ meetsN a (n + 1) (a + sz (n + 1)) (n + 1) := by
  have p := sz_pos (n + 1)
  rintro (h3 | h3)
  · have h4 := h3.2.1.2.2
    unfold lastN at h4; omega
  · have h4 := h3.2.1.2.1
    omega
end
theorem AddrNested : tenancylaw01_AddrNested.Pure := by
  intro a0 a1 n b0 b1 m c0 c1 ha0 ha1 hn hb0 hb1 hm hc0 hc1
  obtain ⟨a, ha, rfl, rfl⟩ := HL_of a0 a1 ha0 ha1
  obtain ⟨b, hb, rfl, rfl⟩ := HL_of b0 b1 hb0 hb1
  obtain ⟨x, hx, rfl, rfl⟩ := HL_of c0 c1 hc0 hc1
  have n1 := wf_i64 hn
  have m1 := wf_i64 hm
  refine ⟨300, ?_⟩
  have pq := fun k (hk : 3 ≤ k) => covers_v k a b n m hk ha n1.1 n1.2 hb m1.1 m1.2
  have qp := fun k (hk : 3 ≤ k) => covers_v k b a m n hk hb m1.1 m1.2 ha n1.1 n1.2
  have mm := fun k (hk : 3 ≤ k) => meets_v k a b n m hk ha n1.1 n1.2 hb m1.1 m1.2
  have mr := fun k (hk : 3 ≤ k) => meets_v k b a m n hk hb m1.1 m1.2 ha n1.1 n1.2
  have px := fun k (hk : 3 ≤ k) => has_v k a x n hk ha n1.1 n1.2
  have qx := fun k (hk : 3 ≤ k) => has_v k b x m hk hb m1.1 m1.2
  have four : ∀ (c : Int), soundN a n → n ≠ 128 → (c == 1) = decide (hasN a n x) → c ≤ 1 → tenancylaw01_AddrNested.j4 296 c (H a) (L a) n (H x) (L x) (H a) (L a) (n + 1) (H (a + sz (n + 1))) (L (a + sz (n + 1))) (n + 1) = some true := by
    intro c hs h2 hc hle
    have hl := half_l hs h2
    have hr := half_r hs h2
    have hroom := mult_room hs.1 hs.2.1 ha hs.2.2
    have := hs.2.1
    have e := sz_half (n := n) (by omega)
    have p := sz_pos (n + 1)
    have hra : a + sz (n + 1) < 340282366920938463463374607431768211456 := by omega
    have i1 : -9223372036854775808 ≤ n + 1 := by omega
    have i2 : n + 1 ≤ 9223372036854775807 := by omega
    simp only [tenancylaw01_AddrNested.j4]
    rw [sound_v 295 a (n + 1) (by decide) ha i1 i2, decide_eq_true hl]
    simp only [bindS, if_true]
    rw [sound_v 295 _ (n + 1) (by decide) hra i1 i2, decide_eq_true hr]
    simp only [bindS, if_true]
    rw [meets_v 295 a _ (n + 1) (n + 1) (by decide) ha i1 i2 hra i1 i2, decide_eq_false (half_apart hs h2)]
    simp only [bindS, Bool.false_eq_true, if_false]
    rw [covers_v 295 a a n (n + 1) (by decide) ha n1.1 n1.2 ha i1 i2, decide_eq_true (half_cl hs h2)]
    simp only [bindS, if_true]
    rw [covers_v 295 a _ n (n + 1) (by decide) ha n1.1 n1.2 hra i1 i2, decide_eq_true (half_cr hs h2)]
    simp only [bindS, if_true]
    rw [px 295 (by decide)]
    simp only [bindS]
    rw [hc, beq_self_eq_true, if_pos rfl, decide_eq_true hle]
  have three : ∀ (b1 : Bool), soundN a n → n ≠ 128 → b1 = decide (hasN a (n + 1) x) → tenancylaw01_AddrNested.j3 297 (if b1 then 1 else 0) (H a) (L a) n (H x) (L x) (H a) (L a) (n + 1) (H (a + sz (n + 1))) (L (a + sz (n + 1))) (n + 1) = some true := by
    intro b1 hs h2 hb1
    have hroom := mult_room hs.1 hs.2.1 ha hs.2.2
    have := hs.2.1
    have e := sz_half (n := n) (by omega)
    have p := sz_pos (n + 1)
    have hra : a + sz (n + 1) < 340282366920938463463374607431768211456 := by omega
    obtain ⟨hh1, hh2⟩ := half_has (x := x) hs h2
    simp only [tenancylaw01_AddrNested.j3]
    rw [has_v 296 _ x (n + 1) (by decide) hra (by omega) (by omega)]
    simp only [bindS]
    by_cases c1 : hasN a (n + 1) x
    · have c2 : ¬ hasN (a + sz (n + 1)) (n + 1) x := fun h => hh2 ⟨c1, h⟩
      rw [hb1, decide_eq_true c1, decide_eq_false c2, if_pos rfl, if_neg (by decide)]
      exact four 1 hs h2 (by rw [decide_eq_true (hh1.2 (.inl c1))]; rfl) (by decide)
    · rw [hb1, decide_eq_false c1]
      by_cases c2 : hasN (a + sz (n + 1)) (n + 1) x
      · rw [decide_eq_true c2, if_pos rfl, if_neg (by decide), show wrap64 ((0 : Int) + 1) = 1 from w64_in (by decide) (by decide)]
        exact four 1 hs h2 (by rw [decide_eq_true (hh1.2 (.inr c2))]; rfl) (by decide)
      · rw [decide_eq_false c2, if_neg (by decide), if_neg (by decide)]
        exact four 0 hs h2 (by rw [decide_eq_false (fun h => (hh1.1 h).elim c1 c2)]; rfl) (by decide)
  have two : ∀ y : Bool, y = false → tenancylaw01_AddrNested.j2 298 y (H a) (L a) n (H x) (L x) = some true := by
    rintro y rfl
    simp only [tenancylaw01_AddrNested.j2, Bool.false_eq_true, if_false]
    rw [halves_v 297 a n (by decide) ha n1.1 n1.2]
    by_cases c : soundN a n ∧ n ≠ 128
    · have hs := c.1
      have h2 := hs.2.1
      rw [if_pos c]
      simp only [bindS, if_true]
      rw [has_v 297 a x (n + 1) (by decide) ha (by have := hs.1; omega) (by omega)]
      simp only [bindS]
      have h3 := three (decide (hasN a (n + 1) x)) hs c.2 rfl
      by_cases c1 : hasN a (n + 1) x
      · rw [decide_eq_true c1, if_pos rfl] at h3 ⊢
        exact h3
      · rw [decide_eq_false c1, if_neg (by decide)] at h3 ⊢
        exact h3
    · rw [if_neg c]
      simp only [bindS, Bool.false_eq_true, if_false]
      rw [sound_v 297 a n (by decide) ha n1.1 n1.2]
      simp only [bindS]
      by_cases c1 : soundN a n
      · rw [decide_eq_true c1, if_pos rfl]
        have : n = 128 := Classical.byContradiction fun h => c ⟨c1, h⟩
        rw [beq_iff_eq.2 this]
      · rw [decide_eq_false c1, if_neg (by decide)]
  have apartx : ¬ meetsN a n b m → ∀ (X : Option Bool), X = some true → ((addr_Has.f 298 (H a) (L a) n (H x) (L x)).bind fun t531 => (if t531 = true then ((addr_Has.f 298 (H b) (L b) m (H x) (L x)).bind fun t532 => (tenancylaw01_AddrNested.j2 298 t532 (H a) (L a) n (H x) (L x))) else (tenancylaw01_AddrNested.j2 298 false (H a) (L a) n (H x) (L x)))) = some true := by
    intro hno X _
    rw [px 298 (by decide), qx 298 (by decide)]
    simp only [bindS]
    by_cases c1 : hasN a n x
    · have c2 : ¬ hasN b m x := fun h => hno (nest_meet c1 h)
      rw [decide_eq_true c1, if_pos rfl, decide_eq_false c2]
      exact two _ rfl
    · rw [decide_eq_false c1, if_neg (by decide)]
      exact two _ rfl
  have meetx : ((addr_Meets.f 298 (H a) (L a) n (H b) (L b) m).bind fun t530 => (if t530 = true then (tenancylaw01_AddrNested.j2 298 false (H a) (L a) n (H x) (L x)) else ((addr_Has.f 298 (H a) (L a) n (H x) (L x)).bind fun t531 => (if t531 = true then ((addr_Has.f 298 (H b) (L b) m (H x) (L x)).bind fun t532 => (tenancylaw01_AddrNested.j2 298 t532 (H a) (L a) n (H x) (L x))) else (tenancylaw01_AddrNested.j2 298 false (H a) (L a) n (H x) (L x)))))) = some true := by
    rw [mm 298 (by decide)]
    simp only [bindS]
    by_cases c1 : meetsN a n b m
    · rw [decide_eq_true c1, if_pos rfl]; exact two _ rfl
    · rw [decide_eq_false c1, if_neg (by decide)]; exact apartx c1 (some true) rfl
  have one : ∀ y : Bool, y = false → tenancylaw01_AddrNested.j1 299 y (H a) (L a) n (H b) (L b) m (H x) (L x) = some true := by
    rintro y rfl
    simp only [tenancylaw01_AddrNested.j1, Bool.false_eq_true, if_false]
    rw [pq 298 (by decide)]
    simp only [bindS]
    by_cases c1 : coversN a n b m
    · rw [decide_eq_true c1, if_pos rfl]
      rw [qx 298 (by decide)]
      simp only [bindS]
      by_cases c2 : hasN b m x
      · rw [decide_eq_true c2, if_pos rfl]
        rw [px 298 (by decide)]
        simp only [bindS]
        rw [decide_eq_true (nest_has c1 c2), if_pos rfl]
        have := meetx
        rw [px 298 (by decide), qx 298 (by decide)] at this
        simp only [bindS] at this
        rw [decide_eq_true (nest_has c1 c2), decide_eq_true c2] at this
        exact this
      · rw [decide_eq_false c2, if_neg (by decide)]
        have := meetx
        rw [qx 298 (by decide)] at this
        simp only [bindS] at this
        rw [decide_eq_false c2] at this
        exact this
    · rw [decide_eq_false c1, if_neg (by decide)]
      exact meetx
  have zero : ∀ y : Bool, y = false → tenancylaw01_AddrNested.j0 300 y (H a) (L a) n (H b) (L b) m (H x) (L x) = some true := by
    rintro y rfl
    simp only [tenancylaw01_AddrNested.j0, Bool.false_eq_true, if_false]
    rw [pq 299 (by decide), qp 299 (by decide)]
    simp only [bindS]
    by_cases c1 : coversN a n b m
    · rw [decide_eq_true c1, if_pos rfl]
      by_cases c2 : coversN b m a n
      · rw [decide_eq_true c2, if_pos rfl]
        obtain ⟨e1, e2⟩ := nest_same c1 c2
        refine one _ ?_
        rw [e1, e2]
        simp
      · rw [decide_eq_false c2, if_neg (by decide)]; exact one _ rfl
    · rw [decide_eq_false c1, if_neg (by decide)]; exact one _ rfl
  unfold tenancylaw01_AddrNested.f
  rw [awake1_v 300 (by decide), mm 300 (by decide), mr 300 (by decide), pq 300 (by decide), qp 300 (by decide)]
  simp only [bindS, if_true]
  have esym : decide (meetsN b m a n) = decide (meetsN a n b m) := decide_eq_decide.2 ⟨fun h => h.symm, fun h => h.symm⟩
  rw [esym]
  by_cases c1 : coversN a n b m
  · rw [decide_eq_true c1, if_pos rfl, decide_eq_true (show meetsN a n b m from .inl c1), if_neg (by decide)]
    exact zero _ rfl
  · rw [decide_eq_false c1, if_neg (by decide)]
    have e2 : decide (meetsN a n b m) = decide (coversN b m a n) := decide_eq_decide.2 ⟨fun h => h.elim (fun h => absurd h c1) id, fun h => .inr h⟩
    rw [e2, bne_self_eq_false, if_neg (by decide)]
    exact zero _ rfl
end Go.Proofs.Ytpllddgbfhnghaa.Pure
