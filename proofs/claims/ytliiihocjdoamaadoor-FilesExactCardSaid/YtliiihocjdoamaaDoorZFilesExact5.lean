import Derived.Test.YtliiihocjdoamaaDoorZFilesExact4
import Derived.RangeFuncLeaves
import Derived.RangeFuncBox
import Derived.TacticsInMore
import Derived.Maps.RangeRun
/-! The partial insertion sort. -/
namespace Go.Ev.So
open Go.Ev
set_option linter.unusedVariables false
set_option linter.unusedSimpArgs false

theorem srt_scan {f : Nat → Nat} {a i x : Nat} (hi : a + 1 ≤ i) (h : Srt f a i) (h2 : ∀ k, i ≤ k → k < x → ¬ f k < f (k - 1)) : Srt f a x := by
  have key : ∀ n q, q ≤ n → q < x → ∀ p, a ≤ p → p ≤ q → f p ≤ f q := by
    intro n
    induction n with
    | zero => intro q hq hx p h1 h3; rw [show p = q by omega]; exact Nat.le_refl _
    | succ n ih =>
      intro q hq hx p h1 h3
      by_cases c : q < i
      · exact h p q h1 h3 c
      · by_cases c2 : p = q
        · rw [c2]; exact Nat.le_refl _
        · have a1 := h2 q (by omega) hx
          have a2 := ih (q - 1) (by omega) (by omega) p h1 (by omega)
          omega
  intro p q h1 h3 h4
  exact key q q (Nat.le_refl _) h4 p h1 h3

section
variable {α : Type} {O : SOr α} {A : AR}
theorem Sw.srt {a b x y : Nat} {l l' : List α} (h : Sw x y l l') (hy : y ≤ l.length) (hs : Srt (K O l) a b) (hb : b ≤ x) : Srt (K O l') a b := fun p q h1 h2 h3 => by
  rw [h.out hy (.inl (by omega)), h.out hy (.inl (by omega))]
  exact hs p q h1 h2 h3

def piX : RC := r_slices_partialInsertionSortOrdered_string.body.p2.p2.p1.p2.p0.p0.p2.p1.p0
set_option maxHeartbeats 4000000 in
theorem pi_scan (t : St) (hb : A.bk < t.length) (l : List α) (hl : l.length = A.n) (a b i : Nat) (hbn : b ≤ A.n) (hi : a + 1 ≤ i) (hib : i ≤ b) (hs : Srt (K O l) a i) (e : Env) (Q : XE → Env → St → Prop)
    (g0 : e.get 0 = A.v) (g2 : e.get 2 = .int .i64 b) (g3 : e.get 3 = e.get 3) (g9 : e.get 7 = .int .i64 i)
    (hK : ∀ (x : Nat) (e' : Env), i ≤ x → x ≤ b → Srt (K O l) a x → (x = b ∨ K O l x < K O l (x - 1)) → e'.get 0 = A.v → e'.get 1 = e.get 1 → e'.get 2 = .int .i64 b → e'.get 3 = e'.get 3 → e'.get 7 = .int .i64 x → e'.get 8 = e.get 8 → Q .nrm e' (A.S O t l)) : awp (Run T0) piX.p1 Q e (A.S O t l) := by
  have hbig := A.big
  simp only [piX, r_slices_partialInsertionSortOrdered_string, RC.p1, RC.p2, RC.p0, XX, CC, Nat.reduceAdd, Nat.reduceSub, Nat.reduceLeDiff, Nat.reduceLT, Nat.reduceEqDiff, reduceIte, ↓reduceIte, Nat.reduceBEq]
  refine awp_rounds (fun d e1 s => ∃ x : Nat, s = A.S O t l ∧ d = b - x ∧ i ≤ x ∧ x ≤ b ∧ (∀ k, i ≤ k → k < x → ¬ K O l k < K O l (k - 1)) ∧ e1.get 0 = A.v ∧ e1.get 1 = e.get 1 ∧ e1.get 2 = .int .i64 b ∧ e1.get 3 = e1.get 3 ∧ e1.get 7 = .int .i64 x ∧ e1.get 8 = e.get 8) (b - i) ?_ ?_
  · exact ⟨i, rfl, rfl, by omega, by omega, fun k k1 k2 => by omega, g0, rfl, g2, g3, g9, rfl⟩
  rintro J d e1 s hJ ⟨x, rfl, hd, h1, h2, hall, y0, y1, y2, y3, y9, y10⟩
  by_cases c : x < b
  · obtain ⟨u, hu⟩ := at_of (show x < l.length by omega)
    obtain ⟨w, hw⟩ := at_of (show x - 1 < l.length by omega)
    have xu := A.ix x (by omega)
    have xw := A.ix (x - 1) (by omega)
    have lu := S_ld (O := O) (A := A) hb hu
    have lw := S_ld (O := O) (A := A) hb hw
    have ku := K_at (O := O) hu
    have kw := K_at (O := O) hw
    have hw1 := w64_sub (i := x) (by omega) (by omega)
    simp only [XX, CC, Nat.reduceAdd, Nat.reduceSub, Nat.reduceLeDiff, Nat.reduceLT, Nat.reduceEqDiff, reduceIte, ↓reduceIte, Nat.reduceBEq]
    refine drw_in [] rfl ?_
    simp only [List.append_nil, DD, CC, Nat.reduceAdd, Nat.reduceSub, Nat.reduceLeDiff, Nat.reduceLT, Nat.reduceEqDiff, reduceIte, ↓reduceIte, Nat.reduceBEq, y0, y2, y3, y9, dec_t (show (x : Int) < b by omega), hw1, xw, xu, lu, lw]
    refine dr_callE (O.run _ u w) ?_
    intro e9 he9
    by_cases ck : O.key u < O.key w
    · simp only [DD, CC, Nat.reduceAdd, Nat.reduceSub, Nat.reduceLeDiff, Nat.reduceLT, Nat.reduceEqDiff, reduceIte, ↓reduceIte, Nat.reduceBEq, he9, dec_t ck, Bool.not_true]
      refine hK x _ h1 h2 (srt_scan hi hs hall) (.inr (by rw [ku, kw]; exact ck)) ?_ ?_ ?_ ?_ ?_ ?_ <;> (try simp only [XX, CC, Nat.reduceAdd, Nat.reduceSub, Nat.reduceLeDiff, Nat.reduceLT, Nat.reduceEqDiff, reduceIte, ↓reduceIte, Nat.reduceBEq, y0, y1, y2, y3, y9, y10])
    · simp only [DD, CC, Nat.reduceAdd, Nat.reduceSub, Nat.reduceLeDiff, Nat.reduceLT, Nat.reduceEqDiff, reduceIte, ↓reduceIte, Nat.reduceBEq, he9, dec_f ck, Bool.not_false, y9, w64_nat (show x < 4611686018427387904 by omega)]
      refine hJ (b - (x + 1)) _ _ (by omega) ⟨x + 1, rfl, rfl, by omega, by omega, fun k k1 k2 => ?_, ?_, ?_, ?_, ?_, ?_, ?_⟩ <;> (try simp only [XX, CC, Nat.reduceAdd, Nat.reduceSub, Nat.reduceLeDiff, Nat.reduceLT, Nat.reduceEqDiff, reduceIte, ↓reduceIte, Nat.reduceBEq, y0, y1, y2, y3, y9, y10])
      by_cases kx : k = x
      · subst kx; rw [ku, kw]; exact ck
      · exact hall k k1 (by omega)
  · simp only [XX, CC, Nat.reduceAdd, Nat.reduceSub, Nat.reduceLeDiff, Nat.reduceLT, Nat.reduceEqDiff, reduceIte, ↓reduceIte, Nat.reduceBEq]
    refine drw_in [] rfl ?_
    simp only [List.append_nil, DD, CC, Nat.reduceAdd, Nat.reduceSub, Nat.reduceLeDiff, Nat.reduceLT, Nat.reduceEqDiff, reduceIte, ↓reduceIte, Nat.reduceBEq, y0, y2, y3, y9, dec_f (show ¬ (x : Int) < b by omega)]
    refine hK x _ h1 h2 (srt_scan hi hs hall) (.inl (by omega)) ?_ ?_ ?_ ?_ ?_ ?_ <;> (try simp only [XX, CC, Nat.reduceAdd, Nat.reduceSub, Nat.reduceLeDiff, Nat.reduceLT, Nat.reduceEqDiff, reduceIte, ↓reduceIte, Nat.reduceBEq, y0, y1, y2, y3, y9, y10])

set_option maxHeartbeats 4000000 in
theorem pi_left (t : St) (hb : A.bk < t.length) (l : List α) (hl : l.length = A.n) (a b i : Nat) (hbn : b ≤ A.n) (hi : a + 1 ≤ i) (hib : i < b) (hs : Srt (K O l) a (i - 1)) (hpre : 0 < a → ∀ k, a ≤ k → k < b → K O l (a - 1) ≤ K O l k) (e : Env) (Q : XE → Env → St → Prop)
    (g0 : e.get 0 = A.v) (g1 : e.get 1 = .int .i64 a) (g3 : e.get 3 = e.get 3) (g9 : e.get 7 = .int .i64 i)
    (hK : ∀ (l2 : List α) (e' : Env), Sw a b l l2 → Srt (K O l2) a i → e'.get 0 = A.v → e'.get 1 = .int .i64 a → e'.get 2 = e.get 2 → e'.get 3 = e'.get 3 → e'.get 7 = .int .i64 i → e'.get 8 = e.get 8 → Q .nrm e' (A.S O t l2)) : awp (Run T0) piX.p2.p2.p2.p2.p1 Q e (A.S O t l) := by
  have hbig := A.big
  have ws := subN (show a ≤ i by omega) (show i < 4611686018427387904 by omega)
  by_cases c2 : i - a ≥ 2
  · simp only [piX, r_slices_partialInsertionSortOrdered_string, RC.p1, RC.p2, RC.p0, XX, CC, Nat.reduceAdd, Nat.reduceSub, Nat.reduceLeDiff, Nat.reduceLT, Nat.reduceEqDiff, reduceIte, ↓reduceIte, Nat.reduceBEq, g9, g1, ws, dec_t (show ((i - a : Nat) : Int) ≥ 2 by omega), w64_sub (show 0 < i by omega) (show i < 4611686018427387904 by omega)]
    refine awp_rounds (fun d e1 s => ∃ (j : Nat) (l1 : List α), s = A.S O t l1 ∧ d = j ∧ a ≤ j ∧ j ≤ i - 1 ∧ Sw a b l l1 ∧ Ins (K O l1) a (i - 1) j ∧ e1.get 0 = A.v ∧ e1.get 1 = .int .i64 a ∧ e1.get 2 = e.get 2 ∧ e1.get 3 = e1.get 3 ∧ e1.get 7 = .int .i64 i ∧ e1.get 8 = e.get 8 ∧ e1.get 9 = .int .i64 j) (i - 1) ?_ ?_
    · refine ⟨i - 1, l, rfl, rfl, by omega, by omega, .refl, .init hs, ?_, ?_, ?_, ?_, ?_, ?_, ?_⟩ <;> (try simp only [XX, CC, Nat.reduceAdd, Nat.reduceSub, Nat.reduceLeDiff, Nat.reduceLT, Nat.reduceEqDiff, reduceIte, ↓reduceIte, Nat.reduceBEq, g0, g1, g3, g9])
    rintro J d e1 s hJ ⟨j, l1, rfl, hd, h1, h2, hsw, hin, y0, y1, y2, y3, y9, y10, y11⟩
    have hl1 : l1.length = A.n := hsw.len.trans hl
    have fin : (j ≤ a ∨ K O l1 (j - 1) ≤ K O l1 j) → Srt (K O l1) a i := fun h => by
      have := hin.done h1 h h2
      rw [show i - 1 + 1 = i by omega] at this
      exact this
    by_cases c : j ≥ 1
    · obtain ⟨u, hu⟩ := at_of (show j < l1.length by omega)
      obtain ⟨w, hw⟩ := at_of (show j - 1 < l1.length by omega)
      have xu := A.ix j (by omega)
      have xw := A.ix (j - 1) (by omega)
      have lu := S_ld (O := O) (A := A) hb hu
      have lw := S_ld (O := O) (A := A) hb hw
      have ku := K_at (O := O) hu
      have kw := K_at (O := O) hw
      have hw1 := w64_sub (i := j) (by omega) (by omega)
      obtain ⟨w1, w2⟩ := S_swp (O := O) (A := A) hb hu hw
      simp only [XX, CC, Nat.reduceAdd, Nat.reduceSub, Nat.reduceLeDiff, Nat.reduceLT, Nat.reduceEqDiff, reduceIte, ↓reduceIte, Nat.reduceBEq, y11, dec_t (show (j : Int) ≥ 1 by omega)]
      refine drw_in [] rfl ?_
      simp only [List.append_nil, DD, CC, Nat.reduceAdd, Nat.reduceSub, Nat.reduceLeDiff, Nat.reduceLT, Nat.reduceEqDiff, reduceIte, ↓reduceIte, Nat.reduceBEq, y0, y3, y11, hw1, xw, xu, lu, lw]
      refine dr_callE (O.run _ u w) ?_
      intro e9 he9
      by_cases ck : O.key u < O.key w
      · have haj : a < j := by
          by_cases h : j = a
          · subst h
            have := hpre (by omega) 
            have h5 := hsw.all (O := O) (by omega) (P := fun z => K O l (j - 1) ≤ z) this j (Nat.le_refl _) (by omega)
            rw [← hsw.out (O := O) (by omega) (k := j - 1) (.inl (by omega)), ku, kw] at h5
            omega
          · omega
        simp only [DD, CC, Nat.reduceAdd, Nat.reduceSub, Nat.reduceLeDiff, Nat.reduceLT, Nat.reduceEqDiff, reduceIte, ↓reduceIte, Nat.reduceBEq, he9, dec_t ck, Bool.not_true]
        refine drw_in [] rfl ?_
        simp only [List.append_nil, DD, CC, Nat.reduceAdd, Nat.reduceSub, Nat.reduceLeDiff, Nat.reduceLT, Nat.reduceEqDiff, reduceIte, ↓reduceIte, Nat.reduceBEq, y0, y11, hw1, xw, xu, lu, lw, w1, w2, dr_stX]
        refine hJ (j - 1) _ _ (by omega) ⟨j - 1, swp l1 j (j - 1), rfl, rfl, by omega, by omega, hsw.step (by omega) (by omega) (by omega) (by omega), hin.next haj h2 (by rw [ku, kw]; exact ck) (swp_K (by omega) (by omega)), ?_, ?_, ?_, ?_, ?_, ?_, ?_⟩ <;> (try simp only [XX, CC, Nat.reduceAdd, Nat.reduceSub, Nat.reduceLeDiff, Nat.reduceLT, Nat.reduceEqDiff, reduceIte, ↓reduceIte, Nat.reduceBEq, y0, y1, y2, y3, y9, y10])
      · simp only [DD, CC, Nat.reduceAdd, Nat.reduceSub, Nat.reduceLeDiff, Nat.reduceLT, Nat.reduceEqDiff, reduceIte, ↓reduceIte, Nat.reduceBEq, he9, dec_f ck, Bool.not_false]
        refine hK l1 _ hsw (fin (.inr (by rw [ku, kw]; omega))) ?_ ?_ ?_ ?_ ?_ ?_ <;> (try simp only [XX, CC, Nat.reduceAdd, Nat.reduceSub, Nat.reduceLeDiff, Nat.reduceLT, Nat.reduceEqDiff, reduceIte, ↓reduceIte, Nat.reduceBEq, y0, y1, y2, y3, y9, y10])
    · simp only [XX, CC, Nat.reduceAdd, Nat.reduceSub, Nat.reduceLeDiff, Nat.reduceLT, Nat.reduceEqDiff, reduceIte, ↓reduceIte, Nat.reduceBEq, y11, dec_f (show ¬ (j : Int) ≥ 1 by omega)]
      refine hK l1 _ hsw (fin (.inl (by omega))) ?_ ?_ ?_ ?_ ?_ ?_ <;> (try simp only [XX, CC, Nat.reduceAdd, Nat.reduceSub, Nat.reduceLeDiff, Nat.reduceLT, Nat.reduceEqDiff, reduceIte, ↓reduceIte, Nat.reduceBEq, y0, y1, y2, y3, y9, y10])
  · simp only [piX, r_slices_partialInsertionSortOrdered_string, RC.p1, RC.p2, RC.p0, XX, CC, Nat.reduceAdd, Nat.reduceSub, Nat.reduceLeDiff, Nat.reduceLT, Nat.reduceEqDiff, reduceIte, ↓reduceIte, Nat.reduceBEq, g9, g1, ws, dec_f (show ¬ ((i - a : Nat) : Int) ≥ 2 by omega)]
    refine hK l _ .refl (fun p q h1 h2 h3 => by rw [show p = q by omega]; exact Nat.le_refl _) ?_ ?_ ?_ ?_ ?_ ?_ <;> (try simp only [XX, CC, Nat.reduceAdd, Nat.reduceSub, Nat.reduceLeDiff, Nat.reduceLT, Nat.reduceEqDiff, reduceIte, ↓reduceIte, Nat.reduceBEq, g0, g1, g3, g9])

set_option maxHeartbeats 4000000 in
theorem pi_right (t : St) (hb : A.bk < t.length) (l : List α) (hl : l.length = A.n) (a b i : Nat) (hbn : b ≤ A.n) (hib : i < b) (e : Env) (Q : XE → Env → St → Prop)
    (g0 : e.get 0 = A.v) (g1 : e.get 1 = .int .i64 a) (g2 : e.get 2 = .int .i64 b) (g3 : e.get 3 = e.get 3) (g9 : e.get 7 = .int .i64 i)
    (hK : ∀ (l2 : List α) (e' : Env), Sw i b l l2 → e'.get 0 = A.v → e'.get 1 = .int .i64 a → e'.get 2 = .int .i64 b → e'.get 3 = e'.get 3 → e'.get 7 = .int .i64 i → e'.get 8 = e.get 8 → Q .nrm e' (A.S O t l2)) : awp (Run T0) piX.p2.p2.p2.p2.p2 Q e (A.S O t l) := by
  have hbig := A.big
  have ws := subN (show i ≤ b by omega) (show b < 4611686018427387904 by omega)
  by_cases c2 : b - i ≥ 2
  · simp only [piX, r_slices_partialInsertionSortOrdered_string, RC.p1, RC.p2, RC.p0, XX, CC, Nat.reduceAdd, Nat.reduceSub, Nat.reduceLeDiff, Nat.reduceLT, Nat.reduceEqDiff, reduceIte, ↓reduceIte, Nat.reduceBEq, g9, g2, ws, dec_t (show ((b - i : Nat) : Int) ≥ 2 by omega), w64_nat (show i < 4611686018427387904 by omega)]
    refine awp_rounds (fun d e1 s => ∃ (j : Nat) (l1 : List α), s = A.S O t l1 ∧ d = b - j ∧ i + 1 ≤ j ∧ j ≤ b ∧ Sw i b l l1 ∧ e1.get 0 = A.v ∧ e1.get 1 = .int .i64 a ∧ e1.get 2 = .int .i64 b ∧ e1.get 3 = e1.get 3 ∧ e1.get 7 = .int .i64 i ∧ e1.get 8 = e.get 8 ∧ e1.get 10 = .int .i64 j) (b - (i + 1)) ?_ ?_
    · refine ⟨i + 1, l, rfl, rfl, by omega, by omega, .refl, ?_, ?_, ?_, ?_, ?_, ?_, ?_⟩ <;> (try simp only [XX, CC, Nat.reduceAdd, Nat.reduceSub, Nat.reduceLeDiff, Nat.reduceLT, Nat.reduceEqDiff, reduceIte, ↓reduceIte, Nat.reduceBEq, g0, g1, g2, g3, g9])
    rintro J d e1 s hJ ⟨j, l1, rfl, hd, h1, h2, hsw, y0, y1, y2, y3, y9, y10, y12⟩
    have hl1 : l1.length = A.n := hsw.len.trans hl
    by_cases c : j < b
    · obtain ⟨u, hu⟩ := at_of (show j < l1.length by omega)
      obtain ⟨w, hw⟩ := at_of (show j - 1 < l1.length by omega)
      have xu := A.ix j (by omega)
      have xw := A.ix (j - 1) (by omega)
      have lu := S_ld (O := O) (A := A) hb hu
      have lw := S_ld (O := O) (A := A) hb hw
      have hw1 := w64_sub (i := j) (by omega) (by omega)
      obtain ⟨w1, w2⟩ := S_swp (O := O) (A := A) hb hu hw
      simp only [XX, CC, Nat.reduceAdd, Nat.reduceSub, Nat.reduceLeDiff, Nat.reduceLT, Nat.reduceEqDiff, reduceIte, ↓reduceIte, Nat.reduceBEq, y12, y2, dec_t (show (j : Int) < b by omega)]
      refine drw_in [] rfl ?_
      simp only [List.append_nil, DD, CC, Nat.reduceAdd, Nat.reduceSub, Nat.reduceLeDiff, Nat.reduceLT, Nat.reduceEqDiff, reduceIte, ↓reduceIte, Nat.reduceBEq, y0, y3, y12, hw1, xw, xu, lu, lw]
      refine dr_callE (O.run _ u w) ?_
      intro e9 he9
      by_cases ck : O.key u < O.key w
      · simp only [DD, CC, Nat.reduceAdd, Nat.reduceSub, Nat.reduceLeDiff, Nat.reduceLT, Nat.reduceEqDiff, reduceIte, ↓reduceIte, Nat.reduceBEq, he9, dec_t ck, Bool.not_true]
        refine drw_in [] rfl ?_
        simp only [List.append_nil, DD, CC, Nat.reduceAdd, Nat.reduceSub, Nat.reduceLeDiff, Nat.reduceLT, Nat.reduceEqDiff, reduceIte, ↓reduceIte, Nat.reduceBEq, y0, y12, hw1, xw, xu, lu, lw, w1, w2, dr_stX, w64_nat (show j < 4611686018427387904 by omega)]
        refine hJ (b - (j + 1)) _ _ (by omega) ⟨j + 1, swp l1 j (j - 1), rfl, rfl, by omega, by omega, hsw.step (by omega) (by omega) (by omega) (by omega), ?_, ?_, ?_, ?_, ?_, ?_, ?_⟩ <;> (try simp only [XX, CC, Nat.reduceAdd, Nat.reduceSub, Nat.reduceLeDiff, Nat.reduceLT, Nat.reduceEqDiff, reduceIte, ↓reduceIte, Nat.reduceBEq, y0, y1, y2, y3, y9, y10])
      · simp only [DD, CC, Nat.reduceAdd, Nat.reduceSub, Nat.reduceLeDiff, Nat.reduceLT, Nat.reduceEqDiff, reduceIte, ↓reduceIte, Nat.reduceBEq, he9, dec_f ck, Bool.not_false]
        refine hK l1 _ hsw ?_ ?_ ?_ ?_ ?_ ?_ <;> (try simp only [XX, CC, Nat.reduceAdd, Nat.reduceSub, Nat.reduceLeDiff, Nat.reduceLT, Nat.reduceEqDiff, reduceIte, ↓reduceIte, Nat.reduceBEq, y0, y1, y2, y3, y9, y10])
    · simp only [XX, CC, Nat.reduceAdd, Nat.reduceSub, Nat.reduceLeDiff, Nat.reduceLT, Nat.reduceEqDiff, reduceIte, ↓reduceIte, Nat.reduceBEq, y12, y2, dec_f (show ¬ (j : Int) < b by omega)]
      refine hK l1 _ hsw ?_ ?_ ?_ ?_ ?_ ?_ <;> (try simp only [XX, CC, Nat.reduceAdd, Nat.reduceSub, Nat.reduceLeDiff, Nat.reduceLT, Nat.reduceEqDiff, reduceIte, ↓reduceIte, Nat.reduceBEq, y0, y1, y2, y3, y9, y10])
  · simp only [piX, r_slices_partialInsertionSortOrdered_string, RC.p1, RC.p2, RC.p0, XX, CC, Nat.reduceAdd, Nat.reduceSub, Nat.reduceLeDiff, Nat.reduceLT, Nat.reduceEqDiff, reduceIte, ↓reduceIte, Nat.reduceBEq, g9, g2, ws, dec_f (show ¬ ((b - i : Nat) : Int) ≥ 2 by omega)]
    refine hK l _ .refl ?_ ?_ ?_ ?_ ?_ ?_ <;> (try simp only [XX, CC, Nat.reduceAdd, Nat.reduceSub, Nat.reduceLeDiff, Nat.reduceLT, Nat.reduceEqDiff, reduceIte, ↓reduceIte, Nat.reduceBEq, g0, g1, g2, g3, g9])

set_option maxHeartbeats 4000000 in
theorem partial_r (t : St) (hb : A.bk < t.length) (l : List α) (hl : l.length = A.n) (a b : Nat) (hab : a < b) (hbn : b ≤ A.n) (hpre : 0 < a → ∀ k, a ≤ k → k < b → K O l (a - 1) ≤ K O l k) :
    Run T0 f_slices_partialInsertionSortOrdered_string [A.v, .int .i64 a, .int .i64 b] (A.S O t l) fun r t' => ∃ (l' : List α) (bl : Bool), r = .bool bl ∧ t' = A.S O t l' ∧ Sw a b l l' ∧ (bl = true → Srt (K O l') a b) := by
  have hbig := A.big
  refine run_body (F := r_slices_partialInsertionSortOrdered_string) rfl (by simp [r_slices_partialInsertionSortOrdered_string]) ?_
  obtain ⟨LS, hS⟩ : ∃ c, c = piX.p1 := ⟨_, rfl⟩
  obtain ⟨LL, hL⟩ : ∃ c, c = piX.p2.p2.p2.p2.p1 := ⟨_, rfl⟩
  obtain ⟨LR, hR⟩ : ∃ c, c = piX.p2.p2.p2.p2.p2 := ⟨_, rfl⟩
  have sS := fun l hl i hi hib hs e Q g0 g2 g3 g9 hK => pi_scan (O := O) (A := A) t hb l hl a b i hbn hi hib hs e Q g0 g2 g3 g9 hK
  have sL := fun l hl i hi hib hs hp e Q g0 g1 g3 g9 hK => pi_left (O := O) (A := A) t hb l hl a b i hbn hi hib hs hp e Q g0 g1 g3 g9 hK
  have sR := fun l hl i hib e Q g0 g1 g2 g3 g9 hK => pi_right (O := O) (A := A) t hb l hl a b i hbn hib e Q g0 g1 g2 g3 g9 hK
  rw [← hS] at sS
  rw [← hL] at sL
  rw [← hR] at sR
  rw [show r_slices_partialInsertionSortOrdered_string.body = (let b := r_slices_partialInsertionSortOrdered_string.body; let c := b.p2.p2.p1.p2.p0.p0; .seq b.p1 (.seq b.p2.p1 (.seq (.seq b.p2.p2.p1.p1 (.block 0 (.loop (.seq c.p1 (.seq (.block 1 (.seq LS (.seq piX.p2.p1 (.seq piX.p2.p2.p1 (.seq piX.p2.p2.p2.p1 (.seq LL LR)))))) c.p2.p2))))) b.p2.p2.p2))) by rw [hS, hL, hR]; rfl]
  clear hS hL hR
  simp only [piX, r_slices_partialInsertionSortOrdered_string, RC.p1, RC.p2, RC.p0, XX, CC, Nat.reduceAdd, Nat.reduceSub, Nat.reduceLeDiff, Nat.reduceLT, Nat.reduceEqDiff, reduceIte, ↓reduceIte, Nat.reduceBEq, w64_nat (show a < 4611686018427387904 by omega)]
  refine awp_rounds (fun d e1 s => ∃ (i c : Nat) (l1 : List α), s = A.S O t l1 ∧ c + d = 5 ∧ a + 1 ≤ i ∧ i ≤ b ∧ Sw a b l l1 ∧ Srt (K O l1) a i ∧ e1.get 0 = A.v ∧ e1.get 1 = .int .i64 a ∧ e1.get 2 = .int .i64 b ∧ e1.get 3 = e1.get 3 ∧ e1.get 7 = .int .i64 i ∧ e1.get 8 = .int .i64 c) 5 ?_ ?_
  · refine ⟨a + 1, 0, l, rfl, rfl, by omega, by omega, .refl, fun p q h1 h2 h3 => by rw [show p = q by omega]; exact Nat.le_refl _, ?_, ?_, ?_, ?_, ?_, ?_⟩ <;> (try simp only [XX, CC, Nat.reduceAdd, Nat.reduceSub, Nat.reduceLeDiff, Nat.reduceLT, Nat.reduceEqDiff, reduceIte, ↓reduceIte, Nat.reduceBEq]) <;> rfl
  rintro J d e s hJ ⟨i, c, l1, rfl, hd, hi, hib, hs, hsr, g0, g1, g2, g3, g9, g10⟩
  have hl1 : l1.length = A.n := hs.len.trans hl
  have hp1 : 0 < a → ∀ k, a ≤ k → k < b → K O l1 (a - 1) ≤ K O l1 k := fun h => by
    rw [hs.out (O := O) (by omega) (k := a - 1) (.inl (by omega))]
    exact hs.all (O := O) (by omega) (P := fun z => K O l (a - 1) ≤ z) (hpre h)
  by_cases cc : c < 5
  · simp only [XX, CC, Nat.reduceAdd, Nat.reduceSub, Nat.reduceLeDiff, Nat.reduceLT, Nat.reduceEqDiff, reduceIte, ↓reduceIte, Nat.reduceBEq, g10, dec_t (show (c : Int) < 5 by omega)]
    refine sS l1 hl1 i hi hib hsr _ _ ?_ ?_ ?_ ?_ ?_ <;> (try simp only [XX, CC, Nat.reduceAdd, Nat.reduceSub, Nat.reduceLeDiff, Nat.reduceLT, Nat.reduceEqDiff, reduceIte, ↓reduceIte, Nat.reduceBEq, g0, g2, g3, g9])
    intro x e2 x1 x2 x3 x4 y0 y1 y2 y3 y9 y10
    (try rw [g1] at y1)
    by_cases cb : x = b
    · have eb : ((x : Int) == (b : Int)) = true := by simp; omega
      simp only [XX, CC, Nat.reduceAdd, Nat.reduceSub, Nat.reduceLeDiff, Nat.reduceLT, Nat.reduceEqDiff, reduceIte, ↓reduceIte, Nat.reduceBEq, y9, y2, eb]
      (try rw [cb] at x3)
      exact .inl ⟨l1, true, rfl, rfl, hs, fun _ => x3⟩
    · have eb : ((x : Int) == (b : Int)) = false := by simp; omega
      have hlt := x4.resolve_left cb
      by_cases c50 : b - a < 50
      · simp only [XX, CC, Nat.reduceAdd, Nat.reduceSub, Nat.reduceLeDiff, Nat.reduceLT, Nat.reduceEqDiff, reduceIte, ↓reduceIte, Nat.reduceBEq, y1, y9, y2, eb, subN (show a ≤ b by omega) (show b < 4611686018427387904 by omega), dec_t (show ((b - a : Nat) : Int) < 50 by omega)]
        exact .inl ⟨l1, false, rfl, rfl, hs, fun h => by cases h⟩
      · obtain ⟨u, hu⟩ := at_of (show x < l1.length by omega)
        obtain ⟨w, hw⟩ := at_of (show x - 1 < l1.length by omega)
        have xu := A.ix x (by omega)
        have xw := A.ix (x - 1) (by omega)
        have lu := S_ld (O := O) (A := A) hb hu
        have lw := S_ld (O := O) (A := A) hb hw
        obtain ⟨w1, w2⟩ := S_swp (O := O) (A := A) hb hu hw
        have hs2 : Sw a b l1 (swp l1 x (x - 1)) := Sw.refl.step (by omega) (by omega) (by omega) (by omega)
        have hl2 : (swp l1 x (x - 1)).length = A.n := swp_len.trans hl1
        have hsr2 : Srt (K O (swp l1 x (x - 1))) a (x - 1) := fun p q h1 h2 h3 => by
          rw [swp_K (by omega) (by omega), swp_K (by omega) (by omega), if_neg (by omega), if_neg (by omega), if_neg (by omega), if_neg (by omega)]
          exact x3 p q h1 h2 (by omega)
        simp only [XX, CC, Nat.reduceAdd, Nat.reduceSub, Nat.reduceLeDiff, Nat.reduceLT, Nat.reduceEqDiff, reduceIte, ↓reduceIte, Nat.reduceBEq, y1, y9, y2, eb, subN (show a ≤ b by omega) (show b < 4611686018427387904 by omega), dec_f (show ¬ ((b - a : Nat) : Int) < 50 by omega)]
        refine drw_in [] rfl ?_
        simp only [List.append_nil, DD, CC, Nat.reduceAdd, Nat.reduceSub, Nat.reduceLeDiff, Nat.reduceLT, Nat.reduceEqDiff, reduceIte, ↓reduceIte, Nat.reduceBEq, y0, y9, xu, xw, lu, lw, w1, w2, dr_stX, w64_sub (show 0 < x by omega) (show x < 4611686018427387904 by omega)]
        clear w1 w2 lu lw hu hw hlt x4
        generalize swp l1 x (x - 1) = l2 at hs2 hl2 hsr2 ⊢
        have hp2 : 0 < a → ∀ k, a ≤ k → k < b → K O l2 (a - 1) ≤ K O l2 k := fun h => by
          rw [hs2.out (O := O) (by omega) (k := a - 1) (.inl (by omega))]
          exact hs2.all (O := O) (by omega) (P := fun z => K O l1 (a - 1) ≤ z) (hp1 h)
        refine sL l2 hl2 x (by omega) (by omega) hsr2 hp2 _ _ ?_ ?_ ?_ ?_ ?_ <;> (try simp only [XX, CC, Nat.reduceAdd, Nat.reduceSub, Nat.reduceLeDiff, Nat.reduceLT, Nat.reduceEqDiff, reduceIte, ↓reduceIte, Nat.reduceBEq, y0, y1, y3, y9])
        intro l3 e3 v1 v2 z0 z1 z2 z3 z9 z10
        have hl3 : l3.length = A.n := v1.len.trans hl2
        (try simp only [XX, CC, Nat.reduceAdd, Nat.reduceSub, Nat.reduceLeDiff, Nat.reduceLT, Nat.reduceEqDiff, reduceIte, ↓reduceIte, Nat.reduceBEq])
        refine sR l3 hl3 x (by omega) _ _ z0 z1 (by rw [z2]; (try simp only [XX, CC, Nat.reduceAdd, Nat.reduceSub, Nat.reduceLeDiff, Nat.reduceLT, Nat.reduceEqDiff, reduceIte, ↓reduceIte, Nat.reduceBEq, y2])) rfl z9 ?_
        intro l4 e4 v3 u0 u1 u2 u3 u9 u10
        (try rw [z10] at u10)
        simp only [XX, CC, Nat.reduceAdd, Nat.reduceSub, Nat.reduceLeDiff, Nat.reduceLT, Nat.reduceEqDiff, reduceIte, ↓reduceIte, Nat.reduceBEq, y10, g10] at u10
        simp only [XX, CC, Nat.reduceAdd, Nat.reduceSub, Nat.reduceLeDiff, Nat.reduceLT, Nat.reduceEqDiff, reduceIte, ↓reduceIte, Nat.reduceBEq, u10, w64_nat (show c < 4611686018427387904 by omega)]
        refine hJ (d - 1) _ _ (by omega) ⟨x, c + 1, l4, rfl, by omega, by omega, by omega, (hs.trans hs2).trans (v1.trans (v3.mono (by omega) (Nat.le_refl _))), v3.srt (by omega) v2 (Nat.le_refl _), ?_, ?_, ?_, ?_, ?_, ?_⟩ <;> (try simp only [XX, CC, Nat.reduceAdd, Nat.reduceSub, Nat.reduceLeDiff, Nat.reduceLT, Nat.reduceEqDiff, reduceIte, ↓reduceIte, Nat.reduceBEq, u0, u1, u2, u3, u9])
  · simp only [XX, CC, Nat.reduceAdd, Nat.reduceSub, Nat.reduceLeDiff, Nat.reduceLT, Nat.reduceEqDiff, reduceIte, ↓reduceIte, Nat.reduceBEq, g10, dec_f (show ¬ (c : Int) < 5 by omega)]
    exact .inl ⟨l1, false, rfl, rfl, hs, fun h => by cases h⟩
end
end Go.Ev.So

/-! bits.Len64, LeadingZeros64. -/
namespace Go.Ev
set_option linter.unusedVariables false
set_option linter.unusedSimpArgs false

theorem wu64_in {x : Int} (h1 : 0 ≤ x) (h2 : x < 18446744073709551616) : IntKind.u64.wrap x = x := by rw [wu64]; omega
theorem and_nat (a b : Nat) (ha : a < 18446744073709551616) (hb : b < 18446744073709551616) : bitsA .and .u64 a b = ((a &&& b : Nat) : Int) :=
  (bits_nat .u64 64 (by decide) (fun n h0 h1 => wu64_in h0 (by simpa using h1)) a b (by simpa using ha) (by simpa using hb)).1
theorem bin_shr {x n : Nat} (hn : n ≤ 64) : binA .shr (.int .u64 (x : Int)) (.int .u64 (n : Int)) = some (.int .u64 ((x / 2 ^ n : Nat) : Int)) := by
  simp only [binA]
  rw [if_neg (by omega), show IntKind.u64.bits = 64 from rfl, Int.toNat_natCast, Nat.min_eq_left hn, Int.natCast_ediv, Int.natCast_pow, Int.fdiv_eq_ediv_of_nonneg _ (by exact Int.le_of_lt (Int.pow_pos (by decide)))]
  rfl
def cviA (k : IntKind) : AV → Option AV
  | .int _ n => some (.int k (k.wrap n))
  | _ => none
theorem op_cvi {X : Oracle} {e : Env} {s : St} {q : AV → St → Prop} {k : IntKind} {x : RX} : opA X (.cvi k x) e s q = ob (cviA k (x.ev e)) fun v => q v s := rfl
theorem cvi_int {k k' : IntKind} {n : Int} : cviA k (.int k' n) = some (.int k (k.wrap n)) := rfl

def ixsA (x i : AV) : Option AV := match x, i with
  | .str s, .int _ j => if h : 0 ≤ j ∧ j.toNat < s.size then some (.int .u8 (s[j.toNat]'h.2).toNat) else none
  | _, _ => none
theorem op_ixs {X : Oracle} {e : Env} {s : St} {q : AV → St → Prop} {x i : RX} : opA X (.ixs x i) e s q = ob (ixsA (x.ev e) (i.ev e)) fun v => q v s := rfl
def lenTab : List Nat := [0, 1, 2, 2, 3, 3, 3, 3, 4, 4, 4, 4, 4, 4, 4, 4] ++ List.replicate 16 5 ++ List.replicate 32 6 ++ List.replicate 64 7 ++ List.replicate 128 8
def lenOk (i : Nat) : Bool := match ixsA (.str (bts lenTab)) (.int .u8 (i : Int)) with
  | some (.int .u8 (.ofNat k)) => decide (i < 2 ^ k) && decide (k ≤ 8) && (decide (i = 0) || (decide (1 ≤ k) && decide (2 ^ k ≤ 2 * i)))
  | _ => false
theorem lenOk_all : (List.range 256).all lenOk = true := by kernel_rfl
theorem len_at {i : Nat} (h : i < 256) : ∃ k : Nat, ixsA (.str (bts lenTab)) (.int .u8 (i : Int)) = some (.int .u8 (k : Int)) ∧ i < 2 ^ k ∧ k ≤ 8 ∧ (i ≠ 0 → 1 ≤ k ∧ 2 ^ k ≤ 2 * i) := by
  have := List.all_eq_true.1 lenOk_all i (List.mem_range.2 h)
  unfold lenOk at this
  split at this
  · rename_i k hk
    simp only [Bool.and_eq_true, Bool.or_eq_true, decide_eq_true_eq] at this
    exact ⟨k, hk, this.1.1, this.1.2, fun h0 => this.2.resolve_left h0⟩
  · simp at this

/-- The text of Len64, its table a name. -/
def lenD (tab : ByteArray) : RC := .seq (.reg [⟨(some 19), none, (.mv (.t 2))⟩, ⟨(some 20), none, (.mv (.t 0))⟩, ⟨(some 21), none, (.cvi .u8 (.t 20))⟩, ⟨(some 22), none, (.ixs (.k (.str tab)) (.t 21))⟩, ⟨(some 23), none, (.cvi .i64 (.t 22))⟩, ⟨(some 24), none, (.bin .add (.t 19) (.t 23))⟩, ⟨(some 2), none, (.mv (.t 24))⟩]) .ret
def lenP (c : RC) : RC := .seq (.reg [⟨(some 2), none, (.mv (.k (.int .i64 0)))⟩]) (.seq (.seq (.reg [⟨(some 3), none, (.mv (.t 0))⟩, ⟨(some 4), none, (.bin .geq (.t 3) (.k (.int .u64 4294967296)))⟩]) (.cond (.t 4) (.seq (.reg [⟨(some 5), none, (.mv (.t 0))⟩,
  ⟨(some 6), none, (.bin .shr (.t 5) (.k (.int .u64 32)))⟩, ⟨(some 0), none, (.mv (.t 6))⟩]) (.reg [⟨(some 2), none, (.mv (.k (.int .i64 32)))⟩])) .skip)) (.seq (.seq
  (.reg [⟨(some 7), none, (.mv (.t 0))⟩, ⟨(some 8), none, (.bin .geq (.t 7) (.k (.int .u64 65536)))⟩]) (.cond (.t 8) (.seq (.reg [⟨(some 9), none, (.mv (.t 0))⟩,
  ⟨(some 10), none, (.bin .shr (.t 9) (.k (.int .u64 16)))⟩, ⟨(some 0), none, (.mv (.t 10))⟩]) (.reg [⟨(some 11), none, (.mv (.t 2))⟩,
  ⟨(some 12), none, (.bin .add (.t 11) (.k (.int .i64 16)))⟩, ⟨(some 2), none, (.mv (.t 12))⟩])) .skip)) (.seq (.seq (.reg [⟨(some 13), none, (.mv (.t 0))⟩,
  ⟨(some 14), none, (.bin .geq (.t 13) (.k (.int .u64 256)))⟩]) (.cond (.t 14) (.seq (.reg [⟨(some 15), none, (.mv (.t 0))⟩,
  ⟨(some 16), none, (.bin .shr (.t 15) (.k (.int .u64 8)))⟩, ⟨(some 0), none, (.mv (.t 16))⟩]) (.reg [⟨(some 17), none, (.mv (.t 2))⟩,
  ⟨(some 18), none, (.bin .add (.t 17) (.k (.int .i64 8)))⟩, ⟨(some 2), none, (.mv (.t 18))⟩])) .skip)) c)))
theorem len_text : r_bits_Len64.body = lenP (lenD (bts lenTab)) := by kernel_rfl
set_option maxHeartbeats 4000000 in
theorem len64_r (s : St) (n : Nat) (hn : n < 18446744073709551616) : Run T0 f_bits_Len64 [.int .u64 n] s fun a t' => ∃ k : Nat, a = .int .i64 k ∧ t' = s ∧ n < 2 ^ k ∧ k ≤ 64 ∧ (n ≠ 0 → 1 ≤ k ∧ 2 ^ k ≤ 2 * n) := by
  refine run_body (F := r_bits_Len64) rfl (Nat.le_of_ble_eq_true rfl) ?_
  rw [len_text, show r_bits_Len64.res = [.tmp 2] from rfl]
  obtain ⟨tab, htab⟩ : ∃ tab, tab = bts lenTab := ⟨_, rfl⟩
  rw [← htab]
  have fin : ∀ (n r m : Nat), n < 256 → r ≤ 56 → m < (n + 1) * 2 ^ r → (m ≠ 0 → n ≠ 0 ∧ n * 2 ^ r ≤ m) → ∃ k : Nat, ixsA (.str (bts lenTab)) (.int .u8 (n : Int)) = some (.int .u8 (k : Int)) ∧ k ≤ 8 ∧ m < 2 ^ (r + k) ∧ r + k ≤ 64 ∧ (m ≠ 0 → 1 ≤ r + k ∧ 2 ^ (r + k) ≤ 2 * m) := by
    intro n r m h1 h2 h3 h4
    obtain ⟨k, k1, k2, k3, k4⟩ := len_at h1
    refine ⟨k, k1, k3, ?_, by omega, fun h => ?_⟩
    · refine Nat.lt_of_lt_of_le h3 ?_
      rw [Nat.pow_add, Nat.mul_comm]
      exact Nat.mul_le_mul_left _ k2
    · obtain ⟨h5, h6⟩ := h4 h
      obtain ⟨k5, k6⟩ := k4 h5
      refine ⟨by omega, ?_⟩
      have h7 : 2 ^ r * 2 ^ k ≤ 2 ^ r * (2 * n) := Nat.mul_le_mul_left _ k6
      have h8 : 2 ^ r * (2 * n) = 2 * (n * 2 ^ r) := by rw [Nat.mul_comm, Nat.mul_assoc]
      rw [Nat.pow_add]
      omega
  have w8 : ∀ x : Nat, x < 256 → IntKind.u8.wrap (x : Int) = (x : Int) := fun x hx => by simp [IntKind.wrap, IntKind.bits, IntKind.signed]; omega
  have sh : ∀ (x : Nat) , binA .shr (.int .u64 (x : Int)) (.int .u64 32) = some (.int .u64 ((x / 2 ^ 32 : Nat) : Int)) ∧ binA .shr (.int .u64 (x : Int)) (.int .u64 16) = some (.int .u64 ((x / 2 ^ 16 : Nat) : Int)) ∧ binA .shr (.int .u64 (x : Int)) (.int .u64 8) = some (.int .u64 ((x / 2 ^ 8 : Nat) : Int)) :=
    fun x => ⟨bin_shr (n := 32) (by decide), bin_shr (n := 16) (by decide), bin_shr (n := 8) (by decide)⟩
  have wi : ∀ a b : Nat, a ≤ 64 → b ≤ 64 → IntKind.i64.wrap ((a : Int) + (b : Int)) = ((a + b : Nat) : Int) := fun a b h1 h2 => by rw [w64_in (by omega) (by omega)]; omega
  have wk : ∀ a : Nat, a ≤ 64 → IntKind.i64.wrap (a : Int) = (a : Int) := fun a h1 => by rw [w64_in (by omega) (by omega)]
  obtain ⟨n1, r1, hn1, e1, hr1, hb1⟩ : ∃ n1 r1 : Nat, (n1 < 4294967296) ∧ ((4294967296 ≤ n ∧ n1 = n / 2 ^ 32 ∧ r1 = 32) ∨ (n < 4294967296 ∧ n1 = n ∧ r1 = 0)) ∧ n < (n1 + 1) * 2 ^ r1 ∧ (n ≠ 0 → n1 ≠ 0 ∧ n1 * 2 ^ r1 ≤ n) := by
    by_cases c : 4294967296 ≤ n
    · exact ⟨n / 2 ^ 32, 32, by omega, .inl ⟨c, rfl, rfl⟩, by omega, by omega⟩
    · exact ⟨n, 0, by omega, .inr ⟨by omega, rfl, rfl⟩, by omega, by omega⟩
  obtain ⟨n2, r2, hn2, e2, hr2, hb2⟩ : ∃ n2 r2 : Nat, (n2 < 65536) ∧ ((65536 ≤ n1 ∧ n2 = n1 / 2 ^ 16 ∧ r2 = r1 + 16) ∨ (n1 < 65536 ∧ n2 = n1 ∧ r2 = r1)) ∧ n < (n2 + 1) * 2 ^ r2 ∧ (n ≠ 0 → n2 ≠ 0 ∧ n2 * 2 ^ r2 ≤ n) := by
    by_cases c : 65536 ≤ n1
    · refine ⟨n1 / 2 ^ 16, r1 + 16, by omega, .inl ⟨c, rfl, rfl⟩, Nat.lt_of_lt_of_le hr1 ?_, fun h => ⟨by omega, Nat.le_trans ?_ (hb1 h).2⟩⟩
      · rw [Nat.pow_add, Nat.mul_comm (2 ^ r1), ← Nat.mul_assoc]
        exact Nat.mul_le_mul_right _ (by omega)
      · rw [Nat.pow_add, Nat.mul_comm (2 ^ r1), ← Nat.mul_assoc]
        exact Nat.mul_le_mul_right _ (by omega)
    · exact ⟨n1, r1, by omega, .inr ⟨by omega, rfl, rfl⟩, hr1, hb1⟩
  obtain ⟨n3, r3, hn3, e3, hr3, hb3⟩ : ∃ n3 r3 : Nat, (n3 < 256) ∧ ((256 ≤ n2 ∧ n3 = n2 / 2 ^ 8 ∧ r3 = r2 + 8) ∨ (n2 < 256 ∧ n3 = n2 ∧ r3 = r2)) ∧ n < (n3 + 1) * 2 ^ r3 ∧ (n ≠ 0 → n3 ≠ 0 ∧ n3 * 2 ^ r3 ≤ n) := by
    by_cases c : 256 ≤ n2
    · refine ⟨n2 / 2 ^ 8, r2 + 8, by omega, .inl ⟨c, rfl, rfl⟩, Nat.lt_of_lt_of_le hr2 ?_, fun h => ⟨by omega, Nat.le_trans ?_ (hb2 h).2⟩⟩
      · rw [Nat.pow_add, Nat.mul_comm (2 ^ r2), ← Nat.mul_assoc]
        exact Nat.mul_le_mul_right _ (by omega)
      · rw [Nat.pow_add, Nat.mul_comm (2 ^ r2), ← Nat.mul_assoc]
        exact Nat.mul_le_mul_right _ (by omega)
    · exact ⟨n2, r2, by omega, .inr ⟨by omega, rfl, rfl⟩, hr2, hb2⟩
  have hr3' : r3 ≤ 56 := by omega
  obtain ⟨k, k1, k2, k3, k4, k5⟩ := fin n3 r3 n hn3 hr3' hr3 hb3
  have last : ∀ e : Env, e.get 0 = .int .u64 n3 → e.get 2 = .int .i64 r3 → awp (Run T0) (lenD tab) (endK [.tmp 2] s fun a t' => ∃ k : Nat, a = .int .i64 k ∧ t' = s ∧ n < 2 ^ k ∧ k ≤ 64 ∧ (n ≠ 0 → 1 ≤ k ∧ 2 ^ k ≤ 2 * n)) e s := by
    intro e g0 g2
    rw [← htab] at k1
    simp only [lenD, XX, CC, Nat.reduceAdd, Nat.reduceSub, Nat.reduceLeDiff, Nat.reduceLT, Nat.reduceEqDiff, reduceIte, ↓reduceIte, Nat.reduceBEq, g0, g2, op_cvi, cvi_int, op_ixs, w8 n3 hn3, k1, wk k (by omega), wi r3 k (by omega) (by omega)]
    exact ret_drop (.refl _) rfl ⟨r3 + k, rfl, rfl, k3, k4, k5⟩
  have c32 : ((32 : Nat) : Int) = 32 := rfl
  generalize lenD tab = TAIL at last ⊢
  clear fin w8 wi wk k1 k3 k4 k5 hr1 hb1 hr2 hb2 hr3 hb3
  rcases e1 with ⟨c1, p1, rfl⟩ | ⟨c1, p1, rfl⟩ <;> rcases e2 with ⟨c2, p2, rfl⟩ | ⟨c2, p2, rfl⟩ <;> rcases e3 with ⟨c3, p3, rfl⟩ | ⟨c3, p3, rfl⟩
  · simp only [lenP, XX, CC, Nat.reduceAdd, Nat.reduceSub, Nat.reduceLeDiff, Nat.reduceLT, Nat.reduceEqDiff, reduceIte, ↓reduceIte, Nat.reduceBEq, dec_t (show (n : Int) ≥ 4294967296 by omega), dec_t (show (n1 : Int) ≥ 65536 by omega), dec_t (show (n2 : Int) ≥ 256 by omega), sh n, sh n1, sh n2, ← p1, ← p2, ← p3]
    refine last _ ?_ ?_ <;> simp only [XX, CC, Nat.reduceAdd, Nat.reduceSub, Nat.reduceLeDiff, Nat.reduceLT, Nat.reduceEqDiff, reduceIte, ↓reduceIte, Nat.reduceBEq]
    rfl
  · subst p3
    simp only [lenP, XX, CC, Nat.reduceAdd, Nat.reduceSub, Nat.reduceLeDiff, Nat.reduceLT, Nat.reduceEqDiff, reduceIte, ↓reduceIte, Nat.reduceBEq, dec_t (show (n : Int) ≥ 4294967296 by omega), dec_t (show (n1 : Int) ≥ 65536 by omega), dec_f (show ¬ (n3 : Int) ≥ 256 by omega), sh n, sh n1, ← p1, ← p2]
    refine last _ ?_ ?_ <;> simp only [XX, CC, Nat.reduceAdd, Nat.reduceSub, Nat.reduceLeDiff, Nat.reduceLT, Nat.reduceEqDiff, reduceIte, ↓reduceIte, Nat.reduceBEq]
    rfl
  · subst p2
    simp only [lenP, XX, CC, Nat.reduceAdd, Nat.reduceSub, Nat.reduceLeDiff, Nat.reduceLT, Nat.reduceEqDiff, reduceIte, ↓reduceIte, Nat.reduceBEq, dec_t (show (n : Int) ≥ 4294967296 by omega), dec_f (show ¬ (n2 : Int) ≥ 65536 by omega), dec_t (show (n2 : Int) ≥ 256 by omega), sh n, sh n2, ← p1, ← p3]
    refine last _ ?_ ?_ <;> simp only [XX, CC, Nat.reduceAdd, Nat.reduceSub, Nat.reduceLeDiff, Nat.reduceLT, Nat.reduceEqDiff, reduceIte, ↓reduceIte, Nat.reduceBEq]
    rfl
  · subst p3; subst p2
    simp only [lenP, XX, CC, Nat.reduceAdd, Nat.reduceSub, Nat.reduceLeDiff, Nat.reduceLT, Nat.reduceEqDiff, reduceIte, ↓reduceIte, Nat.reduceBEq, dec_t (show (n : Int) ≥ 4294967296 by omega), dec_f (show ¬ (n3 : Int) ≥ 65536 by omega), dec_f (show ¬ (n3 : Int) ≥ 256 by omega), sh n, ← p1]
    refine last _ ?_ ?_ <;> simp only [XX, CC, Nat.reduceAdd, Nat.reduceSub, Nat.reduceLeDiff, Nat.reduceLT, Nat.reduceEqDiff, reduceIte, ↓reduceIte, Nat.reduceBEq]
    rfl
  · subst p1
    simp only [lenP, XX, CC, Nat.reduceAdd, Nat.reduceSub, Nat.reduceLeDiff, Nat.reduceLT, Nat.reduceEqDiff, reduceIte, ↓reduceIte, Nat.reduceBEq, dec_f (show ¬ (n1 : Int) ≥ 4294967296 by omega), dec_t (show (n1 : Int) ≥ 65536 by omega), dec_t (show (n2 : Int) ≥ 256 by omega), sh n1, sh n2, ← p2, ← p3]
    refine last _ ?_ ?_ <;> simp only [XX, CC, Nat.reduceAdd, Nat.reduceSub, Nat.reduceLeDiff, Nat.reduceLT, Nat.reduceEqDiff, reduceIte, ↓reduceIte, Nat.reduceBEq]
    rfl
  · subst p1; subst p3
    simp only [lenP, XX, CC, Nat.reduceAdd, Nat.reduceSub, Nat.reduceLeDiff, Nat.reduceLT, Nat.reduceEqDiff, reduceIte, ↓reduceIte, Nat.reduceBEq, dec_f (show ¬ (n1 : Int) ≥ 4294967296 by omega), dec_t (show (n1 : Int) ≥ 65536 by omega), dec_f (show ¬ (n3 : Int) ≥ 256 by omega), sh n1, ← p2]
    refine last _ ?_ ?_ <;> simp only [XX, CC, Nat.reduceAdd, Nat.reduceSub, Nat.reduceLeDiff, Nat.reduceLT, Nat.reduceEqDiff, reduceIte, ↓reduceIte, Nat.reduceBEq]
    rfl
  · subst p1; subst p2
    simp only [lenP, XX, CC, Nat.reduceAdd, Nat.reduceSub, Nat.reduceLeDiff, Nat.reduceLT, Nat.reduceEqDiff, reduceIte, ↓reduceIte, Nat.reduceBEq, dec_f (show ¬ (n2 : Int) ≥ 4294967296 by omega), dec_f (show ¬ (n2 : Int) ≥ 65536 by omega), dec_t (show (n2 : Int) ≥ 256 by omega), sh n2, ← p3]
    refine last _ ?_ ?_ <;> simp only [XX, CC, Nat.reduceAdd, Nat.reduceSub, Nat.reduceLeDiff, Nat.reduceLT, Nat.reduceEqDiff, reduceIte, ↓reduceIte, Nat.reduceBEq]
    rfl
  · subst p1; subst p2; subst p3
    simp only [lenP, XX, CC, Nat.reduceAdd, Nat.reduceSub, Nat.reduceLeDiff, Nat.reduceLT, Nat.reduceEqDiff, reduceIte, ↓reduceIte, Nat.reduceBEq, dec_f (show ¬ (n3 : Int) ≥ 4294967296 by omega), dec_f (show ¬ (n3 : Int) ≥ 65536 by omega), dec_f (show ¬ (n3 : Int) ≥ 256 by omega)]
    refine last _ ?_ ?_ <;> simp only [XX, CC, Nat.reduceAdd, Nat.reduceSub, Nat.reduceLeDiff, Nat.reduceLT, Nat.reduceEqDiff, reduceIte, ↓reduceIte, Nat.reduceBEq]
    rfl

theorem bitslen2_r (s : St) (n : Nat) (hn : n < 18446744073709551616) : Run T0 f_bits_Len [.int .u64 n] s fun a t' => ∃ k : Nat, a = .int .i64 k ∧ t' = s ∧ k ≤ 64 ∧ n < 2 ^ k ∧ (n ≠ 0 → 2 ^ k ≤ 2 * n) := by
  refine run_body (F := r_bits_Len) rfl (by simp [r_bits_Len]) ?_
  simp only [r_bits_Len, XX, CC, Nat.reduceAdd, Nat.reduceSub, Nat.reduceLeDiff, Nat.reduceLT, Nat.reduceEqDiff, reduceIte, ↓reduceIte, Nat.reduceBEq]
  refine Run.mono _ _ _ _ _ ?_ (len64_r s n hn)
  rintro a t ⟨k, rfl, rfl, h1, h2, h3⟩
  exact ret_drop (.refl _) rfl ⟨k, rfl, rfl, h2, h1, fun h => (h3 h).2⟩
end Go.Ev

/-! Patterns broken: exchanges by numbers of a sort. -/
namespace Go.Ev.So
open Go.Ev
set_option linter.unusedVariables false
set_option linter.unusedSimpArgs false

theorem xorN (x y : Int) : ∃ z : Nat, z < 18446744073709551616 ∧ binA .xor (.int .u64 x) (.int .u64 y) = some (.int .u64 (z : Int)) := by
  have h : ∀ w : Int, ∃ z : Nat, z < 18446744073709551616 ∧ IntKind.u64.wrap w = (z : Int) := fun w => ⟨(w % 18446744073709551616).toNat, by omega, by rw [wu64]; omega⟩
  obtain ⟨z, h1, h2⟩ := h (BitVec.ofInt IntKind.u64.bits x ^^^ BitVec.ofInt IntKind.u64.bits y).toNat
  refine ⟨z, h1, ?_⟩
  simp only [binA, if_true, bitsA]
  rw [h2]
theorem shlZ (x : Int) (n : Nat) : ∃ z : Int, binA .shl (.int .u64 x) (.int .u64 (n : Int)) = some (.int .u64 z) := by
  simp only [binA]
  rw [if_neg (by omega)]
  exact ⟨_, rfl⟩
theorem shrZ (x : Int) (n : Nat) : ∃ z : Int, binA .shr (.int .u64 x) (.int .u64 (n : Int)) = some (.int .u64 z) := by
  simp only [binA]
  rw [if_neg (by omega)]
  exact ⟨_, rfl⟩
theorem andN (x k : Nat) (hx : x < 18446744073709551616) (hk : 2 ^ k ≤ 18446744073709551616) : ∃ z : Nat, z < 2 ^ k ∧ binA .and (.int .u64 (x : Int)) (.int .u64 ((2 ^ k - 1 : Nat) : Int)) = some (.int .u64 (z : Int)) := by
  have h0 := Nat.two_pow_pos k
  have := Go.Ev.and_nat x (2 ^ k - 1) hx (by omega)
  refine ⟨x % 2 ^ k, Nat.mod_lt _ h0, ?_⟩
  simp only [binA, if_true, this]
  rw [Nat.and_two_pow_sub_one_eq_mod]

section
def boxU (c : Nat) : Blk := .cells true [.int .u64 c]
set_option maxHeartbeats 4000000 in
theorem next_r (t : St) (p x : Nat) (hp : t[p]? = some (boxU x)) : Run T0 f_slices_xorshift_Next [.ptr p 0] t fun r t' => ∃ z : Nat, z < 18446744073709551616 ∧ r = .int .u64 z ∧ t' = t.set p (boxU z) := by
  have hp0 : t[p]? = some (.cells true [.int .u64 x]) := hp
  have hlt := (List.getElem?_eq_some_iff.1 hp).1
  have hld : ∀ y : Nat, ldA (t.set p (.cells true [.int .u64 y])) none (.ptr p 0) = some (.int .u64 y) := fun y => by rw [ld_own (key_set hlt)]; rfl
  have hwr : ∀ y z : Nat, wrA (t.set p (.cells true [.int .u64 y])) p 0 [.int .u64 z] = some (t.set p (.cells true [.int .u64 z])) := fun y z => by
    rw [wr_own (key_set hlt), if_pos ⟨by simp, rfl⟩, List.set_set]; rfl
  have hld0 : ldA t none (.ptr p 0) = some (.int .u64 x) := by rw [ld_own hp0]; rfl
  have hwr0 : ∀ z : Nat, wrA t p 0 [.int .u64 z] = some (t.set p (.cells true [.int .u64 z])) := fun z => by
    rw [wr_own hp0, if_pos ⟨by simp, rfl⟩]; rfl
  refine run_body (F := r_slices_xorshift_Next) rfl (by simp [r_slices_xorshift_Next]) ?_
  obtain ⟨s1, a1⟩ := shlZ x 13
  obtain ⟨x1, l1, b1⟩ := xorN x s1
  obtain ⟨s2, a2⟩ := shrZ x1 7
  obtain ⟨x2, l2, b2⟩ := xorN x1 s2
  obtain ⟨s3, a3⟩ := shlZ x2 17
  obtain ⟨x3, l3, b3⟩ := xorN x2 s3
  have a1 : binA .shl (.int .u64 x) (.int .u64 13) = some (.int .u64 s1) := a1
  have a2 : binA .shr (.int .u64 x1) (.int .u64 7) = some (.int .u64 s2) := a2
  have a3 : binA .shl (.int .u64 x2) (.int .u64 17) = some (.int .u64 s3) := a3
  simp only [r_slices_xorshift_Next, XX, CC, Nat.reduceAdd, Nat.reduceSub, Nat.reduceLeDiff, Nat.reduceLT, Nat.reduceEqDiff, reduceIte, ↓reduceIte, Nat.reduceBEq]
  refine drw_in [] rfl ?_
  simp only [List.append_nil, DD, CC, Nat.reduceAdd, Nat.reduceSub, Nat.reduceLeDiff, Nat.reduceLT, Nat.reduceEqDiff, reduceIte, ↓reduceIte, Nat.reduceBEq, pu_nck, nck_ptr, hld0, a1, b1, dr_stX, hwr0]
  refine drw_in [] rfl ?_
  simp only [List.append_nil, DD, CC, Nat.reduceAdd, Nat.reduceSub, Nat.reduceLeDiff, Nat.reduceLT, Nat.reduceEqDiff, reduceIte, ↓reduceIte, Nat.reduceBEq, pu_nck, nck_ptr, hld, a2, b2, dr_stX, hwr]
  refine drw_in [] rfl ?_
  simp only [List.append_nil, DD, CC, Nat.reduceAdd, Nat.reduceSub, Nat.reduceLeDiff, Nat.reduceLT, Nat.reduceEqDiff, reduceIte, ↓reduceIte, Nat.reduceBEq, pu_nck, nck_ptr, op_nck, hld, a3, b3, dr_stX, hwr]
  exact .inl ⟨x3, l3, rfl, rfl⟩

set_option maxHeartbeats 4000000 in
theorem npow_r (t : St) (n : Nat) (h0 : 0 < n) (hn : n < 1000000000) : Run T0 f_slices_nextPowerOfTwo [.int .i64 n] t fun r t' => ∃ k : Nat, r = .int .u64 (2 ^ k : Nat) ∧ t' = t ∧ 0 < k ∧ 2 ^ k ≤ 2 * n := by
  refine run_body (F := r_slices_nextPowerOfTwo) rfl (by simp [r_slices_nextPowerOfTwo]) ?_
  have hw : IntKind.u64.wrap (n : Int) = n := by rw [wu64]; omega
  simp only [r_slices_nextPowerOfTwo, XX, CC, Nat.reduceAdd, Nat.reduceSub, Nat.reduceLeDiff, Nat.reduceLT, Nat.reduceEqDiff, reduceIte, ↓reduceIte, Nat.reduceBEq, Go.Ev.op_cvi, Go.Ev.cvi_int, hw]
  refine Run.mono _ _ _ _ _ ?_ (bitslen2_r t n (by omega))
  rintro r t' ⟨k, rfl, rfl, h1, h2, h3⟩
  have h3 := h3 (by omega)
  have hk : k ≠ 0 := fun h => by subst h; simp at h2; omega
  have hs : binA .shl (.int .u64 1) (.int .i64 (k : Int)) = some (.int .u64 ((2 ^ k : Nat) : Int)) := by
    simp only [binA]
    rw [if_neg (by omega), Int.toNat_natCast, Nat.min_eq_left (show k ≤ IntKind.u64.bits from h1), Int.one_mul, show ((2 : Int) ^ k) = ((2 ^ k : Nat) : Int) by rw [Int.natCast_pow]; rfl]
    generalize 2 ^ k = z at h3 ⊢
    rw [wu64]
    congr 2; omega
  simp only [XX, CC, Nat.reduceAdd, Nat.reduceSub, Nat.reduceLeDiff, Nat.reduceLT, Nat.reduceEqDiff, reduceIte, ↓reduceIte, Nat.reduceBEq, hs]
  exact .inl ⟨k, rfl, rfl, by omega, h3⟩
end

section
variable {α : Type} {O : SOr α} {A : AR}
theorem S_boxU {t : St} {l : List α} {p : Nat} {c : Nat} (h : p ≠ A.bk) (hp : t[p]? = some (boxU c)) : (A.S O t l)[p]? = some (boxU c) := by rw [S_out h]; exact hp
set_option maxHeartbeats 4000000 in
theorem break_r (t : St) (hb : A.bk < t.length) (l : List α) (hl : l.length = A.n) (a b : Nat) (hab : a + 12 < b) (hbn : b ≤ A.n) :
    Run T0 f_slices_breakPatternsOrdered_string [A.v, .int .i64 a, .int .i64 b] (A.S O t l) fun r t' => ∃ l', t' = A.S O t l' ∧ Sw a b l l' := by
  have hbig := A.big
  have tb : t.length ≠ A.bk := by omega
  have hq : (b - a) / 4 * 4 ≤ b - a := Nat.div_mul_le_self _ _
  have hq1 : b - a < ((b - a) / 4 + 1) * 4 := by omega
  have q4 : binA .quo (.int .i64 ((b - a : Nat) : Int)) (.int .i64 4) = some (.int .i64 (((b - a) / 4 : Nat) : Int)) := quoN (k := 4) (by omega) (by decide)
  have ws := subN (show a ≤ b by omega) (show b < 4611686018427387904 by omega)
  have hw : IntKind.u64.wrap ((b - a : Nat) : Int) = ((b - a : Nat) : Int) := by rw [wu64]; omega
  refine run_body (F := r_slices_breakPatternsOrdered_string) rfl (by simp [r_slices_breakPatternsOrdered_string]) ?_
  generalize hqq : (b - a) / 4 = q at hq hq1 q4
  have m2 : binA .mul (.int .i64 (q : Int)) (.int .i64 2) = some (.int .i64 ((q * 2 : Nat) : Int)) := mulN (k := 2) (by omega) (by decide)
  have a2 := addN (show a + q * 2 < 4611686018427387904 by omega)
  have s0 : ∀ x : AV, A.S O t l ++ [Blk.cells true [x]] = A.S O (t ++ [.cells true [x]]) l := fun x => S_app hb
  simp only [r_slices_breakPatternsOrdered_string, XX, CC, Nat.reduceAdd, Nat.reduceSub, Nat.reduceLeDiff, Nat.reduceLT, Nat.reduceEqDiff, reduceIte, ↓reduceIte, Nat.reduceBEq, ws, dec_t (show ((b - a : Nat) : Int) ≥ 8 by omega), Go.Ev.op_cvi, Go.Ev.cvi_int, hw, S_len, s0]
  refine Run.mono _ _ _ _ _ ?_ (npow_r _ (b - a) (by omega) (by omega))
  rintro r t' ⟨k, rfl, rfl, k1, k2⟩
  have k0 := Nat.two_pow_pos k
  have hk64 : (2 ^ k : Nat) < 18446744073709551616 := by omega
  have hm1 : IntKind.u64.wrap (((2 ^ k : Nat) : Int) - 1) = ((2 ^ k - 1 : Nat) : Int) := by
    generalize 2 ^ k = z at k0 hk64
    rw [wu64]; omega
  simp only [XX, CC, Nat.reduceAdd, Nat.reduceSub, Nat.reduceLeDiff, Nat.reduceLT, Nat.reduceEqDiff, reduceIte, ↓reduceIte, Nat.reduceBEq, q4, m2, a2, w64_sub (show 0 < a + q * 2 by omega) (show a + q * 2 < 4611686018427387904 by omega)]
  refine awp_rounds (fun d e1 s => ∃ (i x : Nat) (l1 : List α), s = A.S O (t ++ [boxU x]) l1 ∧ i + d = a + q * 2 + 2 ∧ a + 1 ≤ i ∧ Sw a b l l1 ∧ e1.get 0 = A.v ∧ e1.get 1 = .int .i64 a ∧ e1.get 6 = .int .i64 (b - a : Nat) ∧ e1.get 7 = .ptr t.length 0 ∧ e1.get 8 = .int .u64 (2 ^ k : Nat) ∧ e1.get 9 = .int .i64 i) 3 ?_ ?_
  · refine ⟨a + q * 2 - 1, b - a, l, rfl, by omega, by omega, .refl, ?_, ?_, ?_, ?_, ?_, ?_⟩ <;> (try simp only [XX, CC, Nat.reduceAdd, Nat.reduceSub, Nat.reduceLeDiff, Nat.reduceLT, Nat.reduceEqDiff, reduceIte, ↓reduceIte, Nat.reduceBEq])
  rintro J d e s hJ ⟨i, x, l1, rfl, hd, hi, hs, g0, g1, g8, g9, g10, g11⟩
  have hl1 : l1.length = A.n := hs.len.trans hl
  have hbx : (A.S O (t ++ [boxU x]) l1)[t.length]? = some (boxU x) := S_boxU tb (by simp)
  simp only [XX, CC, Nat.reduceAdd, Nat.reduceSub, Nat.reduceLeDiff, Nat.reduceLT, Nat.reduceEqDiff, reduceIte, ↓reduceIte, Nat.reduceBEq, g0, g1, g8, g9, g10, g11, q4, m2, a2, w64_nat (show a + q * 2 < 4611686018427387904 by omega)]
  by_cases c : i ≤ a + q * 2 + 1
  · simp only [XX, CC, Nat.reduceAdd, Nat.reduceSub, Nat.reduceLeDiff, Nat.reduceLT, Nat.reduceEqDiff, reduceIte, ↓reduceIte, Nat.reduceBEq, g0, g1, g8, g9, g10, g11, q4, m2, a2, w64_nat (show a + q * 2 < 4611686018427387904 by omega), dec_t (show (i : Int) ≤ ((a + (q * 2 + 1) : Nat) : Int) by omega)]
    refine Run.mono _ _ _ _ _ ?_ (next_r _ t.length x hbx)
    rintro r t' ⟨z, hz, rfl, rfl⟩
    obtain ⟨o, ho, hand⟩ := andN z k hz (by omega)
    have hwo : IntKind.i64.wrap (o : Int) = o := by rw [w64_in (by omega) (by omega)]
    rw [S_set tb, set_end]
    have hbt : A.bk < (t ++ [boxU z]).length := by simp; omega
    by_cases c2 : o ≥ b - a
    · have ho2 : o - (b - a) < b - a := by omega
      obtain ⟨u, hu⟩ := at_of (show i < l1.length by omega)
      obtain ⟨w, hw⟩ := at_of (show a + (o - (b - a)) < l1.length by omega)
      have xu := A.ix i (by omega)
      have xw := A.ix (a + (o - (b - a))) (by omega)
      have lu := S_ld (O := O) (A := A) hbt hu
      have lw := S_ld (O := O) (A := A) hbt hw
      obtain ⟨w1, w2⟩ := S_swp (O := O) (A := A) hbt hu hw
      simp only [XX, CC, Nat.reduceAdd, Nat.reduceSub, Nat.reduceLeDiff, Nat.reduceLT, Nat.reduceEqDiff, reduceIte, ↓reduceIte, Nat.reduceBEq, g0, g1, g8, g9, g10, g11, hm1, hand, Go.Ev.op_cvi, Go.Ev.cvi_int, hwo, dec_t (show (o : Int) ≥ ((b - a : Nat) : Int) by omega), subN (show b - a ≤ o by omega) (show o < 4611686018427387904 by omega)]
      refine drw_in [] rfl ?_
      simp only [List.append_nil, DD, CC, Nat.reduceAdd, Nat.reduceSub, Nat.reduceLeDiff, Nat.reduceLT, Nat.reduceEqDiff, reduceIte, ↓reduceIte, Nat.reduceBEq, g0, g1, g11, addN (show a + (o - (b - a)) < 4611686018427387904 by omega), xu, xw, lu, lw, w1, w2, dr_stX, w64_nat (show i < 4611686018427387904 by omega)]
      refine hJ (d - 1) _ _ (by omega) ⟨i + 1, z, swp l1 i (a + (o - (b - a))), rfl, by omega, by omega, hs.step (by omega) (by omega) (by omega) (by omega), ?_, ?_, ?_, ?_, ?_, ?_⟩ <;> (try simp only [XX, CC, Nat.reduceAdd, Nat.reduceSub, Nat.reduceLeDiff, Nat.reduceLT, Nat.reduceEqDiff, reduceIte, ↓reduceIte, Nat.reduceBEq, g0, g1, g8, g9, g10])
    · obtain ⟨u, hu⟩ := at_of (show i < l1.length by omega)
      obtain ⟨w, hw⟩ := at_of (show a + o < l1.length by omega)
      have xu := A.ix i (by omega)
      have xw := A.ix (a + o) (by omega)
      have lu := S_ld (O := O) (A := A) hbt hu
      have lw := S_ld (O := O) (A := A) hbt hw
      obtain ⟨w1, w2⟩ := S_swp (O := O) (A := A) hbt hu hw
      simp only [XX, CC, Nat.reduceAdd, Nat.reduceSub, Nat.reduceLeDiff, Nat.reduceLT, Nat.reduceEqDiff, reduceIte, ↓reduceIte, Nat.reduceBEq, g0, g1, g8, g9, g10, g11, hm1, hand, Go.Ev.op_cvi, Go.Ev.cvi_int, hwo, dec_f (show ¬ (o : Int) ≥ ((b - a : Nat) : Int) by omega)]
      refine drw_in [] rfl ?_
      simp only [List.append_nil, DD, CC, Nat.reduceAdd, Nat.reduceSub, Nat.reduceLeDiff, Nat.reduceLT, Nat.reduceEqDiff, reduceIte, ↓reduceIte, Nat.reduceBEq, g0, g1, g11, addN (show a + o < 4611686018427387904 by omega), xu, xw, lu, lw, w1, w2, dr_stX, w64_nat (show i < 4611686018427387904 by omega)]
      refine hJ (d - 1) _ _ (by omega) ⟨i + 1, z, swp l1 i (a + o), rfl, by omega, by omega, hs.step (by omega) (by omega) (by omega) (by omega), ?_, ?_, ?_, ?_, ?_, ?_⟩ <;> (try simp only [XX, CC, Nat.reduceAdd, Nat.reduceSub, Nat.reduceLeDiff, Nat.reduceLT, Nat.reduceEqDiff, reduceIte, ↓reduceIte, Nat.reduceBEq, g0, g1, g8, g9, g10])
  · simp only [XX, CC, Nat.reduceAdd, Nat.reduceSub, Nat.reduceLeDiff, Nat.reduceLT, Nat.reduceEqDiff, reduceIte, ↓reduceIte, Nat.reduceBEq, g0, g1, g8, g9, g10, g11, q4, m2, a2, w64_nat (show a + q * 2 < 4611686018427387904 by omega), dec_f (show ¬ (i : Int) ≤ ((a + (q * 2 + 1) : Nat) : Int) by omega)]
    exact ret_S (k := fun r t' => ∃ l', t' = A.S O t l' ∧ Sw a b l l') hb rfl ⟨l1, rfl, hs⟩
end
end Go.Ev.So

/-! The sort itself. -/
namespace Go.Ev.So
open Go.Ev
set_option linter.unusedVariables false
set_option linter.unusedSimpArgs false

/-- What lies outside of a' .. b' is in its place. -/
def Outr (f : Nat → Nat) (a b a' b' : Nat) : Prop := Srt f a a' ∧ Srt f b' b ∧ (∀ p q, a ≤ p → p < a' → a' ≤ q → q < b → f p ≤ f q) ∧ ∀ p q, a ≤ p → p < b' → b' ≤ q → q < b → f p ≤ f q
def Pre (f : Nat → Nat) (a b : Nat) : Prop := 0 < a → ∀ k, a ≤ k → k < b → f (a - 1) ≤ f k
theorem Outr.init (f : Nat → Nat) (a b : Nat) : Outr f a b a b := ⟨fun p q h1 h2 h3 => by omega, fun p q h1 h2 h3 => by omega, fun p q h1 h2 h3 h4 => by omega, fun p q h1 h2 h3 h4 => by omega⟩
theorem Outr.pre {f : Nat → Nat} {a b a' b' : Nat} (h : Outr f a b a' b') (hp : Pre f a b) (h1 : a ≤ a') (h2 : b' ≤ b) : Pre f a' b' := by
  intro h0 k k1 k2
  by_cases c : a' = a
  · subst c; exact hp h0 k k1 (by omega)
  · exact h.2.2.1 (a' - 1) k (by omega) (by omega) k1 (by omega)
theorem Outr.done {f : Nat → Nat} {a b a' b' : Nat} (h : Outr f a b a' b') (hs : Srt f a' b') (h1 : a ≤ a') (h2 : a' ≤ b') (h3 : b' ≤ b) : Srt f a b := by
  intro p q k1 k2 k3
  by_cases c1 : q < a'
  · exact h.1 p q k1 k2 c1
  · by_cases c2 : b' ≤ p
    · exact h.2.1 p q c2 k2 k3
    · by_cases c3 : p < a'
      · exact h.2.2.1 p q k1 c3 (by omega) k3
      · by_cases c4 : q < b'
        · exact hs p q (by omega) k2 c4
        · exact h.2.2.2 p q k1 (by omega) (by omega) k3
theorem Outr.eqs {f : Nat → Nat} {a b a' b' m c : Nat} (h : Outr f a b a' b') (h1 : a ≤ a') (h2 : a' < m) (h3 : m ≤ b') (h4 : b' ≤ b) (he : ∀ k, a' ≤ k → k < m → f k = c) (hg : ∀ k, a' ≤ k → k < b' → c ≤ f k) : Outr f a b m b' := by
  refine ⟨fun p q k1 k2 k3 => ?_, h.2.1, fun p q k1 k2 k3 k4 => ?_, h.2.2.2⟩
  · by_cases c1 : q < a'
    · exact h.1 p q k1 k2 c1
    · by_cases c2 : p < a'
      · exact h.2.2.1 p q k1 c2 (by omega) (by omega)
      · rw [he p (by omega) (by omega), he q (by omega) k3]; exact Nat.le_refl _
  · by_cases c2 : p < a'
    · exact h.2.2.1 p q k1 c2 (by omega) k4
    · by_cases c3 : q < b'
      · rw [he p (by omega) k2]; exact hg q (by omega) c3
      · exact h.2.2.2 p q k1 (by omega) (by omega) k4
theorem Outr.left {f : Nat → Nat} {a b a' b' m : Nat} (h : Outr f a b a' b') (h1 : a ≤ a') (h2 : a' ≤ m) (h3 : m < b') (h4 : b' ≤ b) (hs : Srt f a' m) (hl : ∀ k, a' ≤ k → k < m → f k ≤ f m) (hr : ∀ k, m < k → k < b' → f m ≤ f k) : Outr f a b (m + 1) b' := by
  refine ⟨fun p q k1 k2 k3 => ?_, h.2.1, fun p q k1 k2 k3 k4 => ?_, h.2.2.2⟩
  · by_cases c1 : q < a'
    · exact h.1 p q k1 k2 c1
    · by_cases c2 : p < a'
      · exact h.2.2.1 p q k1 c2 (by omega) (by omega)
      · by_cases c3 : q < m
        · exact hs p q (by omega) k2 c3
        · have : q = m := by omega
          subst this
          by_cases c4 : p = q
          · rw [c4]; exact Nat.le_refl _
          · exact hl p (by omega) (by omega)
  · by_cases c2 : p < a'
    · exact h.2.2.1 p q k1 c2 (by omega) k4
    · by_cases c3 : q < b'
      · have a1 := hr q (by omega) c3
        by_cases c4 : p = m
        · rw [c4]; exact a1
        · exact Nat.le_trans (hl p (by omega) (by omega)) a1
      · exact h.2.2.2 p q k1 (by omega) (by omega) k4
theorem Outr.right {f : Nat → Nat} {a b a' b' m : Nat} (h : Outr f a b a' b') (h1 : a ≤ a') (h2 : a' ≤ m) (h3 : m < b') (h4 : b' ≤ b) (hs : Srt f (m + 1) b') (hl : ∀ k, a' ≤ k → k < m → f k ≤ f m) (hr : ∀ k, m < k → k < b' → f m ≤ f k) : Outr f a b a' m := by
  refine ⟨h.1, fun p q k1 k2 k3 => ?_, h.2.2.1, fun p q k1 k2 k3 k4 => ?_⟩
  · by_cases c1 : b' ≤ p
    · exact h.2.1 p q c1 k2 k3
    · by_cases c2 : q < b'
      · by_cases c3 : m < p
        · exact hs p q (by omega) k2 c2
        · have : p = m := by omega
          subst this
          by_cases c4 : p = q
          · rw [c4]; exact Nat.le_refl _
          · exact hr q (by omega) c2
      · exact h.2.2.2 p q (by omega) (by omega) (by omega) k3
  · by_cases c2 : b' ≤ q
    · exact h.2.2.2 p q k1 (by omega) c2 k4
    · by_cases c3 : p < a'
      · exact h.2.2.1 p q k1 c3 (by omega) k4
      · have a1 := hl p (by omega) k2
        by_cases c4 : q = m
        · rw [c4]; exact a1
        · exact Nat.le_trans a1 (hr q (by omega) (by omega))

section
variable {α : Type} {O : SOr α} {A : AR}
theorem Sw.outr {a b a' b' : Nat} {l l' : List α} (h : Sw a' b' l l') (hb : b' ≤ l.length) (h1 : a ≤ a') (h2 : a' ≤ b') (h3 : b' ≤ b) (ho : Outr (K O l) a b a' b') : Outr (K O l') a b a' b' := by
  have out : ∀ k, (k < a' ∨ b' ≤ k) → K O l' k = K O l k := fun k hk => h.out hb hk
  refine ⟨fun p q k1 k2 k3 => ?_, fun p q k1 k2 k3 => ?_, fun p q k1 k2 k3 k4 => ?_, fun p q k1 k2 k3 k4 => ?_⟩
  · rw [out p (by omega), out q (by omega)]; exact ho.1 p q k1 k2 k3
  · rw [out p (by omega), out q (by omega)]; exact ho.2.1 p q k1 k2 k3
  · rw [out p (by omega)]
    by_cases c : q < b'
    · exact h.all (O := O) hb (P := fun z => K O l p ≤ z) (fun k j1 j2 => ho.2.2.1 p k k1 k2 j1 (by omega)) q k3 c
    · rw [out q (by omega)]; exact ho.2.2.1 p q k1 k2 k3 k4
  · rw [out q (by omega)]
    by_cases c : a' ≤ p
    · exact h.all (O := O) hb (P := fun z => z ≤ K O l q) (fun k j1 j2 => ho.2.2.2 k q (by omega) j2 k3 k4) p c k2
    · rw [out p (by omega)]; exact ho.2.2.2 p q k1 k2 k3 k4
theorem Sw.pre {a b : Nat} {l l' : List α} (h : Sw a b l l') (hb : b ≤ l.length) (hp : Pre (K O l) a b) : Pre (K O l') a b := by
  intro h0
  rw [h.out (O := O) hb (k := a - 1) (.inl (by omega))]
  exact h.all (O := O) hb (P := fun z => K O l (a - 1) ≤ z) (hp h0)

def pdB : RC := r_slices_pdqsortOrdered_string.body.p2.p2.p0.p0.p0

set_option maxHeartbeats 4000000 in
theorem q_bal (t : St) (hb : A.bk < t.length) (l : List α) (hl : l.length = A.n) (a b : Nat) (hab : a + 12 < b) (hbn : b ≤ A.n) (lim : Nat) (h0 : lim ≠ 0) (hlim : lim ≤ 64) (wb : Bool) (e : Env) (Q : XE → Env → St → Prop) (g0 : e.get 0 = A.v) (g1 : e.get 1 = .int .i64 a) (g2 : e.get 2 = .int .i64 b) (g4 : e.get 4 = e.get 4) (g3 : e.get 3 = .int .i64 lim) (g10 : e.get 8 = .bool wb)
    (hK : ∀ (l2 : List α) (lim2 : Nat) (e' : Env), Sw a b l l2 → lim2 ≤ 64 → e'.get 0 = e.get 0 → e'.get 1 = e.get 1 → e'.get 2 = e.get 2 → e'.get 4 = e'.get 4 → e'.get 8 = e.get 8 → e'.get 9 = e.get 9 → e'.get 10 = e.get 10 → e'.get 3 = .int .i64 lim2 → Q .nrm e' (A.S O t l2)) : awp (Run T0) pdB.p2.p2.p2.p1 Q e (A.S O t l) := by
  have hw := w64_sub (show 0 < lim by omega) (show lim < 4611686018427387904 by omega)
  cases wb with
  | true =>
    simp only [pdB, r_slices_pdqsortOrdered_string, RC.p1, RC.p2, RC.p0, XX, CC, Nat.reduceAdd, Nat.reduceSub, Nat.reduceLeDiff, Nat.reduceLT, Nat.reduceEqDiff, reduceIte, ↓reduceIte, Nat.reduceBEq, g10, Bool.not_true]
    refine hK l lim _ .refl hlim ?_ ?_ ?_ ?_ ?_ ?_ ?_ ?_ <;> (try simp only [XX, CC, Nat.reduceAdd, Nat.reduceSub, Nat.reduceLeDiff, Nat.reduceLT, Nat.reduceEqDiff, reduceIte, ↓reduceIte, Nat.reduceBEq, g3, g10])
  | false =>
    simp only [pdB, r_slices_pdqsortOrdered_string, RC.p1, RC.p2, RC.p0, XX, CC, Nat.reduceAdd, Nat.reduceSub, Nat.reduceLeDiff, Nat.reduceLT, Nat.reduceEqDiff, reduceIte, ↓reduceIte, Nat.reduceBEq, g0, g1, g2, g4, g10, Bool.not_false]
    refine Run.mono _ _ _ _ _ ?_ (break_r t hb l hl a b hab hbn)
    rintro r t' ⟨l2, rfl, h1⟩
    simp only [XX, CC, Nat.reduceAdd, Nat.reduceSub, Nat.reduceLeDiff, Nat.reduceLT, Nat.reduceEqDiff, reduceIte, ↓reduceIte, Nat.reduceBEq, g3, hw]
    refine hK l2 (lim - 1) _ h1 (by omega) ?_ ?_ ?_ ?_ ?_ ?_ ?_ ?_ <;> (try simp only [XX, CC, Nat.reduceAdd, Nat.reduceSub, Nat.reduceLeDiff, Nat.reduceLT, Nat.reduceEqDiff, reduceIte, ↓reduceIte, Nat.reduceBEq, g0, g1, g2, g4, g10])

set_option maxHeartbeats 4000000 in
theorem q_piv (t : St) (hb : A.bk < t.length) (l : List α) (hl : l.length = A.n) (a b : Nat) (hab : a + 12 < b) (hbn : b ≤ A.n) (e : Env) (Q : XE → Env → St → Prop) (g0 : e.get 0 = A.v) (g1 : e.get 1 = .int .i64 a) (g2 : e.get 2 = .int .i64 b) (g4 : e.get 4 = e.get 4)
    (hK : ∀ (m h : Nat) (e' : Env), a ≤ m → m < b → e'.get 0 = e.get 0 → e'.get 1 = e.get 1 → e'.get 2 = e.get 2 → e'.get 3 = e.get 3 → e'.get 4 = e'.get 4 → e'.get 8 = e.get 8 → e'.get 9 = e.get 9 → e'.get 10 = e.get 10 → e'.get 11 = .int .i64 m → e'.get 12 = .int .i64 h → Q .nrm e' (A.S O t l)) : awp (Run T0) pdB.p2.p2.p2.p2.p1 Q e (A.S O t l) := by
  simp only [pdB, r_slices_pdqsortOrdered_string, RC.p1, RC.p2, RC.p0, XX, CC, Nat.reduceAdd, Nat.reduceSub, Nat.reduceLeDiff, Nat.reduceLT, Nat.reduceEqDiff, reduceIte, ↓reduceIte, Nat.reduceBEq, g0, g1, g2, g4]
  refine Run.mono _ _ _ _ _ ?_ (pivot_r t hb l hl a b hab hbn)
  rintro r t' ⟨m, h, rfl, h1, h2, rfl⟩
  simp only [XX, CC, Nat.reduceAdd, Nat.reduceSub, Nat.reduceLeDiff, Nat.reduceLT, Nat.reduceEqDiff, reduceIte, ↓reduceIte, Nat.reduceBEq]
  refine hK m h _ h1 h2 ?_ ?_ ?_ ?_ ?_ ?_ ?_ ?_ ?_ ?_ <;> (try simp only [XX, CC, Nat.reduceAdd, Nat.reduceSub, Nat.reduceLeDiff, Nat.reduceLT, Nat.reduceEqDiff, reduceIte, ↓reduceIte, Nat.reduceBEq, g0, g1, g2, g4])

set_option maxHeartbeats 4000000 in
theorem q_rev (t : St) (hb : A.bk < t.length) (l : List α) (hl : l.length = A.n) (a b : Nat) (hab : a + 12 < b) (hbn : b ≤ A.n) (m h : Nat) (hm1 : a ≤ m) (hm2 : m < b) (e : Env) (Q : XE → Env → St → Prop) (g0 : e.get 0 = A.v) (g1 : e.get 1 = .int .i64 a) (g2 : e.get 2 = .int .i64 b) (g4 : e.get 4 = e.get 4) (g13 : e.get 11 = .int .i64 m) (g14 : e.get 12 = .int .i64 h)
    (hK : ∀ (l2 : List α) (m h : Nat) (e' : Env), Sw a b l l2 → a ≤ m → m < b → e'.get 0 = e.get 0 → e'.get 1 = e.get 1 → e'.get 2 = e.get 2 → e'.get 3 = e.get 3 → e'.get 4 = e'.get 4 → e'.get 8 = e.get 8 → e'.get 9 = e.get 9 → e'.get 10 = e.get 10 → e'.get 11 = .int .i64 m → e'.get 12 = .int .i64 h → Q .nrm e' (A.S O t l2)) : awp (Run T0) pdB.p2.p2.p2.p2.p2.p1 Q e (A.S O t l) := by
  have hbig := A.big
  by_cases c : h = 2
  · have ec : ((h : Int) == 2) = true := by simp; omega
    have s1 := subN (show a ≤ m by omega) (show m < 4611686018427387904 by omega)
    have s2 := subN (show m - a ≤ b - 1 by omega) (show b - 1 < 4611686018427387904 by omega)
    have s3 := w64_sub (show 0 < b by omega) (show b < 4611686018427387904 by omega)
    simp only [pdB, r_slices_pdqsortOrdered_string, RC.p1, RC.p2, RC.p0, XX, CC, Nat.reduceAdd, Nat.reduceSub, Nat.reduceLeDiff, Nat.reduceLT, Nat.reduceEqDiff, reduceIte, ↓reduceIte, Nat.reduceBEq, g0, g1, g2, g4, g13, g14, ec]
    refine Run.mono _ _ _ _ _ ?_ (reverse_r t hb l hl a b (by omega) hbn)
    rintro r t' ⟨l2, rfl, h1⟩
    simp only [XX, CC, Nat.reduceAdd, Nat.reduceSub, Nat.reduceLeDiff, Nat.reduceLT, Nat.reduceEqDiff, reduceIte, ↓reduceIte, Nat.reduceBEq, g1, g2, g13, s1, s3, s2]
    refine hK l2 (b - 1 - (m - a)) 1 _ h1 (by omega) (by omega) ?_ ?_ ?_ ?_ ?_ ?_ ?_ ?_ ?_ ?_ <;> (try simp only [XX, CC, Nat.reduceAdd, Nat.reduceSub, Nat.reduceLeDiff, Nat.reduceLT, Nat.reduceEqDiff, reduceIte, ↓reduceIte, Nat.reduceBEq, g0, g1, g2, g4])
    rfl
  · have ec : ((h : Int) == 2) = false := by simp; omega
    simp only [pdB, r_slices_pdqsortOrdered_string, RC.p1, RC.p2, RC.p0, XX, CC, Nat.reduceAdd, Nat.reduceSub, Nat.reduceLeDiff, Nat.reduceLT, Nat.reduceEqDiff, reduceIte, ↓reduceIte, Nat.reduceBEq, g14, ec]
    refine hK l m h _ .refl hm1 hm2 ?_ ?_ ?_ ?_ ?_ ?_ ?_ ?_ ?_ ?_ <;> (try simp only [XX, CC, Nat.reduceAdd, Nat.reduceSub, Nat.reduceLeDiff, Nat.reduceLT, Nat.reduceEqDiff, reduceIte, ↓reduceIte, Nat.reduceBEq, g13, g14])

set_option maxHeartbeats 4000000 in
theorem q_part (t : St) (hb : A.bk < t.length) (l : List α) (hl : l.length = A.n) (a b : Nat) (hab : a + 12 < b) (hbn : b ≤ A.n) (hpre : Pre (K O l) a b) (h : Nat) (wb wp : Bool) (e : Env) (Q : XE → Env → St → Prop) (g0 : e.get 0 = A.v) (g1 : e.get 1 = .int .i64 a) (g2 : e.get 2 = .int .i64 b) (g4 : e.get 4 = e.get 4) (g10 : e.get 8 = .bool wb) (g11 : e.get 9 = .bool wp) (g14 : e.get 12 = .int .i64 h)
    (hR : ∀ (l2 : List α) (e' : Env), Sw a b l l2 → Srt (K O l2) a b → Q .ret e' (A.S O t l2))
    (hK : ∀ (l2 : List α) (e' : Env), Sw a b l l2 → e'.get 0 = e.get 0 → e'.get 1 = e.get 1 → e'.get 2 = e.get 2 → e'.get 3 = e.get 3 → e'.get 4 = e'.get 4 → e'.get 8 = e.get 8 → e'.get 9 = e.get 9 → e'.get 10 = e.get 10 → e'.get 11 = e.get 11 → Q .nrm e' (A.S O t l2)) : awp (Run T0) pdB.p2.p2.p2.p2.p2.p2.p1 Q e (A.S O t l) := by
  have call : ∀ e : Env, e.get 0 = A.v → e.get 1 = .int .i64 a → e.get 2 = .int .i64 b → e.get 4 = e.get 4 → True := fun _ _ _ _ _ => trivial
  clear call
  cases wb with
  | false =>
    simp only [pdB, r_slices_pdqsortOrdered_string, RC.p1, RC.p2, RC.p0, XX, CC, Nat.reduceAdd, Nat.reduceSub, Nat.reduceLeDiff, Nat.reduceLT, Nat.reduceEqDiff, reduceIte, ↓reduceIte, Nat.reduceBEq, g10]
    refine hK l _ .refl ?_ ?_ ?_ ?_ ?_ ?_ ?_ ?_ ?_ <;> (try simp only [XX, CC, Nat.reduceAdd, Nat.reduceSub, Nat.reduceLeDiff, Nat.reduceLT, Nat.reduceEqDiff, reduceIte, ↓reduceIte, Nat.reduceBEq, g10])
  | true =>
    cases wp with
    | false =>
      simp only [pdB, r_slices_pdqsortOrdered_string, RC.p1, RC.p2, RC.p0, XX, CC, Nat.reduceAdd, Nat.reduceSub, Nat.reduceLeDiff, Nat.reduceLT, Nat.reduceEqDiff, reduceIte, ↓reduceIte, Nat.reduceBEq, g10, g11]
      refine hK l _ .refl ?_ ?_ ?_ ?_ ?_ ?_ ?_ ?_ ?_ <;> (try simp only [XX, CC, Nat.reduceAdd, Nat.reduceSub, Nat.reduceLeDiff, Nat.reduceLT, Nat.reduceEqDiff, reduceIte, ↓reduceIte, Nat.reduceBEq, g10, g11])
    | true =>
      by_cases c : h = 1
      · have ec : ((h : Int) == 1) = true := by simp; omega
        simp only [pdB, r_slices_pdqsortOrdered_string, RC.p1, RC.p2, RC.p0, XX, CC, Nat.reduceAdd, Nat.reduceSub, Nat.reduceLeDiff, Nat.reduceLT, Nat.reduceEqDiff, reduceIte, ↓reduceIte, Nat.reduceBEq, g0, g1, g2, g4, g10, g11, g14, ec]
        refine Run.mono _ _ _ _ _ ?_ (partial_r t hb l hl a b (by omega) hbn hpre)
        rintro r t' ⟨l2, bl, rfl, rfl, h1, h2⟩
        cases bl with
        | true =>
          simp only [XX, CC, Nat.reduceAdd, Nat.reduceSub, Nat.reduceLeDiff, Nat.reduceLT, Nat.reduceEqDiff, reduceIte, ↓reduceIte, Nat.reduceBEq]
          exact hR l2 _ h1 (h2 rfl)
        | false =>
          simp only [XX, CC, Nat.reduceAdd, Nat.reduceSub, Nat.reduceLeDiff, Nat.reduceLT, Nat.reduceEqDiff, reduceIte, ↓reduceIte, Nat.reduceBEq]
          refine hK l2 _ h1 ?_ ?_ ?_ ?_ ?_ ?_ ?_ ?_ ?_ <;> (try simp only [XX, CC, Nat.reduceAdd, Nat.reduceSub, Nat.reduceLeDiff, Nat.reduceLT, Nat.reduceEqDiff, reduceIte, ↓reduceIte, Nat.reduceBEq, g0, g1, g2, g4, g10, g11])
      · have ec : ((h : Int) == 1) = false := by simp; omega
        simp only [pdB, r_slices_pdqsortOrdered_string, RC.p1, RC.p2, RC.p0, XX, CC, Nat.reduceAdd, Nat.reduceSub, Nat.reduceLeDiff, Nat.reduceLT, Nat.reduceEqDiff, reduceIte, ↓reduceIte, Nat.reduceBEq, g10, g11, g14, ec]
        refine hK l _ .refl ?_ ?_ ?_ ?_ ?_ ?_ ?_ ?_ ?_ <;> (try simp only [XX, CC, Nat.reduceAdd, Nat.reduceSub, Nat.reduceLeDiff, Nat.reduceLT, Nat.reduceEqDiff, reduceIte, ↓reduceIte, Nat.reduceBEq, g10, g11])

set_option maxHeartbeats 4000000 in
theorem q_eq (t : St) (hb : A.bk < t.length) (l : List α) (hl : l.length = A.n) (a b : Nat) (hab : a + 12 < b) (hbn : b ≤ A.n) (hpre : Pre (K O l) a b) (m : Nat) (hm1 : a ≤ m) (hm2 : m < b) (e : Env) (Q : XE → Env → St → Prop) (g0 : e.get 0 = A.v) (g1 : e.get 1 = .int .i64 a) (g2 : e.get 2 = .int .i64 b) (g4 : e.get 4 = e.get 4) (g13 : e.get 11 = .int .i64 m)
    (hE : ∀ (l2 : List α) (i c : Nat) (e' : Env), Sw a b l l2 → a < i → i ≤ b → (∀ k, a ≤ k → k < i → K O l2 k = c) → (∀ k, a ≤ k → k < b → c ≤ K O l2 k) → e'.get 0 = e.get 0 → e'.get 2 = e.get 2 → e'.get 3 = e.get 3 → e'.get 4 = e'.get 4 → e'.get 8 = e.get 8 → e'.get 9 = e.get 9 → e'.get 1 = .int .i64 i → Q (.exit 1) e' (A.S O t l2))
    (hK : ∀ (e' : Env), e'.get 0 = e.get 0 → e'.get 1 = e.get 1 → e'.get 2 = e.get 2 → e'.get 3 = e.get 3 → e'.get 4 = e'.get 4 → e'.get 8 = e.get 8 → e'.get 9 = e.get 9 → e'.get 10 = e.get 10 → e'.get 11 = e.get 11 → Q .nrm e' (A.S O t l)) : awp (Run T0) pdB.p2.p2.p2.p2.p2.p2.p2.p1 Q e (A.S O t l) := by
  have hbig := A.big
  by_cases c0 : 0 < a
  · obtain ⟨u, hu⟩ := at_of (show a - 1 < l.length by omega)
    obtain ⟨w, hw⟩ := at_of (show m < l.length by omega)
    have xu := A.ix (a - 1) (by omega)
    have xw := A.ix m (by omega)
    have lu := S_ld (O := O) (A := A) hb hu
    have lw := S_ld (O := O) (A := A) hb hw
    have ku := K_at (O := O) hu
    have kw := K_at (O := O) hw
    have hw1 := w64_sub c0 (show a < 4611686018427387904 by omega)
    simp only [pdB, r_slices_pdqsortOrdered_string, RC.p1, RC.p2, RC.p0, XX, CC, Nat.reduceAdd, Nat.reduceSub, Nat.reduceLeDiff, Nat.reduceLT, Nat.reduceEqDiff, reduceIte, ↓reduceIte, Nat.reduceBEq]
    refine drw_in [] rfl ?_
    simp only [List.append_nil, DD, CC, Nat.reduceAdd, Nat.reduceSub, Nat.reduceLeDiff, Nat.reduceLT, Nat.reduceEqDiff, reduceIte, ↓reduceIte, Nat.reduceBEq, g0, g1, g4, g13, dec_t (show (a : Int) > 0 by omega), hw1, xw, xu, lu, lw]
    refine dr_callE (O.run _ u w) ?_
    intro e9 he9
    by_cases ck : O.key u < O.key w
    · simp only [DD, CC, Nat.reduceAdd, Nat.reduceSub, Nat.reduceLeDiff, Nat.reduceLT, Nat.reduceEqDiff, reduceIte, ↓reduceIte, Nat.reduceBEq, he9, dec_t ck, Bool.not_true]
      refine hK _ ?_ ?_ ?_ ?_ ?_ ?_ ?_ ?_ ?_ <;> (try simp only [XX, CC, Nat.reduceAdd, Nat.reduceSub, Nat.reduceLeDiff, Nat.reduceLT, Nat.reduceEqDiff, reduceIte, ↓reduceIte, Nat.reduceBEq, g0, g1, g2, g4, g13])
    · simp only [DD, CC, Nat.reduceAdd, Nat.reduceSub, Nat.reduceLeDiff, Nat.reduceLT, Nat.reduceEqDiff, reduceIte, ↓reduceIte, Nat.reduceBEq, he9, dec_f ck, Bool.not_false, g0, g1, g2, g4, g13]
      have hmin : ∀ k, a ≤ k → k < b → K O l m ≤ K O l k := fun k k1 k2 => by
        have := hpre c0 k k1 k2
        rw [ku] at this
        rw [kw]; omega
      refine Run.mono _ _ _ _ _ ?_ (parteq_r t hb l hl a b m (by omega) hbn hm1 hm2 hmin)
      rintro r t' ⟨l2, i, rfl, rfl, h1, h2, h3, h4, h5⟩
      (try simp only [XX, CC, Nat.reduceAdd, Nat.reduceSub, Nat.reduceLeDiff, Nat.reduceLT, Nat.reduceEqDiff, reduceIte, ↓reduceIte, Nat.reduceBEq])
      refine hE l2 i _ _ h1 h2 h3 h4 h5 ?_ ?_ ?_ ?_ ?_ ?_ ?_ <;> (try simp only [XX, CC, Nat.reduceAdd, Nat.reduceSub, Nat.reduceLeDiff, Nat.reduceLT, Nat.reduceEqDiff, reduceIte, ↓reduceIte, Nat.reduceBEq, g0, g1, g2, g4])
  · simp only [pdB, r_slices_pdqsortOrdered_string, RC.p1, RC.p2, RC.p0, XX, CC, Nat.reduceAdd, Nat.reduceSub, Nat.reduceLeDiff, Nat.reduceLT, Nat.reduceEqDiff, reduceIte, ↓reduceIte, Nat.reduceBEq]
    refine drw_in [] rfl ?_
    simp only [List.append_nil, DD, CC, Nat.reduceAdd, Nat.reduceSub, Nat.reduceLeDiff, Nat.reduceLT, Nat.reduceEqDiff, reduceIte, ↓reduceIte, Nat.reduceBEq, g1, dec_f (show ¬ (a : Int) > 0 by omega)]
    refine hK _ ?_ ?_ ?_ ?_ ?_ ?_ ?_ ?_ ?_ <;> (try simp only [XX, CC, Nat.reduceAdd, Nat.reduceSub, Nat.reduceLeDiff, Nat.reduceLT, Nat.reduceEqDiff, reduceIte, ↓reduceIte, Nat.reduceBEq, g1])

set_option maxHeartbeats 4000000 in
theorem q_t4 (t : St) (hb : A.bk < t.length) (l : List α) (hl : l.length = A.n) (a b : Nat) (hab : a + 12 < b) (hbn : b ≤ A.n) (hpre : Pre (K O l) a b) (m lim : Nat) (hm1 : a ≤ m) (hm2 : m < b) (hlim : lim ≤ 64) (e : Env) (Q : XE → Env → St → Prop) (g0 : e.get 0 = A.v) (g1 : e.get 1 = .int .i64 a) (g2 : e.get 2 = .int .i64 b) (g4 : e.get 4 = e.get 4) (g3 : e.get 3 = .int .i64 lim) (g12 : e.get 10 = .int .i64 (b - a : Nat)) (g13 : e.get 11 = .int .i64 m)
    (ih : ∀ (l : List α) (a' b' : Nat), l.length = A.n → b' - a' < b - a → a' ≤ b' → b' ≤ A.n → Pre (K O l) a' b' → Run T0 f_slices_pdqsortOrdered_string [A.v, .int .i64 a', .int .i64 b', .int .i64 lim] (A.S O t l) fun r t' => ∃ l', t' = A.S O t l' ∧ Sw a' b' l l' ∧ Srt (K O l') a' b')
    (hL : ∀ (l2 : List α) (i : Nat) (wb wp : Bool) (e' : Env), Sw a b l l2 → a ≤ i → i < b → Srt (K O l2) a i → (∀ k, a ≤ k → k < i → K O l2 k ≤ K O l2 i) → (∀ k, i < k → k < b → K O l2 i ≤ K O l2 k) → e'.get 0 = e.get 0 → e'.get 2 = e.get 2 → e'.get 3 = e.get 3 → e'.get 4 = e'.get 4 → e'.get 8 = .bool wb → e'.get 9 = .bool wp → e'.get 1 = .int .i64 (i + 1 : Nat) → Q .nrm e' (A.S O t l2))
    (hR : ∀ (l2 : List α) (i : Nat) (wb wp : Bool) (e' : Env), Sw a b l l2 → a ≤ i → i < b → Srt (K O l2) (i + 1) b → (∀ k, a ≤ k → k < i → K O l2 k ≤ K O l2 i) → (∀ k, i < k → k < b → K O l2 i ≤ K O l2 k) → e'.get 0 = e.get 0 → e'.get 1 = e.get 1 → e'.get 3 = e.get 3 → e'.get 4 = e'.get 4 → e'.get 8 = .bool wb → e'.get 9 = .bool wp → e'.get 2 = .int .i64 i → Q .nrm e' (A.S O t l2)) :
    awp (Run T0) pdB.p2.p2.p2.p2.p2.p2.p2.p2 Q e (A.S O t l) := by
  have hbig := A.big
  have q8 : binA .quo (.int .i64 ((b - a : Nat) : Int)) (.int .i64 8) = some (.int .i64 (((b - a) / 8 : Nat) : Int)) := quoN (k := 8) (by omega) (by decide)
  generalize (b - a) / 8 = q at q8
  simp only [pdB, r_slices_pdqsortOrdered_string, RC.p1, RC.p2, RC.p0, XX, CC, Nat.reduceAdd, Nat.reduceSub, Nat.reduceLeDiff, Nat.reduceLT, Nat.reduceEqDiff, reduceIte, ↓reduceIte, Nat.reduceBEq, g0, g1, g2, g4, g13]
  refine Run.mono _ _ _ _ _ ?_ (part_r t hb l hl a b m (by omega) hbn hm1 hm2)
  rintro r t' ⟨l1, i, bl, rfl, rfl, h1, h2, h3, h4, h5⟩
  have hl1 : l1.length = A.n := h1.len.trans hl
  have hp1 := h1.pre (O := O) (by omega) hpre
  have s1 := subN (show a ≤ i by omega) (show i < 4611686018427387904 by omega)
  have s2 := subN (show i ≤ b by omega) (show b < 4611686018427387904 by omega)
  have s3 := w64_nat (show i < 4611686018427387904 by omega)
  by_cases c : i - a < b - i
  · simp only [XX, CC, Nat.reduceAdd, Nat.reduceSub, Nat.reduceLeDiff, Nat.reduceLT, Nat.reduceEqDiff, reduceIte, ↓reduceIte, Nat.reduceBEq, g0, g1, g2, g3, g4, g12, s1, s2, q8, dec_t (show ((i - a : Nat) : Int) < ((b - i : Nat) : Int) by omega)]
    refine Run.mono _ _ _ _ _ ?_ (ih l1 a i hl1 (by omega) h2 (by omega) (fun h0 k k1 k2 => hp1 h0 k k1 (by omega)))
    rintro r t' ⟨l2, rfl, v1, v2⟩
    simp only [XX, CC, Nat.reduceAdd, Nat.reduceSub, Nat.reduceLeDiff, Nat.reduceLT, Nat.reduceEqDiff, reduceIte, ↓reduceIte, Nat.reduceBEq, s3]
    refine hL l2 i (decide (((i - a : Nat) : Int) ≥ (q : Int))) bl _ (h1.trans (v1.mono (Nat.le_refl _) (by omega))) h2 h3 v2 ?_ ?_ ?_ ?_ ?_ ?_ ?_ ?_ ?_ <;> (try simp only [XX, CC, Nat.reduceAdd, Nat.reduceSub, Nat.reduceLeDiff, Nat.reduceLT, Nat.reduceEqDiff, reduceIte, ↓reduceIte, Nat.reduceBEq, g0, g1, g2, g3, g4])
    · intro k k1 k2
      rw [v1.out (O := O) (by omega) (k := i) (.inr (Nat.le_refl _))]
      exact v1.all (O := O) (by omega) (P := fun z => z ≤ K O l1 i) h4 k k1 k2
    · intro k k1 k2
      rw [v1.out (O := O) (by omega) (k := i) (.inr (Nat.le_refl _)), v1.out (O := O) (by omega) (k := k) (.inr (by omega))]
      exact h5 k k1 k2
  · simp only [XX, CC, Nat.reduceAdd, Nat.reduceSub, Nat.reduceLeDiff, Nat.reduceLT, Nat.reduceEqDiff, reduceIte, ↓reduceIte, Nat.reduceBEq, g0, g1, g2, g3, g4, g12, s1, s2, s3, q8, dec_f (show ¬ ((i - a : Nat) : Int) < ((b - i : Nat) : Int) by omega)]
    refine Run.mono _ _ _ _ _ ?_ (ih l1 (i + 1) b hl1 (by omega) (by omega) hbn (fun h0 k k1 k2 => by rw [Nat.add_sub_cancel]; exact h5 k (by omega) k2))
    rintro r t' ⟨l2, rfl, v1, v2⟩
    (try simp only [XX, CC, Nat.reduceAdd, Nat.reduceSub, Nat.reduceLeDiff, Nat.reduceLT, Nat.reduceEqDiff, reduceIte, ↓reduceIte, Nat.reduceBEq])
    refine hR l2 i (decide (((b - i : Nat) : Int) ≥ (q : Int))) bl _ (h1.trans (v1.mono (by omega) (Nat.le_refl _))) h2 h3 v2 ?_ ?_ ?_ ?_ ?_ ?_ ?_ ?_ ?_ <;> (try simp only [XX, CC, Nat.reduceAdd, Nat.reduceSub, Nat.reduceLeDiff, Nat.reduceLT, Nat.reduceEqDiff, reduceIte, ↓reduceIte, Nat.reduceBEq, g0, g1, g2, g3, g4])
    · intro k k1 k2
      rw [v1.out (O := O) (by omega) (k := i) (.inl (by omega)), v1.out (O := O) (by omega) (k := k) (.inl (by omega))]
      exact h4 k k1 k2
    · intro k k1 k2
      rw [v1.out (O := O) (by omega) (k := i) (.inl (by omega))]
      exact v1.all (O := O) (by omega) (P := fun z => K O l1 i ≤ z) (fun k j1 j2 => h5 k (by omega) j2) k (by omega) k2
end
end Go.Ev.So

/-! slices.SortFunc. -/
namespace Go.Ev.So
open Go.Ev
set_option linter.unusedVariables false
set_option linter.unusedSimpArgs false

section
variable {α : Type} {O : SOr α} {A : AR}
set_option maxHeartbeats 4000000 in
theorem pdq_r (t : St) (hb : A.bk < t.length) : ∀ (d : Nat) (l : List α) (a b lim : Nat), b - a ≤ d → l.length = A.n → a ≤ b → b ≤ A.n → lim ≤ 64 → Pre (K O l) a b →
    Run T0 f_slices_pdqsortOrdered_string [A.v, .int .i64 a, .int .i64 b, .int .i64 lim] (A.S O t l) fun r t' => ∃ l', t' = A.S O t l' ∧ Sw a b l l' ∧ Srt (K O l') a b := by
  intro d
  induction d using Nat.strongRecOn with
  | ind d ih =>
  intro l a b lim hd hl hab hbn hlim hpre
  have hbig := A.big
  refine run_body (F := r_slices_pdqsortOrdered_string) rfl (by simp [r_slices_pdqsortOrdered_string]) ?_
  obtain ⟨L3, h3⟩ : ∃ c, c = pdB.p2.p2.p2.p1 := ⟨_, rfl⟩
  obtain ⟨L4, h4⟩ : ∃ c, c = pdB.p2.p2.p2.p2.p1 := ⟨_, rfl⟩
  obtain ⟨L5, h5⟩ : ∃ c, c = pdB.p2.p2.p2.p2.p2.p1 := ⟨_, rfl⟩
  obtain ⟨L6, h6⟩ : ∃ c, c = pdB.p2.p2.p2.p2.p2.p2.p1 := ⟨_, rfl⟩
  obtain ⟨L7, h7⟩ : ∃ c, c = pdB.p2.p2.p2.p2.p2.p2.p2.p1 := ⟨_, rfl⟩
  obtain ⟨L8, h8⟩ : ∃ c, c = pdB.p2.p2.p2.p2.p2.p2.p2.p2 := ⟨_, rfl⟩
  have k3 := @q_bal α O A t hb
  have k4 := @q_piv α O A t hb
  have k5 := @q_rev α O A t hb
  have k6 := @q_part α O A t hb
  have k7 := @q_eq α O A t hb
  have k8 := @q_t4 α O A t hb
  rw [← h3] at k3
  rw [← h4] at k4
  rw [← h5] at k5
  rw [← h6] at k6
  rw [← h7] at k7
  rw [← h8] at k8
  rw [show r_slices_pdqsortOrdered_string.body = (let b := r_slices_pdqsortOrdered_string.body; .seq b.p1 (.seq b.p2.p1 (.block 0 (.loop (.block 1 (.seq pdB.p1 (.seq pdB.p2.p1 (.seq pdB.p2.p2.p1 (.seq L3 (.seq L4 (.seq L5 (.seq L6 (.seq L7 L8))))))))))))) by rw [h3, h4, h5, h6, h7, h8]; rfl]
  clear h3 h4 h5 h6 h7 h8
  simp only [pdB, r_slices_pdqsortOrdered_string, RC.p1, RC.p2, RC.p0, XX, CC, Nat.reduceAdd, Nat.reduceSub, Nat.reduceLeDiff, Nat.reduceLT, Nat.reduceEqDiff, reduceIte, ↓reduceIte, Nat.reduceBEq]
  refine awp_rounds (fun d' e1 s => ∃ (a' b' lim' : Nat) (l1 : List α) (wb wp : Bool), s = A.S O t l1 ∧ d' = b' - a' ∧ a ≤ a' ∧ a' ≤ b' ∧ b' ≤ b ∧ lim' ≤ 64 ∧ Sw a b l l1 ∧ Outr (K O l1) a b a' b' ∧
    e1.get 0 = A.v ∧ e1.get 1 = .int .i64 a' ∧ e1.get 2 = .int .i64 b' ∧ e1.get 3 = .int .i64 lim' ∧ e1.get 4 = e1.get 4 ∧ e1.get 8 = .bool wb ∧ e1.get 9 = .bool wp) (b - a) ?_ ?_
  · refine ⟨a, b, lim, l, true, true, rfl, rfl, by omega, hab, by omega, hlim, .refl, .init _ _ _, ?_, ?_, ?_, ?_, ?_, ?_, ?_⟩ <;> (try simp only [XX, CC, Nat.reduceAdd, Nat.reduceSub, Nat.reduceLeDiff, Nat.reduceLT, Nat.reduceEqDiff, reduceIte, ↓reduceIte, Nat.reduceBEq])
  rintro J d' e s hJ ⟨a', b', lim', l1, wb, wp, rfl, hd', ha', hab', hb', hlim', hs, ho, g0, g1, g2, g3, g4, g10, g11⟩
  have hl1 : l1.length = A.n := hs.len.trans hl
  have hpre1 : Pre (K O l1) a b := hs.pre (by omega) hpre
  have hsub := subN (show a' ≤ b' by omega) (show b' < 4611686018427387904 by omega)
  by_cases c12 : b' - a' ≤ 12
  · simp only [XX, CC, Nat.reduceAdd, Nat.reduceSub, Nat.reduceLeDiff, Nat.reduceLT, Nat.reduceEqDiff, reduceIte, ↓reduceIte, Nat.reduceBEq, g0, g1, g2, g3, g4, hsub, dec_t (show ((b' - a' : Nat) : Int) ≤ 12 by omega)]
    refine Run.mono _ _ _ _ _ ?_ (insert_r t hb l1 hl1 a' b' (by omega) (by omega))
    rintro r t' ⟨l2, rfl, v1, v2⟩
    (try simp only [XX, CC, Nat.reduceAdd, Nat.reduceSub, Nat.reduceLeDiff, Nat.reduceLT, Nat.reduceEqDiff, reduceIte, ↓reduceIte, Nat.reduceBEq])
    exact .inl ⟨l2, rfl, hs.trans (v1.mono ha' hb'), (v1.outr (by omega) ha' hab' hb' ho).done v2 ha' hab' hb'⟩
  by_cases c0 : lim' = 0
  · have ec : ((lim' : Int) == 0) = true := by simp; omega
    simp only [XX, CC, Nat.reduceAdd, Nat.reduceSub, Nat.reduceLeDiff, Nat.reduceLT, Nat.reduceEqDiff, reduceIte, ↓reduceIte, Nat.reduceBEq, g0, g1, g2, g3, g4, hsub, dec_f (show ¬ ((b' - a' : Nat) : Int) ≤ 12 by omega), ec]
    refine Run.mono _ _ _ _ _ ?_ (heap_r t hb l1 hl1 a' b' (by omega) (by omega))
    rintro r t' ⟨l2, rfl, v1, v2⟩
    (try simp only [XX, CC, Nat.reduceAdd, Nat.reduceSub, Nat.reduceLeDiff, Nat.reduceLT, Nat.reduceEqDiff, reduceIte, ↓reduceIte, Nat.reduceBEq])
    exact .inl ⟨l2, rfl, hs.trans (v1.mono ha' hb'), (v1.outr (by omega) ha' hab' hb' ho).done v2 ha' hab' hb'⟩
  have ec : ((lim' : Int) == 0) = false := by simp; omega
  simp only [XX, CC, Nat.reduceAdd, Nat.reduceSub, Nat.reduceLeDiff, Nat.reduceLT, Nat.reduceEqDiff, reduceIte, ↓reduceIte, Nat.reduceBEq, g0, g1, g2, g3, g4, hsub, dec_f (show ¬ ((b' - a' : Nat) : Int) ≤ 12 by omega), ec]
  have hab12 : a' + 12 < b' := by omega
  have hbn' : b' ≤ A.n := by omega
  refine k3 l1 hl1 a' b' hab12 hbn' lim' c0 hlim' wb _ _ ?_ ?_ ?_ ?_ ?_ ?_ ?_ <;> (try simp only [XX, CC, Nat.reduceAdd, Nat.reduceSub, Nat.reduceLeDiff, Nat.reduceLT, Nat.reduceEqDiff, reduceIte, ↓reduceIte, Nat.reduceBEq, g0, g1, g2, g3, g4, g10])
  intro l2 lim2 e2 v1 hl2 y0 y1 y2 y4 y10 y11 y12 y3
  (try rw [g11] at y11)
  have hs2 := hs.trans (v1.mono ha' hb')
  have ho2 := v1.outr (by omega) ha' hab' hb' ho
  have ll2 : l2.length = A.n := v1.len.trans hl1
  clear v1 hs ho hl1 hpre1 c0 ec g0 g1 g2 g3 g4 g10 g11 hlim'
  (try simp only [XX, CC, Nat.reduceAdd, Nat.reduceSub, Nat.reduceLeDiff, Nat.reduceLT, Nat.reduceEqDiff, reduceIte, ↓reduceIte, Nat.reduceBEq])
  refine k4 l2 ll2 a' b' hab12 hbn' e2 _ y0 y1 y2 rfl ?_
  intro m h e3 hm1 hm2 z0 z1 z2 z3 z4 z10 z11 z12 z13 z14
  (try rw [y0] at z0); (try rw [y1] at z1); (try rw [y2] at z2); (try rw [y3] at z3); (try rw [y4] at z4); (try rw [y10] at z10); (try rw [y11] at z11); (try rw [y12] at z12)
  clear y0 y1 y2 y3 y4 y10 y11 y12
  (try simp only [XX, CC, Nat.reduceAdd, Nat.reduceSub, Nat.reduceLeDiff, Nat.reduceLT, Nat.reduceEqDiff, reduceIte, ↓reduceIte, Nat.reduceBEq])
  refine k5 l2 ll2 a' b' hab12 hbn' m h hm1 hm2 e3 _ z0 z1 z2 rfl z13 z14 ?_
  intro l3 m2 h2 e4 v1 hm1 hm2 y0 y1 y2 y3 y4 y10 y11 y12 y13 y14
  (try rw [z0] at y0); (try rw [z1] at y1); (try rw [z2] at y2); (try rw [z3] at y3); (try rw [z4] at y4); (try rw [z10] at y10); (try rw [z11] at y11); (try rw [z12] at y12)
  clear z0 z1 z2 z3 z4 z10 z11 z12 z13 z14
  have hs3 := hs2.trans (v1.mono ha' hb')
  have ho3 := v1.outr (by omega) ha' hab' hb' ho2
  have ll3 : l3.length = A.n := v1.len.trans ll2
  clear v1 hs2 ho2 ll2
  have hpre3 := ho3.pre (hs3.pre (by omega) hpre) ha' hb'
  (try simp only [XX, CC, Nat.reduceAdd, Nat.reduceSub, Nat.reduceLeDiff, Nat.reduceLT, Nat.reduceEqDiff, reduceIte, ↓reduceIte, Nat.reduceBEq])
  refine k6 l3 ll3 a' b' hab12 hbn' hpre3 h2 wb wp e4 _ y0 y1 y2 rfl y10 y11 y14 ?_ ?_
  · intro l4 e5 v1 v2
    (try simp only [XX, CC, Nat.reduceAdd, Nat.reduceSub, Nat.reduceLeDiff, Nat.reduceLT, Nat.reduceEqDiff, reduceIte, ↓reduceIte, Nat.reduceBEq])
    exact .inl ⟨l4, rfl, hs3.trans (v1.mono ha' hb'), (v1.outr (by omega) ha' hab' hb' ho3).done v2 ha' hab' hb'⟩
  intro l4 e5 v1 z0 z1 z2 z3 z4 z10 z11 z12 z13
  (try rw [y0] at z0); (try rw [y1] at z1); (try rw [y2] at z2); (try rw [y3] at z3); (try rw [y4] at z4); (try rw [y10] at z10); (try rw [y11] at z11); (try rw [y12] at z12); (try rw [y13] at z13)
  clear y0 y1 y2 y3 y4 y10 y11 y12 y13 y14
  have hs4 := hs3.trans (v1.mono ha' hb')
  have ho4 := v1.outr (by omega) ha' hab' hb' ho3
  have ll4 : l4.length = A.n := v1.len.trans ll3
  clear v1 hs3 ho3 ll3 hpre3
  have hpre4 := ho4.pre (hs4.pre (by omega) hpre) ha' hb'
  (try simp only [XX, CC, Nat.reduceAdd, Nat.reduceSub, Nat.reduceLeDiff, Nat.reduceLT, Nat.reduceEqDiff, reduceIte, ↓reduceIte, Nat.reduceBEq])
  refine k7 l4 ll4 a' b' hab12 hbn' hpre4 m2 hm1 hm2 e5 _ z0 z1 z2 rfl z13 ?_ ?_
  · intro l5 i c e6 v1 i1 i2 v2 v3 y0 y2 y3 y4 y10 y11 y1
    (try rw [z0] at y0); (try rw [z2] at y2); (try rw [z3] at y3); (try rw [z4] at y4); (try rw [z10] at y10); (try rw [z11] at y11)
    (try simp only [XX, CC, Nat.reduceAdd, Nat.reduceSub, Nat.reduceLeDiff, Nat.reduceLT, Nat.reduceEqDiff, reduceIte, ↓reduceIte, Nat.reduceBEq])
    exact hJ (b' - i) _ _ (by omega) ⟨i, b', lim2, l5, wb, wp, rfl, rfl, by omega, i2, hb', hl2, hs4.trans (v1.mono ha' hb'), (v1.outr (by omega) ha' hab' hb' ho4).eqs ha' i1 i2 hb' v2 v3, y0, y1, y2, y3, y4, y10, y11⟩
  intro e6 y0 y1 y2 y3 y4 y10 y11 y12 y13
  (try rw [z0] at y0); (try rw [z1] at y1); (try rw [z2] at y2); (try rw [z3] at y3); (try rw [z4] at y4); (try rw [z10] at y10); (try rw [z11] at y11); (try rw [z12] at y12); (try rw [z13] at y13)
  clear z0 z1 z2 z3 z4 z10 z11 z12 z13
  (try simp only [XX, CC, Nat.reduceAdd, Nat.reduceSub, Nat.reduceLeDiff, Nat.reduceLT, Nat.reduceEqDiff, reduceIte, ↓reduceIte, Nat.reduceBEq])
  refine k8 l4 ll4 a' b' hab12 hbn' hpre4 m2 lim2 hm1 hm2 hl2 e6 _ y0 y1 y2 rfl y3 (by rw [y12]; (try simp only [XX, CC, Nat.reduceAdd, Nat.reduceSub, Nat.reduceLeDiff, Nat.reduceLT, Nat.reduceEqDiff, reduceIte, ↓reduceIte, Nat.reduceBEq])) y13 ?_ ?_ ?_
  · intro l5 a2 b2 x1 x2 x3 x4 x5
    exact ih (b2 - a2) (by omega) l5 a2 b2 lim2 (Nat.le_refl _) x1 x3 x4 hl2 x5
  · intro l5 i wb2 wp2 e7 v1 i1 i2 v2 v3 v4 z0 z2 z3 z4 z10 z11 z1
    (try rw [y0] at z0); (try rw [y2] at z2); (try rw [y3] at z3); (try rw [y4] at z4)
    (try simp only [XX, CC, Nat.reduceAdd, Nat.reduceSub, Nat.reduceLeDiff, Nat.reduceLT, Nat.reduceEqDiff, reduceIte, ↓reduceIte, Nat.reduceBEq])
    exact hJ (b' - (i + 1)) _ _ (by omega) ⟨i + 1, b', lim2, l5, wb2, wp2, rfl, rfl, by omega, by omega, hb', hl2, hs4.trans (v1.mono ha' hb'), (v1.outr (by omega) ha' hab' hb' ho4).left ha' i1 i2 hb' v2 v3 v4, z0, z1, z2, z3, z4, z10, z11⟩
  · intro l5 i wb2 wp2 e7 v1 i1 i2 v2 v3 v4 z0 z1 z3 z4 z10 z11 z2
    (try rw [y0] at z0); (try rw [y1] at z1); (try rw [y3] at z3); (try rw [y4] at z4)
    (try simp only [XX, CC, Nat.reduceAdd, Nat.reduceSub, Nat.reduceLeDiff, Nat.reduceLT, Nat.reduceEqDiff, reduceIte, ↓reduceIte, Nat.reduceBEq])
    exact hJ (i - a') _ _ (by omega) ⟨a', i, lim2, l5, wb2, wp2, rfl, rfl, by omega, by omega, by omega, hl2, hs4.trans (v1.mono ha' hb'), (v1.outr (by omega) ha' hab' hb' ho4).right ha' i1 i2 hb' v2 v3 v4, z0, z1, z2, z3, z4, z10, z11⟩

set_option maxHeartbeats 4000000 in
/-- slices.SortFunc -/
theorem sort_r (t : St) (hb : A.bk < t.length) (hlen : lenlA A.v = some (.int .i64 A.n)) (l : List α) (hl : l.length = A.n) :
    Run T0 f_slices_Sort_string [A.v] (A.S O t l) fun r t' => ∃ l', t' = A.S O t l' ∧ l'.Perm l ∧ Srt (K O l') 0 A.n := by
  have hbig := A.big
  refine run_body (F := r_slices_Sort_string) rfl (by simp [r_slices_Sort_string]) ?_
  have hw : IntKind.u64.wrap (A.n : Int) = (A.n : Int) := by rw [wu64]; omega
  simp only [r_slices_Sort_string, XX, CC, Nat.reduceAdd, Nat.reduceSub, Nat.reduceLeDiff, Nat.reduceLT, Nat.reduceEqDiff, reduceIte, ↓reduceIte, Nat.reduceBEq, hlen, Go.Ev.op_cvi, Go.Ev.cvi_int, hw]
  refine Run.mono _ _ _ _ _ ?_ (bitslen2_r (A.S O t l) A.n (by omega))
  rintro a t' ⟨k, rfl, rfl, hk, _, _⟩
  (try simp only [XX, CC, Nat.reduceAdd, Nat.reduceSub, Nat.reduceLeDiff, Nat.reduceLT, Nat.reduceEqDiff, reduceIte, ↓reduceIte, Nat.reduceBEq])
  refine Run.mono _ _ _ _ _ ?_ (pdq_r t hb A.n l 0 A.n k (by omega) hl (by omega) (Nat.le_refl _) hk (fun h => by omega))
  rintro r t' ⟨l', rfl, v1, v2⟩
  (try simp only [XX, CC, Nat.reduceAdd, Nat.reduceSub, Nat.reduceLeDiff, Nat.reduceLT, Nat.reduceEqDiff, reduceIte, ↓reduceIte, Nat.reduceBEq])
  exact .inl ⟨l', rfl, v1.perm (by omega), v2⟩
set_option maxHeartbeats 4000000 in
/-- of nothing -/
theorem sort_nil (t : St) (fc : Nat) : Run T0 f_slices_Sort_string [.nils] t fun r t' => t' = t := by
  refine run_body (F := r_slices_Sort_string) rfl (by simp [r_slices_Sort_string]) ?_
  have hw : IntKind.u64.wrap 0 = 0 := by decide
  simp only [r_slices_Sort_string, XX, CC, Nat.reduceAdd, Nat.reduceSub, Nat.reduceLeDiff, Nat.reduceLT, Nat.reduceEqDiff, reduceIte, ↓reduceIte, Nat.reduceBEq, Go.Ev.op_cvi, Go.Ev.cvi_int, hw]
  refine Run.mono _ _ _ _ _ ?_ (bitslen2_r t 0 (by decide))
  rintro a t' ⟨k, rfl, rfl, hk, _, _⟩
  (try simp only [XX, CC, Nat.reduceAdd, Nat.reduceSub, Nat.reduceLeDiff, Nat.reduceLT, Nat.reduceEqDiff, reduceIte, ↓reduceIte, Nat.reduceBEq])
  refine Run.mono _ _ _ _ _ ?_ (?_ : Run T0 f_slices_pdqsortOrdered_string [.nils, .int .i64 0, .int .i64 0, .int .i64 k] t' fun r t => t = t')
  · rintro a t rfl
    (try simp only [XX, CC, Nat.reduceAdd, Nat.reduceSub, Nat.reduceLeDiff, Nat.reduceLT, Nat.reduceEqDiff, reduceIte, ↓reduceIte, Nat.reduceBEq])
    exact .inl rfl
  refine run_body (F := r_slices_pdqsortOrdered_string) rfl (by simp [r_slices_pdqsortOrdered_string]) ?_
  have k2 : IntKind.i64.wrap (0 - 0) = 0 := by decide
  have d1 : decide ((0 : Int) ≤ 12) = true := by decide
  simp only [r_slices_pdqsortOrdered_string, XX, CC, Nat.reduceAdd, Nat.reduceSub, Nat.reduceLeDiff, Nat.reduceLT, Nat.reduceEqDiff, reduceIte, ↓reduceIte, Nat.reduceBEq]
  refine awp_rounds (fun d e s => s = t' ∧ e.get 0 = .nils ∧ e.get 1 = .int .i64 0 ∧ e.get 2 = .int .i64 0 ∧ e.get 4 = e.get 4) 0 ?_ ?_
  · refine ⟨rfl, ?_, ?_, ?_, ?_⟩ <;> (try simp only [XX, CC, Nat.reduceAdd, Nat.reduceSub, Nat.reduceLeDiff, Nat.reduceLT, Nat.reduceEqDiff, reduceIte, ↓reduceIte, Nat.reduceBEq])
  rintro J d e s hJ ⟨rfl, g0, g1, g2, g4⟩
  simp only [XX, CC, Nat.reduceAdd, Nat.reduceSub, Nat.reduceLeDiff, Nat.reduceLT, Nat.reduceEqDiff, reduceIte, ↓reduceIte, Nat.reduceBEq, g0, g1, g2, g4, k2, d1]
  refine Run.mono _ _ _ _ _ ?_ (?_ : Run T0 f_slices_insertionSortOrdered_string [.nils, .int .i64 0, .int .i64 0] s fun r t => t = s)
  · rintro a t rfl
    (try simp only [XX, CC, Nat.reduceAdd, Nat.reduceSub, Nat.reduceLeDiff, Nat.reduceLT, Nat.reduceEqDiff, reduceIte, ↓reduceIte, Nat.reduceBEq])
    exact .inl rfl
  refine run_body (F := r_slices_insertionSortOrdered_string) rfl (by simp [r_slices_insertionSortOrdered_string]) ?_
  have k3 : IntKind.i64.wrap (0 + 1) = 1 := by decide
  have d2 : decide ((1 : Int) < 0) = false := by decide
  simp only [r_slices_insertionSortOrdered_string, XX, CC, Nat.reduceAdd, Nat.reduceSub, Nat.reduceLeDiff, Nat.reduceLT, Nat.reduceEqDiff, reduceIte, ↓reduceIte, Nat.reduceBEq, k3]
  refine awp_rounds (fun d e s' => s' = s ∧ e.get 6 = .int .i64 1 ∧ e.get 2 = .int .i64 0) 0 ?_ ?_
  · refine ⟨rfl, ?_, ?_⟩ <;> (try simp only [XX, CC, Nat.reduceAdd, Nat.reduceSub, Nat.reduceLeDiff, Nat.reduceLT, Nat.reduceEqDiff, reduceIte, ↓reduceIte, Nat.reduceBEq])
  rintro J d e s' hJ ⟨rfl, g8, g2⟩
  simp only [XX, CC, Nat.reduceAdd, Nat.reduceSub, Nat.reduceLeDiff, Nat.reduceLT, Nat.reduceEqDiff, reduceIte, ↓reduceIte, Nat.reduceBEq, g8, g2, d2]
  exact .inl rfl
end
end Go.Ev.So

/-! Names in their order: numbers of names, sorts of names. -/
namespace Go.Ev
set_option linter.unusedVariables false
set_option linter.unusedSimpArgs false
open Go.Ev.So

def keyN : Nat → List UInt8 → Nat
  | 0, _ => 0
  | _ + 1, [] => 0
  | n + 1, b :: l => (b.toNat + 1) * 257 ^ n + keyN n l
theorem keyN_lt : ∀ (n : Nat) (l : List UInt8), keyN n l < 257 ^ n
  | 0, l => by simp [keyN]
  | n + 1, [] => by simp [keyN]; exact Nat.pow_pos (by decide)
  | n + 1, b :: l => by
    have h1 := keyN_lt n l
    have h2 := b.toNat_lt
    have h3 : (b.toNat + 1) * 257 ^ n ≤ 256 * 257 ^ n := Nat.mul_le_mul_right _ (by omega)
    simp only [keyN]
    rw [Nat.pow_succ]
    omega
theorem keyN_less : ∀ (n : Nat) (l m : List UInt8), l.length ≤ n → m.length ≤ n → (Op.bytesLess l m = true ↔ keyN n l < keyN n m)
  | 0, l, m, h1, h2 => by
    have e1 : l = [] := List.length_eq_zero_iff.1 (by omega)
    have e2 : m = [] := List.length_eq_zero_iff.1 (by omega)
    subst e1; subst e2
    simp [Op.bytesLess, keyN]
  | n + 1, [], [], _, _ => by simp [Op.bytesLess, keyN]
  | n + 1, [], b :: m, _, _ => by
    have : 0 < (b.toNat + 1) * 257 ^ n := Nat.mul_pos (by omega) (Nat.pow_pos (by decide))
    simp only [Op.bytesLess, keyN, true_iff]
    omega
  | n + 1, a :: l, [], _, _ => by simp [Op.bytesLess, keyN]
  | n + 1, a :: l, b :: m, h1, h2 => by
    have ih := keyN_less n l m (by simpa using h1) (by simpa using h2)
    have k1 := keyN_lt n l
    have k2 := keyN_lt n m
    simp only [Op.bytesLess, keyN, Bool.or_eq_true, Bool.and_eq_true, decide_eq_true_eq, beq_iff_eq, ih]
    have hlt : a < b ↔ a.toNat < b.toNat := UInt8.lt_iff_toNat_lt
    rw [hlt]
    by_cases c : a.toNat < b.toNat
    · have : (a.toNat + 1 + 1) * 257 ^ n ≤ (b.toNat + 1) * 257 ^ n := Nat.mul_le_mul_right _ (by omega)
      rw [Nat.succ_mul] at this
      constructor
      · intro _; omega
      · intro _; exact .inl c
    · by_cases c2 : a = b
      · subst c2
        constructor
        · rintro (h | ⟨_, h⟩)
          · exact absurd h c
          · omega
        · intro h; exact .inr ⟨rfl, by omega⟩
      · have c3 : b.toNat < a.toNat := by
          have : a.toNat ≠ b.toNat := fun e => c2 (UInt8.toNat_inj.1 e)
          omega
        have : (b.toNat + 1 + 1) * 257 ^ n ≤ (a.toNat + 1) * 257 ^ n := Nat.mul_le_mul_right _ (by omega)
        rw [Nat.succ_mul] at this
        constructor
        · rintro (h | ⟨h, _⟩)
          · exact absurd h c
          · exact absurd h c2
        · intro h; omega
theorem keyN_inj : ∀ (n : Nat) (l m : List UInt8), l.length ≤ n → m.length ≤ n → keyN n l = keyN n m → l = m
  | 0, l, m, h1, h2, _ => by rw [List.length_eq_zero_iff.1 (show l.length = 0 by omega), List.length_eq_zero_iff.1 (show m.length = 0 by omega)]
  | n + 1, [], [], _, _, _ => rfl
  | n + 1, [], b :: m, _, _, h => by
    have : 0 < (b.toNat + 1) * 257 ^ n := Nat.mul_pos (by omega) (Nat.pow_pos (by decide))
    simp only [keyN] at h; omega
  | n + 1, a :: l, [], _, _, h => by
    have : 0 < (a.toNat + 1) * 257 ^ n := Nat.mul_pos (by omega) (Nat.pow_pos (by decide))
    simp only [keyN] at h; omega
  | n + 1, a :: l, b :: m, h1, h2, h => by
    have k1 := keyN_lt n l
    have k2 := keyN_lt n m
    simp only [keyN] at h
    have e : a.toNat = b.toNat := by
      rcases Nat.lt_trichotomy a.toNat b.toNat with c | c | c
      · have : (a.toNat + 1 + 1) * 257 ^ n ≤ (b.toNat + 1) * 257 ^ n := Nat.mul_le_mul_right _ (by omega)
        rw [Nat.succ_mul] at this; omega
      · exact c
      · have : (b.toNat + 1 + 1) * 257 ^ n ≤ (a.toNat + 1) * 257 ^ n := Nat.mul_le_mul_right _ (by omega)
        rw [Nat.succ_mul] at this; omega
    rw [e] at h
    rw [UInt8.toNat_inj.1 e, keyN_inj n l m (by simpa using h1) (by simpa using h2) (by omega)]
def kS (a : ByteArray) : Nat := keyN 32 a.toList
abbrev Nm := { s : ByteArray // s.size ≤ 32 }
theorem nm_len (x : Nm) : x.1.toList.length ≤ 32 := by rw [ByteArray.toList_eq]; exact x.2
theorem isnan_r (t : St) (a : ByteArray) : RunD T0 f_cmp_isNaN_string [.str a] t (.bool false) t := by
  refine run_body (F := r_cmp_isNaN_string) rfl (by simp [r_cmp_isNaN_string]) ?_
  have e : eqA .s (.str a) (.str a) = some true := by simp [eqA]
  simp only [r_cmp_isNaN_string, XX, CC, YY, Nat.reduceAdd, Nat.reduceSub, Nat.reduceLeDiff, Nat.reduceLT, Nat.reduceEqDiff, reduceIte, ↓reduceIte, Nat.reduceBEq, e]
  exact .inl ⟨rfl, rfl⟩
theorem less_r (t : St) (a b : ByteArray) : RunD T0 f_cmp_Less_string [.str a, .str b] t (.bool (Op.bytesLess a.toList b.toList)) t := by
  refine run_body (F := r_cmp_Less_string) rfl (by simp [r_cmp_Less_string]) ?_
  have e : binA .lss (.str a) (.str b) = some (.bool (Op.bytesLess a.toList b.toList)) := rfl
  simp only [r_cmp_Less_string, XX, CC, YY, Nat.reduceAdd, Nat.reduceSub, Nat.reduceLeDiff, Nat.reduceLT, Nat.reduceEqDiff, reduceIte, ↓reduceIte, Nat.reduceBEq]
  refine (isnan_r t a).use ?_
  simp only [XX, CC, YY, Nat.reduceAdd, Nat.reduceSub, Nat.reduceLeDiff, Nat.reduceLT, Nat.reduceEqDiff, reduceIte, ↓reduceIte, Nat.reduceBEq, e]
  exact .inl ⟨rfl, rfl⟩
def onNm : SOr Nm where
  val x := .str x.1
  key x := kS x.1
  cell1 _ := rfl
  un1 _ := rfl
  run t x y := by
    have h := less_r t x.1 y.1
    have e : Op.bytesLess x.1.toList y.1.toList = decide (kS x.1 < kS y.1) := by
      rw [Bool.eq_iff_iff, decide_eq_true_iff]
      exact keyN_less 32 _ _ (nm_len x) (nm_len y)
    rw [e] at h
    exact h
/-- rising -/
def Ris (l : List ByteArray) : Prop := l.Pairwise fun a b => kS a < kS b
theorem ris_uniq : ∀ {l m : List ByteArray}, Ris l → Ris m → l.Perm m → l = m
  | [], m, _, _, h => h.symm.eq_nil.symm
  | x :: l, m, hl, hm, h => by
    cases m with
    | nil => exact absurd h.length_eq (by simp)
    | cons y m =>
      have hl' := List.pairwise_cons.1 hl
      have hm' := List.pairwise_cons.1 hm
      have e : x = y := by
        rcases List.mem_cons.1 (h.mem_iff.1 (List.mem_cons_self ..)) with e | e
        · exact e
        · rcases List.mem_cons.1 (h.mem_iff.2 (List.mem_cons_self ..)) with e2 | e2
          · exact e2.symm
          · have h1 := hm'.1 x e
            have h2 := hl'.1 y e2
            omega
      subst e
      rw [ris_uniq hl'.2 hm'.2 ((List.perm_cons x).1 h)]
end Go.Ev

/-! slices.Sorted of a map's keys. -/
namespace Go.Ev
set_option linter.unusedVariables false
set_option linter.unusedSimpArgs false
open Go.Ev.So Go.Proofs

/-- the names among a map's keys -/
def keysOf : List (AV × AV × Nat) → List ByteArray
  | [] => []
  | (.str n, _, _) :: es => n :: keysOf es
  | _ :: es => keysOf es
/-- The iterator's map. -/
structure KeyA (s : St) (p mb : Nat) (es : List (AV × AV × Nat)) (c : Nat) : Prop where
  box : s[p]? = some (.cells true [.map mb])
  map : s[mb]? = some (.map es c)
  str : ∀ e ∈ es, ∃ n, e.1 = .str n ∧ n.size ≤ 32
  val : ∀ e ∈ es, ∃ b, e.2.1 = .ptr b 0
  stamps : (es.map (·.2.2)).Nodup
  old : ∀ e ∈ es, e.2.2 < c
  few : es.length ≤ 1000
/-- A slice of strings that was made. -/
def Made (s : St) (l : List ByteArray) (v : AV) (t : St) : Prop := (l = [] ∧ v = .nils ∧ t = s) ∨ (l ≠ [] ∧ v = .sl s.length 0 1 l.length none ∧ t = s ++ [.cells true (l.flatMap cS)])
/-- What is known of AppendSeq: the keys, in some order. -/
def Asq : Prop := ∀ (s : St) (p mb : Nat) (es : List (AV × AV × Nat)) (c : Nat) (k : AV → St → Prop), KeyA s p mb es c → (∀ l, l.Perm (keysOf es) → ∀ v t, Made s l v t → k v t) → SemX Tryd.prog f_slices_AppendSeq_string [.nils, .fn 49 [.ptr p 0]] s k
theorem collect_sem (h : Asq) {s : St} {p mb : Nat} {es : List (AV × AV × Nat)} {c : Nat} {k : AV → St → Prop} (hk : KeyA s p mb es c) (hl : ∀ l, l.Perm (keysOf es) → ∀ v t, Made s l v t → k v t) : SemX Tryd.prog f_slices_Collect_string [.fn 49 [.ptr p 0]] s k := by
  refine sem_body exok mixed Tryd.func47 (by kernel_rfl) c_slices_Collect_string ⟨by simp [r_slices_Collect_string], ?_⟩
  simp only [r_slices_Collect_string, XX, CC, YY, Nat.reduceAdd, Nat.reduceSub, Nat.reduceLeDiff, Nat.reduceLT, Nat.reduceEqDiff, reduceIte, ↓reduceIte, Nat.reduceBEq]
  refine h s p mb es c _ hk fun l hp v t hm => ?_
  (try simp only [XX, CC, YY, Nat.reduceAdd, Nat.reduceSub, Nat.reduceLeDiff, Nat.reduceLT, Nat.reduceEqDiff, reduceIte, ↓reduceIte, Nat.reduceBEq])
  exact ⟨_, rfl, .inl (hl l hp v t hm)⟩

/-- names as elements of the sort -/
theorem nms_of : ∀ (l : List ByteArray), (∀ x ∈ l, x.size ≤ 32) → ∃ L : List Nm, L.map (·.1) = l
  | [], _ => ⟨[], rfl⟩
  | x :: l, h => by
    obtain ⟨L, hL⟩ := nms_of l fun y hy => h y (List.mem_cons_of_mem _ hy)
    exact ⟨⟨x, h x (List.mem_cons_self ..)⟩ :: L, by rw [List.map_cons, hL]⟩
theorem nms_flat : ∀ L : List Nm, L.flatMap onNm.enc = (L.map (·.1)).flatMap cS
  | [] => rfl
  | x :: L => by rw [List.flatMap_cons, List.map_cons, List.flatMap_cons, nms_flat L]; rfl
theorem ris_of {l m : List ByteArray} (hm : Ris m) (hp : l.Perm m) (hs : l.Pairwise fun a b => kS a ≤ kS b) : Ris l := by
  have h1 : (m.map kS).Nodup := by
    unfold List.Nodup
    rw [List.pairwise_map]
    exact hm.imp fun h => Nat.ne_of_lt h
  have h2 : (l.map kS).Nodup := (hp.map kS).nodup_iff.2 h1
  unfold List.Nodup at h2
  rw [List.pairwise_map] at h2
  exact (hs.and h2).imp fun h => Nat.lt_of_le_of_ne h.1 h.2
theorem srt_pair {L : List Nm} (h : Srt (K onNm L) 0 L.length) : (L.map (·.1)).Pairwise fun a b => kS a ≤ kS b := by
  rw [List.pairwise_map, List.pairwise_iff_getElem]
  intro i j hi hj hij
  have h1 : K onNm L i = kS L[i].1 := K_at (List.getElem?_eq_getElem hi)
  have h2 : K onNm L j = kS L[j].1 := K_at (List.getElem?_eq_getElem hj)
  have := h i j (Nat.zero_le _) (Nat.le_of_lt hij) hj
  rw [h1, h2] at this
  exact this
theorem keys_size {es : List (AV × AV × Nat)} (h : ∀ e ∈ es, ∃ n, e.1 = .str n ∧ n.size ≤ 32) : ∀ x ∈ keysOf es, x.size ≤ 32 := by
  induction es with
  | nil => intro x hx; simp [keysOf] at hx
  | cons e es ih =>
    obtain ⟨k, v, b⟩ := e
    obtain ⟨n, hn, hs⟩ := h _ (List.mem_cons_self ..)
    simp only at hn
    subst hn
    intro x hx
    simp only [keysOf, List.mem_cons] at hx
    rcases hx with rfl | hx
    · exact hs
    · exact ih (fun e he => h e (List.mem_cons_of_mem _ he)) x hx
theorem keys_len {es : List (AV × AV × Nat)} : (keysOf es).length ≤ es.length := by
  induction es with
  | nil => exact Nat.le_refl _
  | cons e es ih =>
    obtain ⟨k, v, b⟩ := e
    cases k <;> simp only [keysOf, List.length_cons] <;> omega
set_option maxHeartbeats 2000000 in
theorem sorted_sem (h : Asq) {s : St} {p mb : Nat} {es : List (AV × AV × Nat)} {c : Nat} (hk : KeyA s p mb es c) {l : List ByteArray} (hp : l.Perm (keysOf es)) (hr : Ris l) {v : AV} {t : St} (hm : Made s l v t) :
    SemX Tryd.prog f_slices_Sorted_string [.fn 49 [.ptr p 0]] s fun a t' => a = v ∧ t' = t := by
  refine sem_body exok mixed Tryd.func34 (by kernel_rfl) c_slices_Sorted_string ⟨by simp [r_slices_Sorted_string], ?_⟩
  simp only [r_slices_Sorted_string, XX, CC, YY, Nat.reduceAdd, Nat.reduceSub, Nat.reduceLeDiff, Nat.reduceLT, Nat.reduceEqDiff, reduceIte, ↓reduceIte, Nat.reduceBEq]
  refine collect_sem h hk fun l1 hp1 v1 t1 hm1 => ?_
  (try simp only [XX, CC, YY, Nat.reduceAdd, Nat.reduceSub, Nat.reduceLeDiff, Nat.reduceLT, Nat.reduceEqDiff, reduceIte, ↓reduceIte, Nat.reduceBEq])
  have hpp : l1.Perm l := hp1.trans hp.symm
  rcases hm1 with ⟨rfl, rfl, rfl⟩ | ⟨hne, rfl, rfl⟩
  · have hl : l = [] := hpp.symm.eq_nil
    rcases hm with ⟨_, rfl, rfl⟩ | ⟨h1, _⟩
    rotate_left
    · exact absurd hl h1
    refine sem_mono _ _ _ _ _ ?_ (sem_run sound0 (sort_nil t 0))
    rintro a t' rfl
    (try simp only [XX, CC, YY, Nat.reduceAdd, Nat.reduceSub, Nat.reduceLeDiff, Nat.reduceLT, Nat.reduceEqDiff, reduceIte, ↓reduceIte, Nat.reduceBEq])
    exact ⟨_, rfl, .inl ⟨rfl, rfl⟩⟩
  · have hl : l ≠ [] := fun e => hne (by rw [e] at hpp; exact hpp.eq_nil)
    rcases hm with ⟨h1, _⟩ | ⟨_, rfl, rfl⟩
    · exact absurd h1 hl
    have hlen : l1.length = l.length := hpp.length_eq
    have hbig : l1.length ≤ 1000 := by have := hp1.length_eq; have := keys_len (es := es); have := hk.few; omega
    obtain ⟨L1, hL1⟩ := nms_of l1 fun x hx => keys_size hk.str x (hp1.mem_iff.1 hx)
    have hLl : L1.length = l1.length := by rw [← hL1, List.length_map]
    let A : AR := ⟨.sl s.length 0 1 l1.length none, s.length, l1.length, [], fun i hi => by rw [ixa_nat hi]; simp, by omega, rfl⟩
    have hb : A.bk < (s ++ [Blk.cells true (l1.flatMap cS)]).length := by show s.length < _; simp
    have hS : ∀ L : List Nm, A.S onNm (s ++ [Blk.cells true (l1.flatMap cS)]) L = s ++ [.cells true ((L.map (·.1)).flatMap cS)] := fun L => by
      show (s ++ [Blk.cells true (l1.flatMap cS)]).set s.length (.cells true (L.flatMap onNm.enc ++ [])) = _
      rw [nms_flat, List.append_nil]; simp
    have hso := sort_r (O := onNm) (A := A) (s ++ [Blk.cells true (l1.flatMap cS)]) hb rfl L1 hLl
    rw [hS, hL1] at hso
    refine sem_mono _ _ _ _ _ ?_ (sem_run sound0 hso)
    rintro a t' ⟨L2, rfl, hp2, hs2⟩
    rw [hS]
    have hp3 : (L2.map (·.1)).Perm l := (hp2.map (·.1)).trans (by rw [hL1]; exact hpp)
    have hl2 : L2.length = l1.length := by rw [hp2.length_eq, hLl]
    have hs2' : Srt (K onNm L2) 0 L2.length := by rw [hl2]; exact hs2
    have he : L2.map (·.1) = l := ris_uniq (ris_of hr hp3 (srt_pair hs2')) hr hp3
    rw [he]
    (try simp only [XX, CC, YY, Nat.reduceAdd, Nat.reduceSub, Nat.reduceLeDiff, Nat.reduceLT, Nat.reduceEqDiff, reduceIte, ↓reduceIte, Nat.reduceBEq])
    exact ⟨_, rfl, .inl ⟨by show AV.sl s.length 0 1 l1.length none = _; rw [hlen], rfl⟩⟩
end Go.Ev

/-! Regions in a round of a range over a function: what is known of them outside holds there. -/
namespace Go.Ev
set_option linter.unusedVariables false
set_option linter.unusedSimpArgs false
variable {P : Program} {E : Ex} {dd : List Deferred}

def wd (r : Option Nat) : Fence := { Fence.wide with round := r }
theorem calls_in {r : Option Nat} {n : Nat} {f : FuncId} {args : Array Value} {w : World} {R : Ending → World → Prop} (h : Calls P f args w R) : CallsIn (wd r) n P f args w R := callsIn_wide.2 h
theorem rows_in {r : Option Nat} {n : Nat} {row : String} {args : Array Value} {w : World} {R : Value → World → Prop} (h : Rows P row args w R) : RowsIn (wd r) n P row args w R := fun c cs _ => by
  obtain ⟨v, w', h1, h2⟩ := h c cs
  exact ⟨v, w', h1, stepsIn_wide.2 h2⟩
theorem op_in {r : Option Nat} {n : Nat} {o : Oper} {a : Act} {w : World} {K : Act → World → Prop} {Q : Exit → Act → World → Prop} (hdef : ∀ c, o.op ≠ .defer c) (h : o.wp P a w K Q) : o.wpIn (wd r) n P a w K Q := by
  refine ⟨fun f _ => trivial, ?_⟩
  have e : o.semAt (wd r).round a.eval = execOp a.eval o := by
    cases r with
    | none => rfl
    | some l => exact Oper.semAt_some l _ _ hdef
  rw [e]
  unfold Oper.wp at h
  generalize (execOp a.eval o).run P w = res at h ⊢
  cases res with
  | ok v w' =>
    cases v with
    | enter f args => exact ⟨fun h => (by cases h), calls_in h⟩
    | row row args => exact ⟨fun h => (by cases h), rows_in h⟩
    | value v => exact h
    | skip => exact h
    | defer d => exact h
    | _ => exact h.elim
  | halt x w' =>
    cases x with
    | panic v => exact h
    | _ => exact h.elim
theorem comp_def {o : Op} {t : TypeId} {r : RO} (h : compOp P E o t = some r) (c : Call) : o ≠ .defer c := by
  rintro rfl
  simp [compOp, compOp0, compXT] at h

/-- A region in a round. p: a slot that no operation writes. -/
theorem reg_in {X : Oracle} (hX : XS P X) (hE : ExOK P E) {ops : Array Oper} {N : Nat} {Q : Exit → Act → World → Prop} {k : Env → St → Prop} {m0 : Inj} {s0 : St} {w0 : World} {l2 : List Nat} {r : Option Nat} {n p : Nat} {pv : Value}
    (hQ : ∀ e s a w, k e s → Rel dd m0 s0 w0 N e s a w → a.tmps.getD p undef = pv → wpOpsIn (wd r) n P ops Q l2 a w) : ∀ (l : List Nat) (rs : List ROp), l.length = rs.length → (∀ (j i : Nat) (r : ROp), l[j]? = some i → rs[j]? = some r → ∃ o, ops[i]? = some o ∧ compR1 P E N ops o = some r) →
    (rs.all fun r => r.dst != some p) = true → ∀ (e : Env) (s : St) (a : Act) (w : World), Rel dd m0 s0 w0 N e s a w → a.tmps.getD p undef = pv → opsA X rs e s k → wpOpsIn (wd r) n P ops Q (l ++ l2) a w
  | [], rs, hlen, hc, hp, e, s, a, w, hrel, hpv, h => by
    have : rs = [] := by simpa using hlen.symm
    subst this
    exact hQ _ _ _ _ h hrel hpv
  | i :: l, [], hlen, _, _, _, _, _, _, _, _, _ => by simp at hlen
  | i :: l, ro :: rs, hlen, hc, hp, e, s, a, w, ⟨m, hS, hR, hG, hN, hD⟩, hpv, h => by
    obtain ⟨o, ho, hcr⟩ := hc 0 i ro rfl rfl
    obtain ⟨h1, h2, h3, h4⟩ := compR1_spec hcr
    rw [List.all_cons, Bool.and_eq_true] at hp
    have hpd : o.dst ≠ some p := by rw [← h1]; simpa using hp.1
    have put_p : ∀ u, (a.put o.dst u).tmps.getD p undef = pv := fun u => by
      rw [← hpv]
      cases hd : o.dst with
      | none => rfl
      | some d =>
        have : d ≠ p := fun e => hpd (by rw [hd, e])
        simp only [Act.put, Array.getD_eq_getD_getElem?]
        rw [Array.getElem?_setIfInBounds_ne this]
    have rest : ∀ v s' m' u w', opsA X rs (putO e ro.dst v) s' k → Sim m' s' w' → Goes m s w m' s' w' → VR m' v u → wpOpsIn (wd r) n P ops Q (l ++ l2) (a.put o.dst u) w' := by
      intro v s' m' u w' hk hS' hG' hv
      refine reg_in hX hE hQ l rs (by simpa using hlen) (fun j i' r' hj hr => hc (j + 1) i' r' (by simpa using hj) (by simpa using hr)) hp.2 _ s' _ w' ⟨m', hS', ?_, hG.trans hG', by rw [put_size]; exact hN, by rw [put_defers]; exact hD⟩ (put_p u) hk
      rw [h1]
      exact ER.putO (ER.mono hG'.le hR) hN h2 hv
    have runs : opA X ro.op e s (fun v s' => opsA X rs (putO e ro.dst v) s' k) → o.wpIn (wd r) n P a w (wpOpsIn (wd r) n P ops Q (l ++ l2)) Q := by
      intro hr
      rcases h4 with h4 | h4
      · exact op_in (comp_def h4) (op_sound hX hE h4 hR hS hr rest)
      · rw [h4] at hr; exact absurd hr (by simp [opA, pureA])
    simp only [List.cons_append, wpOpsIn, ho]
    simp only [opsA] at h
    split at h
    · rename_i hg
      rw [hg] at h3
      rw [guard_none_run h3, if_pos rfl]
      exact runs h
    · rename_i t want hg
      rw [hg] at h3
      split at h
      · rename_i hb
        rw [guard_run h3 (hR t) hb, if_pos rfl]
        exact runs h
      · rename_i hb
        rw [guard_run h3 (hR t) hb, if_neg (by decide)]
        exact ⟨fun _ _ => trivial, rest (.tup []) s m undef w h hS (Goes.refl _ _ _) ⟨#[], rfl, rfl⟩⟩
      · exact h.elim
/-- One operation by itself, in a round. -/
theorem one_in {r : Option Nat} {n : Nat} {ops : Array Oper} {Q : Exit → Act → World → Prop} {i : Nat} {l : List Nat} {o : Oper} (ho : ops[i]? = some o) (hg : o.guard = none) (hdef : ∀ c, o.op ≠ .defer c) {a : Act} {w w' : World} {u : Value} (h : (execOp a.eval o).run P w = .ok (.value u) w') (hk : wpOpsIn (wd r) n P ops Q l (a.put o.dst u) w') :
    wpOpsIn (wd r) n P ops Q (i :: l) a w := by
  have hw : Region.wanted o (yielded ops a.tmps) = true := by simp [Region.wanted, hg]
  simp only [wpOpsIn, ho, hw, if_true]
  exact op_in hdef (wp_value h hk)

/-- The world grows by blocks that are no cells of the run's. -/
theorem grown_sim {m : Inj} {t : St} {W W' : World} {row : Option Nat} (h : Sim m t W) (hg : W.grownBy W' row) (hr : ∀ i l, m i = some l → row = some l.c → t[i]? = some .dead) : Sim m t W' := by
  refine ⟨fun i l hi => ?_, h.inj⟩
  obtain ⟨b, o, h1, h2, h3⟩ := h.at_ i l hi
  by_cases hc : row = some l.c
  · have hd := hr i l hi hc
    rw [h1] at hd
    cases hd
    have hlt := (h.lt hi).2
    obtain ⟨o', ho'⟩ : ∃ o', W'.heap[l.c]? = some o' := ⟨_, Array.getElem?_eq_getElem (Nat.lt_of_lt_of_le hlt hg.size)⟩
    exact ⟨.dead, o', h1, ho', trivial⟩
  · exact ⟨b, o, h1, (hg.block l.c (h.lt hi).2 (fun e => hc e.symm)).trans h2, h3⟩
theorem grown_goes {m0 m : Inj} {s t : St} {w W W' : World} {row : Option Nat} (h : Goes m0 s w m t W) (hg : W.grownBy W' row) (hr : ∀ c, row = some c → w.heap.size ≤ c) : Goes m0 s w m t W' :=
  ⟨h.le, h.new, h.len, hg.os.trans h.os, hg.tape.trans h.tape, hg.output.trans h.output, Nat.le_trans h.size hg.size, fun c hc hH => by
    obtain ⟨k1, k2⟩ := h.keep c hc hH
    exact ⟨(hg.block c (Nat.lt_of_lt_of_le hc h.size) (fun e => by have := hr c e.symm; omega)).trans k1, k2⟩⟩
theorem hc_of {N : Nat} {ops : Array Oper} {rs : List ROp} (h : compRs P E N ops ops.toList = some rs) (a len : Nat) : ∀ (j i : Nat) (r : ROp), (List.range' a len)[j]? = some i → ((rs.drop a).take len)[j]? = some r → ∃ o, ops[i]? = some o ∧ compR1 P E N ops o = some r := by
  intro j i r hj hr
  obtain ⟨hl, hg⟩ := compRs_get h
  have hjl : j < len := by
    have := (List.getElem?_eq_some_iff.1 hj).1
    simpa using this
  rw [List.getElem?_range' hjl] at hj
  simp only [Nat.one_mul, Option.some.injEq] at hj
  subst hj
  rw [List.getElem?_take, if_pos hjl, List.getElem?_drop] at hr
  have hlt := (List.getElem?_eq_some_iff.1 hr).1
  rw [hl] at hlt
  obtain ⟨r', h1, h2⟩ := hg (a + j) _ (List.getElem?_eq_getElem hlt)
  rw [hr] at h1
  cases h1
  exact ⟨_, by rw [← Array.getElem?_toList]; exact List.getElem?_eq_getElem hlt, h2⟩
/-- Where nothing of the run's own was handed in, all that lay lies as it lay. -/
theorem goes_grown {m m' : Inj} {s s' : St} {W W' : World} (h : Goes m s W m' s' W') (hro : ∀ i l, m i = some l → ro s i) : W.grownBy W' none :=
  ⟨h.os, h.tape, h.output, h.size, fun c hc _ => (h.keep c hc fun i l hi _ => hro i l hi).1⟩
theorem eval_of {m : Inj} {e : Env} {a : Act} (h : ER m e a) {t : Nat} {b : Bool} (he : e.get t = .bool b) : a.eval (.tmp t) = .bool b := by
  have := h t
  rw [he] at this; exact this
end Go.Ev

/-! The iterator over a map's keys: its contract. -/
namespace Go.Ev
set_option linter.unusedVariables false
set_option linter.unusedSimpArgs false
open Go.Ev.So Go.Proofs
open Go.ChangeMaps (setBlock)

noncomputable def kyC : Code := Tryd.f49.body.getD .skip
noncomputable def kyX : Code := cinn (cinn (csnd kyC))
noncomputable def kyR0 : Code := cfst kyC
noncomputable def kyR1 : Code := cfst kyX
noncomputable def kyR2 : Code := cfst (cinn (csnd (csnd kyX)))
noncomputable def kyR3 : Code := cfst (csnd (cinn (csnd (csnd kyX))))
theorem ky_body : Tryd.f49.body = some (.seq (.region 0 (cops kyR0) false) (.block 0 (.loop (.seq (.region 1 (cops kyR1) false) (.seq (.cond (.tmp 7) .skip (.exit 0)) (.block 1 (.seq (.region 2 (cops kyR2) false) (.seq (.region 3 (cops kyR3) false) (.cond (.tmp 13) .ret .skip))))))))) := by kernel_rfl
theorem ky_n : (cops kyR0).size = 2 ∧ (cops kyR1).size = 2 ∧ (cops kyR2).size = 3 ∧ (cops kyR3).size = 4 ∧ Tryd.f49.ntmps = 14 ∧ Tryd.f49.results = #[] := ⟨by kernel_rfl, by kernel_rfl, by kernel_rfl, by kernel_rfl, by kernel_rfl, by kernel_rfl⟩
theorem ky_0 : (cops kyR0)[0]? = some (copN kyR0 0) ∧ compR1 Tryd.prog ex0 14 (cops kyR0) (copN kyR0 0) = some ⟨some 4, none, .ld none (.t 1)⟩ ∧ (cops kyR0)[1]? = some (copN kyR0 1) ∧ (copN kyR0 1).op = Op.range 52 (.tmp 4) ∧ (copN kyR0 1).dst = some 5 ∧ (copN kyR0 1).guard = none := ⟨by kernel_rfl, by kernel_rfl, by kernel_rfl, by kernel_rfl, by kernel_rfl, by kernel_rfl⟩
theorem ky_1 : (cops kyR1)[0]? = some (copN kyR1 0) ∧ (copN kyR1 0).op = Op.next (.tmp 5) false ∧ (copN kyR1 0).dst = some 6 ∧ (copN kyR1 0).guard = none ∧ (cops kyR1)[1]? = some (copN kyR1 1) ∧ compR1 Tryd.prog ex0 14 (cops kyR1) (copN kyR1 1) = some ⟨some 7, none, .ext 0 (.t 6)⟩ := ⟨by kernel_rfl, by kernel_rfl, by kernel_rfl, by kernel_rfl, by kernel_rfl, by kernel_rfl⟩
theorem ky_2 : (cops kyR2)[0]? = some (copN kyR2 0) ∧ (copN kyR2 0).op = Op.entry (.tmp 5) ∧ (copN kyR2 0).dst = some 8 ∧ (copN kyR2 0).guard = none ∧ (cops kyR2)[1]? = some (copN kyR2 1) ∧ compR1 Tryd.prog ex0 14 (cops kyR2) (copN kyR2 1) = some ⟨some 9, none, .ext 0 (.t 8)⟩ ∧ (cops kyR2)[2]? = some (copN kyR2 2) ∧ compR1 Tryd.prog ex0 14 (cops kyR2) (copN kyR2 2) = some ⟨some 3, none, .mv (.t 9)⟩ := ⟨by kernel_rfl, by kernel_rfl, by kernel_rfl, by kernel_rfl, by kernel_rfl, by kernel_rfl, by kernel_rfl, by kernel_rfl⟩
theorem ky_3 : (cops kyR3)[0]? = some (copN kyR3 0) ∧ (copN kyR3 0).op = Op.move (.tmp 0) ∧ (copN kyR3 0).dst = some 10 ∧ (copN kyR3 0).guard = none ∧ (cops kyR3)[1]? = some (copN kyR3 1) ∧ (copN kyR3 1).op = Op.move (.tmp 3) ∧ (copN kyR3 1).dst = some 11 ∧ (copN kyR3 1).guard = none := ⟨by kernel_rfl, by kernel_rfl, by kernel_rfl, by kernel_rfl, by kernel_rfl, by kernel_rfl, by kernel_rfl, by kernel_rfl⟩
theorem ky_y : (cops kyR3)[2]? = some (copN kyR3 2) ∧ (copN kyR3 2).op = Op.call { callee := .value (.tmp 10), args := #[.tmp 11], argTypes := #[9] } ∧ (copN kyR3 2).dst = some 12 ∧ (copN kyR3 2).guard = none ∧ (cops kyR3)[3]? = some (copN kyR3 3) ∧ compR1 Tryd.prog ex0 14 (cops kyR3) (copN kyR3 3) = some ⟨some 13, none, .un .not (.t 12)⟩ := ⟨by kernel_rfl, by kernel_rfl, by kernel_rfl, by kernel_rfl, by kernel_rfl, by kernel_rfl⟩
theorem ky_map : Tryd.prog.underlying 52 = some (.map 9 55) := by kernel_rfl
def keyB (x : MapEntry) : ByteArray := match x.key with
  | .string s => s
  | _ => bts []
/-- The map, and what lies from B on and is walked over, stays. -/
def KpM (c : Nat) (cs : Array MapEntry) (clock B : Nat) (W W' : World) : Prop := (W.heap[c]? = some (.map cs clock) → W'.heap[c]? = some (.map cs clock)) ∧ ∀ k o, B ≤ k → W.heap[k]? = some o → o.isWalk = true → W'.heap[k]? = some o
def left (cs : Array MapEntry) (seen : Array Nat) : List MapEntry := cs.toList.filter fun x => !seen.contains x.born
theorem left_take {cs : Array MapEntry} (hnd : (cs.toList.map (·.born)).Nodup) {seen : Array Nat} {x : MapEntry} (hx : x ∈ left cs seen) : (left cs seen).Perm (x :: left cs (seen.push x.born)) := by
  unfold left at *
  have key : ∀ l : List MapEntry, (l.map (·.born)).Nodup → x ∈ l.filter (fun y => !seen.contains y.born) → (l.filter fun y => !seen.contains y.born).Perm (x :: l.filter fun y => !(seen.push x.born).contains y.born) := by
    intro l
    induction l with
    | nil => intro _ h; simp at h
    | cons y l ih =>
      intro hn h
      rw [List.map_cons, List.nodup_cons] at hn
      by_cases e : y = x
      · subst e
        have hs : seen.contains y.born = false := by
          have := (List.mem_filter.1 h).2
          simpa using this
        have h1 : (l.filter fun z => !seen.contains z.born) = l.filter fun z => !(seen.push y.born).contains z.born := by
          apply List.filter_congr
          intro z hz
          have hne : z.born ≠ y.born := fun e => hn.1 (by rw [← e]; exact List.mem_map_of_mem hz)
          simp [contains_push, hne]
        rw [List.filter_cons, if_pos (by rw [hs]; rfl), List.filter_cons, if_neg (by simp [contains_push]), h1]
      · have hxl : x ∈ l.filter fun z => !seen.contains z.born := by
          rw [List.mem_filter] at h ⊢
          rcases List.mem_cons.1 h.1 with e2 | e2
          · exact absurd e2.symm e
          · exact ⟨e2, h.2⟩
        have hne : y.born ≠ x.born := fun e2 => hn.1 (by rw [e2]; exact List.mem_map_of_mem (List.mem_filter.1 hxl).1)
        have h2 := ih hn.2 hxl
        have h3 : (!(seen.push x.born).contains y.born) = !seen.contains y.born := by simp [contains_push, hne]
        rw [List.filter_cons, List.filter_cons, h3]
        by_cases c : (!seen.contains y.born) = true
        · rw [if_pos c, if_pos c]
          exact (h2.cons y).trans (List.Perm.swap x y _)
        · rw [if_neg c, if_neg c]; exact h2
  exact key _ hnd hx
/-- Where the iterator's loop stands. -/
structure KyI (c : Nat) (cs : Array MapEntry) (clock l r0 : Nat) (J : List ByteArray → World → Prop) (pre : List ByteArray) (seen : Array Nat) (act : Act) (w : World) : Prop where
  J : J pre w
  perm : (pre ++ (left cs seen).map keyB).Perm (cs.toList.map keyB)
  map : w.heap[c]? = some (.map cs clock)
  it : w.heap[r0]? = some (iterO c clock seen)
  size : act.tmps.size = 14
  defers : act.defers = []
  t0 : act.tmps.getD 0 undef = .func (.yield l) #[] #[]
  t5 : act.tmps.getD 5 undef = .pointer (some ⟨r0, 0, none⟩)
end Go.Ev

/-! The iterator over a map's keys: its contract, proved. -/
namespace Go.Ev
set_option linter.unusedVariables false
set_option linter.unusedSimpArgs false
open Go.Ev.So Go.Proofs
open Go.ChangeMaps (setBlock)

def itM (r0 : Nat) : Inj := fun i => if i = 0 then some ⟨r0, 0, 0⟩ else none
theorem itM_sim {r0 : Nat} {o : Obj} {w : World} (h : w.heap[r0]? = some o) : Sim (itM r0) [.dead] w := by
  refine ⟨fun i l hi => ?_, fun i j l l' hi hj _ _ => ?_⟩
  · unfold itM at hi
    split at hi
    · rename_i e; subst e; cases hi
      exact ⟨_, _, rfl, h, trivial⟩
    · cases hi
  · unfold itM at hi hj
    split at hi <;> split at hj <;> first | (left; omega) | simp_all
theorem itM_ro {r0 : Nat} : ∀ i l, itM r0 i = some l → ro [.dead] i := by
  intro i l h
  unfold itM at h
  split at h
  · rename_i e; subst e; exact .inl rfl
  · cases h
theorem put_get' {a : Act} {t j : Nat} {u : Value} (ht : t < a.tmps.size) : (a.put (some t) u).tmps.getD j undef = if j = t then u else a.tmps.getD j undef := by
  simp only [Act.put, Array.getD_eq_getD_getElem?]
  split
  · rename_i e; subst e; simp [ht]
  · rename_i e; rw [Array.getElem?_setIfInBounds_ne (fun h => e h.symm)]
theorem ER.nil' {m : Inj} {a : Act} : ER m [] a := fun t => by simp [Env.get, VR]
theorem ER.cons' {m : Inj} {e : Env} {a : Act} (h : ER m e a) {t : Nat} {v : AV} (hv : VR m v (a.tmps.getD t undef)) : ER m (e.put t v) a := fun j => by
  rw [Env.get_put]
  split
  · rename_i e; rw [e]; exact hv
  · exact h j
theorem step_grown {w w1 : World} (h : w1 = w ∨ w1 = w.drew) (r : Nat) (o : Obj) : w.grownBy (setBlock w1 r o) (some r) := by
  rcases h with rfl | rfl
  · exact grownBy_putObj' _ r o
  · have h1 := grownBy_putObj' w.drew r o
    exact ⟨h1.os, h1.tape, h1.output, h1.size, fun k hk hr => h1.block k hk hr⟩
theorem hc_one {ops : Array Oper} {i0 : Nat} {o : Oper} {r0 : ROp} (ho : ops[i0]? = some o) (hc : compR1 Tryd.prog ex0 14 ops o = some r0) : ∀ (j i : Nat) (r : ROp), ([i0] : List Nat)[j]? = some i → ([r0] : List ROp)[j]? = some r → ∃ o, ops[i]? = some o ∧ compR1 Tryd.prog ex0 14 ops o = some r := by
  intro j i r hj hr
  cases j with
  | zero => cases hj; cases hr; exact ⟨o, ho, hc⟩
  | succ j => simp at hj
theorem hc_two {ops : Array Oper} {i0 i1 : Nat} {o o1 : Oper} {r0 r1 : ROp} (ho : ops[i0]? = some o) (hc : compR1 Tryd.prog ex0 14 ops o = some r0) (ho1 : ops[i1]? = some o1) (hc1 : compR1 Tryd.prog ex0 14 ops o1 = some r1) : ∀ (j i : Nat) (r : ROp), ([i0, i1] : List Nat)[j]? = some i → ([r0, r1] : List ROp)[j]? = some r → ∃ o, ops[i]? = some o ∧ compR1 Tryd.prog ex0 14 ops o = some r := by
  intro j i r hj hr
  match j with
  | 0 => cases hj; cases hr; exact ⟨o, ho, hc⟩
  | 1 => cases hj; cases hr; exact ⟨o1, ho1, hc1⟩
  | j + 2 => simp at hj
theorem relI {act : Act} {w : World} {r0 t : Nat} {v : AV} {o : Obj} (hi : w.heap[r0]? = some o) (hN : act.tmps.size = 14) (hD : act.defers = []) (h5 : act.tmps.getD 5 undef = .pointer (some ⟨r0, 0, none⟩)) (hv : VR (itM r0) v (act.tmps.getD t undef)) :
    Rel [] (itM r0) [.dead] w 14 ((Env.put [] 5 (.ptr 0 0)).put t v) [.dead] act w :=
  ⟨_, itM_sim hi, ER.cons' (ER.cons' ER.nil' (by rw [h5]; exact ⟨⟨r0, 0, 0⟩, rfl, rfl⟩)) hv, Goes.refl _ _ _, hN, hD⟩
theorem itM_out {r0 : Nat} {w w' : World} {e : Env} {s' : St} {act : Act} (R : Rel [] (itM r0) [.dead] w 14 e s' act w') (g5 : e.get 5 = .ptr 0 0) :
    w.grownBy w' none ∧ act.tmps.size = 14 ∧ act.defers = [] ∧ act.tmps.getD 5 undef = .pointer (some ⟨r0, 0, none⟩) ∧ ∃ m, ER m e act := by
  obtain ⟨m, hS, hR, hG, hN, hD⟩ := R
  refine ⟨goes_grown hG itM_ro, hN, hD, ?_, m, hR⟩
  have t5 := hR 5
  rw [g5] at t5
  obtain ⟨l, hl, hv⟩ := t5
  rw [hG.le 0 _ (show itM r0 0 = some ⟨r0, 0, 0⟩ from rfl)] at hl
  cases hl
  exact hv
theorem in_cons' {P : Program} {F : Fence} {n : Nat} {ops : Array Oper} {Q : Exit → Act → World → Prop} {i : Nat} {l : List Nat} {o : Oper} (ho : ops[i]? = some o) {a : Act} (hw : Region.wanted o (yielded ops a.tmps) = true) {w : World} (h : o.wpIn F n P a w (wpOpsIn F n P ops Q l) Q) :
    wpOpsIn F n P ops Q (i :: l) a w := by
  simp only [wpOpsIn, ho, hw, if_true]
  exact h
set_option maxHeartbeats 4000000 in
theorem keys1_in (n : Nat) (c clock : Nat) (cs : Array MapEntry) (hks : ∀ x ∈ cs.toList, ∃ s, x.key = .string s) (hnd : (cs.toList.map (·.born)).Nodup) (hold : ∀ x ∈ cs.toList, x.born < clock)
    (l lc ld : Nat) (J Jx : List ByteArray → World → Prop) (W : World) (hJ : AbidesFrom W.heap.size J) (hJx : AbidesFrom W.heap.size Jx)
    (hY : ∀ pre x W1, J pre W1 → pre.length < cs.size + 1 → YieldAt (wd none) (n - 1) Tryd.prog l #[.string x] W1 fun e W' =>
      (e = .returned (.bool true) ∧ J (pre ++ [x]) W' ∧ KpM c cs clock W.heap.size W1 W') ∨ (e = .returned (.bool false) ∧ Jx (pre ++ [x]) W'))
    (hbox : ∃ cc t fz, W.heap[lc]? = some (.cells cc t fz) ∧ cc[ld]? = some (.map (some c))) (hmap : W.heap[c]? = some (.map cs clock)) (h0 : J [] W) :
    CallsIn (wd none) n Tryd.prog 49 #[.func (.yield l) #[] #[], .pointer (some ⟨lc, ld, none⟩)] W fun e W' => (∃ v, e = .returned v) ∧ ((∃ xs, xs.Perm (cs.toList.map keyB) ∧ J xs W') ∨ (∃ pre, True ∧ Jx pre W')) := by
  refine callsIn_of_wp Tryd.func49 ky_body trivial ?_ rfl
  rw [ky_n.2.2.2.2.1]
  obtain ⟨cc, ty, fz, hb1, hb2⟩ := hbox
  -- the box, and the map
  have hS0 : Sim (fun i => if i = 0 then some ⟨lc, ld, cc.size⟩ else if i = 1 then some ⟨c, 0, 0⟩ else none) [.cells false [.map 1], .dead] W := by
    refine ⟨fun i l hi => ?_, fun i j l l' hi hj _ hn => ?_⟩
    · split at hi
      · rename_i e; subst e; cases hi
        refine ⟨_, _, rfl, hb1, cc, ty, fz, rfl, rfl, fun i x hx => ?_, fun h => by cases h⟩
        cases i with
        | zero => cases hx; exact ⟨_, hb2, ⟨c, 0, 0⟩, rfl, rfl⟩
        | succ i => simp at hx
      · split at hi
        · rename_i e; subst e; cases hi
          exact ⟨_, _, rfl, hmap, trivial⟩
        · cases hi
    · exfalso
      apply hn
      split at hi
      · rename_i e; subst e; exact .inr ⟨_, rfl⟩
      · split at hi
        · rename_i e; subst e; exact .inl rfl
        · cases hi
  have hro0 : ∀ i l, (fun i => if i = 0 then some (⟨lc, ld, cc.size⟩ : Loc) else if i = 1 then some ⟨c, 0, 0⟩ else none) i = some l → ro [.cells false [.map 1], .dead] i := by
    intro i l hi
    simp only at hi
    split at hi
    · rename_i e; subst e; exact .inr ⟨_, rfl⟩
    · split at hi
      · rename_i e; subst e; exact .inl rfl
      · cases hi
  have R0 : Rel [] _ [.cells false [.map 1], .dead] W 14 [.undef, .ptr 0 0] [.cells false [.map 1], .dead] { tmps := #[.func (.yield l) #[] #[], .pointer (some ⟨lc, ld, none⟩)] ++ Array.replicate (14 - 2) undef, defers := [] } W :=
    rel_start (args := [.undef, .ptr 0 0]) hS0 (vs := #[.func (.yield l) #[] #[], .pointer (some ⟨lc, ld, none⟩)]) ⟨_, _, rfl, trivial, _, _, rfl, ⟨⟨lc, ld, cc.size⟩, rfl, rfl⟩, rfl⟩ (by simp)
  refine wpIn_seq (wpIn_region ?_)
  rw [ky_n.1, show List.range 2 = [0] ++ [1] from rfl]
  refine reg_in (k := fun e s => s = [.cells false [.map 1], .dead] ∧ e.get 4 = .map 1) sound0 exok (p := 0) (pv := .func (.yield l) #[] #[]) ?_ [0] [⟨some 4, none, .ld none (.t 1)⟩] rfl (hc_one ky_0.1 ky_0.2.1) rfl _ _ _ _ R0 ?_ ?_
  rotate_left
  · simp
  · have l0 : ldA [Blk.cells false [.map 1], .dead] none (.ptr 0 0) = some (.map 1) := rfl
    have g1 : Env.get [.undef, .ptr 0 0] 1 = .ptr 0 0 := rfl
    simp only [XX, CC, YY, Nat.reduceAdd, Nat.reduceSub, Nat.reduceLeDiff, Nat.reduceLT, Nat.reduceEqDiff, reduceIte, ↓reduceIte, Nat.reduceBEq, g1, l0]
  rintro e1 s1 a1 w1 ⟨rfl, g4⟩ ⟨m1, hS1, hR1, hG1, hN1, hD1⟩ hp1
  have hgr := goes_grown hG1 hro0
  have t4 := hR1 4
  rw [g4] at t4
  obtain ⟨l4, hl4, hv4⟩ := t4
  have hl4' := hG1.le 1 _ (show (fun i => if i = 0 then some (⟨lc, ld, cc.size⟩ : Loc) else if i = 1 then some ⟨c, 0, 0⟩ else none) 1 = some ⟨c, 0, 0⟩ from rfl)
  rw [hl4'] at hl4
  cases hl4
  have hmap1 : w1.heap[c]? = some (.map cs clock) := (hgr.block c (Array.getElem?_eq_some_iff.1 hmap).1 (by simp)).trans hmap
  have hJ1 := hJ _ _ _ none h0 hgr (by simp)
  have hBle : W.heap.size ≤ w1.heap.size := hgr.size
  refine one_in ky_0.2.2.1 ky_0.2.2.2.2.2 (by rw [ky_0.2.2.2.1]; simp) (u := .pointer (some ⟨w1.heap.size, 0, none⟩)) (w' := w1.alloc (iterO c clock #[])) (by
    have ev4 : a1.eval (.tmp 4) = .map (some c) := hv4
    simp [execOp, ky_0.2.2.2.1, ev4, run_range_map w1 _ _ _ _ _ _ ky_map hmap1, Result.andThen]; rfl) ?_
  rw [ky_0.2.2.2.2.1]
  have k5 : ∀ j, (a1.put (some 5) (.pointer (some ⟨w1.heap.size, 0, none⟩))).tmps.getD j undef = if j = 5 then .pointer (some ⟨w1.heap.size, 0, none⟩) else a1.tmps.getD j undef := fun j => put_get' (by rw [hN1]; decide)
  have hcw : c < w1.heap.size := (Array.getElem?_eq_some_iff.1 hmap1).1
  have hJ2 : J [] (w1.alloc (iterO c clock #[])) := hJ _ _ _ none hJ1 (World.grownBy_alloc w1 _ none) (by simp)
  generalize hr0 : w1.heap.size = r0 at *
  have hkey : ∀ x ∈ cs.toList, x.key = .string (keyB x) := fun x hx => by obtain ⟨s, hs⟩ := hks x hx; unfold keyB; rw [hs]
  have hleft0 : left cs #[] = cs.toList := by unfold left; exact List.filter_eq_self.2 fun x _ => by simp
  refine wpIn_block (wpIn_loop (fun act w => ∃ pre seen, KyI c cs clock l r0 J pre seen act w) (fun _ w => match w.heap[r0]? with | some (.mapIter _ _ seen _) => (left cs seen).length | _ => 0) ?_ ?_)
  · refine ⟨[], #[], hJ2, by rw [hleft0]; exact .refl _, ?_, ?_, by rw [put_size]; exact hN1, by rw [put_defers]; exact hD1, ?_, ?_⟩
    · rw [Go.RowKit.Below.heap_alloc _ _ _ (by rw [hr0]; exact hcw)]; exact hmap1
    · have := World.alloc_heap_new w1 (iterO c clock #[]); rw [hr0] at this; exact this
    · rw [k5, if_neg (by decide)]; exact hp1
    · rw [k5, if_pos rfl]
  clear hJ2 k5 hmap1 hcw hJ1 hv4 hl4' hG1 hR1 hS1 hN1 hD1 hp1 g4 R0 hS0 hro0 hb1 hb2 h0 hgr
  rintro act w ⟨pre, seen, I⟩
  obtain ⟨iJ, ip, im, ii, iN, iD, i0, i5⟩ := id I
  have ev5 : act.eval (.tmp 5) = .pointer (some ⟨r0, 0, none⟩) := i5
  refine wpIn_seq (wpIn_region ?_)
  rw [ky_n.2.1, show List.range 2 = [0] ++ [1] from rfl]
  show wpOpsIn (wd none) n Tryd.prog (cops kyR1) _ [0, 1] act w
  rcases run_next_at (P := Tryd.prog) w (copN kyR1 0).type r0 c clock clock seen cs clock ii im hold (Nat.le_refl _) with ⟨hz, hrun⟩ | ⟨x, hx, w2, hal, hrun⟩
  · -- nothing is left
    refine one_in ky_1.1 ky_1.2.2.2.1 (by rw [ky_1.2.1]; simp) (u := .tuple #[.bool false]) (w' := w) (by simp [execOp, ky_1.2.1, ev5, hrun, Result.andThen]) ?_
    rw [ky_1.2.2.1]
    have k6 : ∀ j, (act.put (some 6) (.tuple #[.bool false])).tmps.getD j undef = if j = 6 then .tuple #[.bool false] else act.tmps.getD j undef := fun j => put_get' (by rw [iN]; decide)
    have R1 : Rel [] (itM r0) [.dead] w 14 ((Env.put [] 5 (.ptr 0 0)).put 6 (.tup [.bool false])) [.dead] (act.put (some 6) (.tuple #[.bool false])) w :=
      relI ii (by rw [put_size]; exact iN) (by rw [put_defers]; exact iD) (by rw [k6, if_neg (by decide)]; exact i5) (by rw [k6, if_pos rfl]; exact ⟨#[.bool false], rfl, _, _, rfl, rfl, rfl⟩)
    show wpOpsIn (wd none) n Tryd.prog (cops kyR1) _ ([1] ++ []) _ _
    refine reg_in (k := fun e s => e.get 7 = .bool false ∧ e.get 5 = .ptr 0 0) sound0 exok (p := 0) (pv := .func (.yield l) #[] #[]) ?_ [1] [⟨some 7, none, .ext 0 (.t 6)⟩] rfl (hc_one ky_1.2.2.2.2.1 ky_1.2.2.2.2.2) rfl _ _ _ _ R1 (by rw [k6, if_neg (by decide)]; exact i0) ?_
    rotate_left
    · simp only [XX, CC, YY, Nat.reduceAdd, Nat.reduceSub, Nat.reduceLeDiff, Nat.reduceLT, Nat.reduceEqDiff, reduceIte, ↓reduceIte, Nat.reduceBEq] <;> simp
    rintro e2 s2 a2 w2 ⟨g7, g5⟩ R2 hp2
    obtain ⟨hg2, n2, d2, p5, m2, hR2⟩ := itM_out R2 g5
    refine wpIn_seq (wpIn_cond_false (eval_of hR2 g7) (wpIn_exit ?_))
    have hl0 : left cs seen = [] := by
      unfold left
      rw [List.filter_eq_nil_iff]
      intro x hx h
      have := all_seen cs seen hz x hx
      rw [this] at h; cases h
    rw [hl0, List.map_nil, List.append_nil] at ip
    exact ⟨d2, .tuple #[], by simp [results, ky_n.2.2.2.2.2], ⟨_, rfl⟩, .inl ⟨pre, ip, hJ _ _ _ none iJ hg2 (by simp)⟩⟩
  · -- an entry
    obtain ⟨hxm, hxs⟩ := mem_left hx
    have ii2 : w2.heap[r0]? = some (iterO c clock seen) := by rcases hal with rfl | rfl <;> exact ii
    have hgs : w.grownBy (setBlock w2 r0 (iterO c clock (seen.push x.born))) (some r0) := step_grown hal r0 _
    have it3 : (setBlock w2 r0 (iterO c clock (seen.push x.born))).heap[r0]? = some (iterO c clock (seen.push x.born)) := (Go.MapKept.heap_set ii2).1
    have hcr : c ≠ r0 := by rintro rfl; rw [ii] at im; cases im
    have map3 : (setBlock w2 r0 (iterO c clock (seen.push x.born))).heap[c]? = some (.map cs clock) := (hgs.block c (Array.getElem?_eq_some_iff.1 im).1 (by simpa using hcr)).trans im
    have hJ3 : J pre (setBlock w2 r0 (iterO c clock (seen.push x.born))) := hJ _ _ _ (some r0) iJ hgs (by intro r e; cases e; exact ⟨hBle, _, ii, rfl⟩)
    have hrun1 : (execOp act.eval (copN kyR1 0)).run Tryd.prog w = .ok (.value (.tuple #[.bool true, x.key, x.val])) (setBlock w2 r0 (iterO c clock (seen.push x.born))) := by
      simp [execOp, ky_1.2.1, ev5, hrun, Result.andThen]; rfl
    refine one_in ky_1.1 ky_1.2.2.2.1 (by rw [ky_1.2.1]; simp) hrun1 ?_
    rw [ky_1.2.2.1]
    generalize hw3 : setBlock w2 r0 (iterO c clock (seen.push x.born)) = w3 at *
    have k6 : ∀ j, (act.put (some 6) (.tuple #[.bool true, x.key, x.val])).tmps.getD j undef = if j = 6 then .tuple #[.bool true, x.key, x.val] else act.tmps.getD j undef := fun j => put_get' (by rw [iN]; decide)
    have R1 : Rel [] (itM r0) [.dead] w3 14 ((Env.put [] 5 (.ptr 0 0)).put 6 (.tup [.bool true, .undef, .undef])) [.dead] (act.put (some 6) (.tuple #[.bool true, x.key, x.val])) w3 :=
      relI it3 (by rw [put_size]; exact iN) (by rw [put_defers]; exact iD) (by rw [k6, if_neg (by decide)]; exact i5) (by rw [k6, if_pos rfl]; exact ⟨#[.bool true, x.key, x.val], rfl, _, _, rfl, rfl, _, _, rfl, trivial, _, _, rfl, trivial, rfl⟩)
    show wpOpsIn (wd none) n Tryd.prog (cops kyR1) _ ([1] ++ []) _ _
    refine reg_in (k := fun e s => e.get 7 = .bool true ∧ e.get 5 = .ptr 0 0) sound0 exok (p := 0) (pv := .func (.yield l) #[] #[]) ?_ [1] [⟨some 7, none, .ext 0 (.t 6)⟩] rfl (hc_one ky_1.2.2.2.2.1 ky_1.2.2.2.2.2) rfl _ _ _ _ R1 (by rw [k6, if_neg (by decide)]; exact i0) ?_
    rotate_left
    · simp only [XX, CC, YY, Nat.reduceAdd, Nat.reduceSub, Nat.reduceLeDiff, Nat.reduceLT, Nat.reduceEqDiff, reduceIte, ↓reduceIte, Nat.reduceBEq] <;> simp
    clear R1 k6
    rintro e4 s4 a4 w4 ⟨g7, g5⟩ R4 hp4
    obtain ⟨hg4, n4, d4, p5, m4, hR4⟩ := itM_out R4 g5
    refine wpIn_seq (wpIn_cond_true (eval_of hR4 g7) (wpIn_skip ?_))
    have it4 := (hg4.block r0 (Array.getElem?_eq_some_iff.1 it3).1 (by simp)).trans it3
    have map4 := (hg4.block c (Array.getElem?_eq_some_iff.1 map3).1 (by simp)).trans map3
    have hJ4 := hJ _ _ _ none hJ3 hg4 (by simp)
    clear hg4 R4 hR4 g7 g5 m4 e4 s4
    refine wpIn_block (wpIn_seq (wpIn_region ?_))
    rw [ky_n.2.2.1]
    show wpOpsIn (wd none) n Tryd.prog (cops kyR2) _ [0, 1, 2] a4 w4
    have hent := run_entry_at (P := Tryd.prog) w4 r0 c clock seen cs clock x it4 map4 hxm hnd
    have ev5' : a4.eval (.tmp 5) = .pointer (some ⟨r0, 0, none⟩) := p5
    refine one_in ky_2.1 ky_2.2.2.2.1 (by rw [ky_2.2.1]; simp) (u := .tuple #[x.key, x.val]) (w' := w4) (by simp [execOp, ky_2.2.1, ev5', hent, Result.andThen]) ?_
    rw [ky_2.2.2.1]
    have k8 : ∀ j, (a4.put (some 8) (.tuple #[x.key, x.val])).tmps.getD j undef = if j = 8 then .tuple #[x.key, x.val] else a4.tmps.getD j undef := fun j => put_get' (by rw [n4]; decide)
    have R5 : Rel [] (itM r0) [.dead] w4 14 ((Env.put [] 5 (.ptr 0 0)).put 8 (.tup [.str (keyB x), .undef])) [.dead] (a4.put (some 8) (.tuple #[x.key, x.val])) w4 :=
      relI it4 (by rw [put_size]; exact n4) (by rw [put_defers]; exact d4) (by rw [k8, if_neg (by decide)]; exact p5) (by rw [k8, if_pos rfl]; exact ⟨#[x.key, x.val], rfl, _, _, rfl, hkey x hxm, _, _, rfl, trivial, rfl⟩)
    show wpOpsIn (wd none) n Tryd.prog (cops kyR2) _ ([1, 2] ++ []) _ _
    refine reg_in (k := fun e s => e.get 3 = .str (keyB x) ∧ e.get 5 = .ptr 0 0) sound0 exok (p := 0) (pv := .func (.yield l) #[] #[]) ?_ [1, 2] [⟨some 9, none, .ext 0 (.t 8)⟩, ⟨some 3, none, .mv (.t 9)⟩] rfl (hc_two ky_2.2.2.2.2.1 ky_2.2.2.2.2.2.1 ky_2.2.2.2.2.2.2.1 ky_2.2.2.2.2.2.2.2) rfl _ _ _ _ R5 (by rw [k8, if_neg (by decide)]; exact hp4) ?_
    rotate_left
    · simp only [XX, CC, YY, Nat.reduceAdd, Nat.reduceSub, Nat.reduceLeDiff, Nat.reduceLT, Nat.reduceEqDiff, reduceIte, ↓reduceIte, Nat.reduceBEq] <;> simp
    clear R5 k8 hent ev5'
    rintro e5 s5 a5 w5 ⟨g3, g5⟩ R5 hp5
    obtain ⟨hg5, n5, d5, q5, m5, hR5⟩ := itM_out R5 g5
    have q3 := hR5 3
    rw [g3] at q3
    have q3' : a5.tmps.getD 3 undef = .string (keyB x) := q3
    have it5 := (hg5.block r0 (Array.getElem?_eq_some_iff.1 it4).1 (by simp)).trans it4
    have map5 := (hg5.block c (Array.getElem?_eq_some_iff.1 map4).1 (by simp)).trans map4
    have hJ5 := hJ _ _ _ none hJ4 hg5 (by simp)
    clear hg5 R5 hR5 g3 g5 q3 m5 e5 s5
    refine wpIn_seq (wpIn_region ?_)
    rw [ky_n.2.2.2.1]
    show wpOpsIn (wd none) n Tryd.prog (cops kyR3) _ [0, 1, 2, 3] a5 w5
    refine one_in ky_3.1 ky_3.2.2.2.1 (by rw [ky_3.2.1]; simp) (u := .func (.yield l) #[] #[]) (w' := w5) (by simp [execOp, ky_3.2.1, Act.eval, hp5]) ?_
    rw [ky_3.2.2.1]
    have k10 : ∀ j, (a5.put (some 10) (.func (.yield l) #[] #[])).tmps.getD j undef = if j = 10 then .func (.yield l) #[] #[] else a5.tmps.getD j undef := fun j => put_get' (by rw [n5]; decide)
    have n6 : (a5.put (some 10) (.func (.yield l) #[] #[])).tmps.size = 14 := by rw [put_size]; exact n5
    have d6 : (a5.put (some 10) (.func (.yield l) #[] #[])).defers = [] := by rw [put_defers]; exact d5
    generalize ha6 : a5.put (some 10) (.func (.yield l) #[] #[]) = a6 at *
    refine one_in ky_3.2.2.2.2.1 ky_3.2.2.2.2.2.2.2 (by rw [ky_3.2.2.2.2.2.1]; simp) (u := .string (keyB x)) (w' := w5) (by simp only [execOp, ky_3.2.2.2.2.2.1, Act.eval, k10]; rw [if_neg (by decide), q3']; rfl) ?_
    rw [ky_3.2.2.2.2.2.2.1]
    have k11 : ∀ j, (a6.put (some 11) (.string (keyB x))).tmps.getD j undef = if j = 11 then .string (keyB x) else a6.tmps.getD j undef := fun j => put_get' (by rw [n6]; decide)
    have n7 : (a6.put (some 11) (.string (keyB x))).tmps.size = 14 := by rw [put_size]; exact n6
    have d7 : (a6.put (some 11) (.string (keyB x))).defers = [] := by rw [put_defers]; exact d6
    generalize ha7 : a6.put (some 11) (.string (keyB x)) = a7 at *
    have v10 : a7.tmps.getD 10 undef = .func (.yield l) #[] #[] := by rw [k11, if_neg (by decide), k10, if_pos rfl]
    have v11 : a7.tmps.getD 11 undef = .string (keyB x) := by rw [k11, if_pos rfl]
    have v0 : a7.tmps.getD 0 undef = .func (.yield l) #[] #[] := by rw [k11, if_neg (by decide), k10, if_neg (by decide)]; exact hp5
    have v5 : a7.tmps.getD 5 undef = .pointer (some ⟨r0, 0, none⟩) := by rw [k11, if_neg (by decide), k10, if_neg (by decide)]; exact q5
    have hlen : pre.length < cs.size + 1 := by
      have := ip.length_eq
      simp only [List.length_append, List.length_map, Array.length_toList] at this
      omega
    obtain ⟨fn, tmps, assign, body, hy, hR⟩ := hY pre (keyB x) w5 hJ5 hlen
    refine in_cons' ky_y.1 (by simp [Region.wanted, ky_y.2.2.2.1]) ⟨fun _ _ => trivial, ?_⟩
    have hrunY : ((copN kyR3 2).semAt (wd none).round a7.eval).run Tryd.prog w5 = .ok (.round l fn tmps assign body) w5 := by
      have e10 : a7.eval (.tmp 10) = .func (.yield l) #[] #[] := v10
      have e11 : a7.eval (.tmp 11) = .string (keyB x) := v11
      show (execOp a7.eval (copN kyR3 2)).run _ _ = _
      simp only [execOp, ky_y.2.1, resolve, e10, Deferred.ofValue, invoke, Sem.run_bind, Sem.run_pure, Result.andThen_ok, List.map_toArray, List.map_cons, List.map_nil, e11]
      simpa using hy
    rw [hrunY]
    refine ⟨fun h => (by cases h), hR.mono ?_⟩
    rw [ky_y.2.2.1]
    have k12 : ∀ (b : Bool) (j : Nat), (a7.put (some 12) (.bool b)).tmps.getD j undef = if j = 12 then .bool b else a7.tmps.getD j undef := fun b j => put_get' (by rw [n7]; decide)
    rintro e w8 (⟨rfl, hJ8, hk1, hk2⟩ | ⟨rfl, hJx8⟩)
    · have it8 := hk2 r0 _ hBle it5 rfl
      have map8 := hk1 map5
      have R8 : Rel [] (itM r0) [.dead] w8 14 ((Env.put [] 5 (.ptr 0 0)).put 12 (.bool true)) [.dead] (a7.put (some 12) (.bool true)) w8 :=
        relI it8 (by rw [put_size]; exact n7) (by rw [put_defers]; exact d7) (by rw [k12, if_neg (by decide)]; exact v5) (by rw [k12, if_pos rfl]; rfl)
      show wpOpsIn (wd none) n Tryd.prog (cops kyR3) _ ([3] ++ []) _ _
      refine reg_in (k := fun e s => e.get 13 = .bool false ∧ e.get 5 = .ptr 0 0) sound0 exok (p := 0) (pv := .func (.yield l) #[] #[]) ?_ [3] [⟨some 13, none, .un .not (.t 12)⟩] rfl (hc_one ky_y.2.2.2.2.1 ky_y.2.2.2.2.2) rfl _ _ _ _ R8 (by rw [k12, if_neg (by decide)]; exact v0) ?_
      rotate_left
      · simp only [XX, CC, YY, Nat.reduceAdd, Nat.reduceSub, Nat.reduceLeDiff, Nat.reduceLT, Nat.reduceEqDiff, reduceIte, ↓reduceIte, Nat.reduceBEq] <;> simp
      rintro e9 s9 a9 w9 ⟨g13, g5⟩ R9 hp9
      obtain ⟨hg9, n9, d9, z5, m9, hR9⟩ := itM_out R9 g5
      have it9 := (hg9.block r0 (Array.getElem?_eq_some_iff.1 it8).1 (by simp)).trans it8
      have map9 := (hg9.block c (Array.getElem?_eq_some_iff.1 map8).1 (by simp)).trans map8
      have htk := left_take hnd (cs := cs) (seen := seen) (x := x) (by unfold left; rw [List.mem_filter]; exact ⟨hxm, by rw [hxs]; rfl⟩)
      refine wpIn_cond_false (eval_of hR9 g13) (wpIn_skip ⟨⟨pre ++ [keyB x], seen.push x.born, hJ _ _ _ none hJ8 hg9 (by simp), ?_, map9, it9, n9, d9, hp9, z5⟩, ?_⟩)
      · rw [List.append_assoc]
        exact (((htk.map keyB).append_left pre).symm).trans ip
      · have hl := htk.length_eq
        simp only [it9, ii, iterO]
        simp only [List.length_cons] at hl
        omega
    · have R8 : Rel [] (fun _ => none) [] w8 14 (Env.put [] 12 (.bool false)) [] (a7.put (some 12) (.bool false)) w8 :=
        ⟨_, (start_nil w8).sim, ER.cons' ER.nil' (by rw [k12, if_pos rfl]; rfl), Goes.refl _ _ _, by rw [put_size]; exact n7, by rw [put_defers]; exact d7⟩
      show wpOpsIn (wd none) n Tryd.prog (cops kyR3) _ ([3] ++ []) _ _
      refine reg_in (k := fun e s => e.get 13 = .bool true) sound0 exok (p := 0) (pv := .func (.yield l) #[] #[]) ?_ [3] [⟨some 13, none, .un .not (.t 12)⟩] rfl (hc_one ky_y.2.2.2.2.1 ky_y.2.2.2.2.2) rfl _ _ _ _ R8 (by rw [k12, if_neg (by decide)]; exact v0) ?_
      rotate_left
      · simp only [XX, CC, YY, Nat.reduceAdd, Nat.reduceSub, Nat.reduceLeDiff, Nat.reduceLT, Nat.reduceEqDiff, reduceIte, ↓reduceIte, Nat.reduceBEq] <;> simp
      rintro e9 s9 a9 w9 g13 ⟨m9, hS9, hR9, hG9, hN9, hD9⟩ hp9
      have hgr9 := goes_grown hG9 (fun i l h => by cases h)
      refine wpIn_cond_true (eval_of hR9 g13) (wpIn_ret ?_)
      exact ⟨hD9, .tuple #[], by simp [results, ky_n.2.2.2.2.2], ⟨_, rfl⟩, .inr ⟨pre ++ [keyB x], trivial, hJx _ _ _ none hJx8 hgr9 (by simp)⟩⟩
end Go.Ev

/-! Slices: cut, kept, written. -/
namespace Go.Ev
set_option linter.unusedVariables false
set_option linter.unusedSimpArgs false

/-- A write into a block that was there before. -/
theorem st_in {t : St} {b n o : Nat} {cs vs : List AV} (h : t[b]? = some (.cells true cs)) (hv : vs.length = n) (hc : vs.all AV.cell = true) (ho : o + n ≤ cs.length) (l : St) :
    stA (t ++ l) (some n) (.ptr b o) (.agg vs) = some (t.set b (.cells true (setL cs o vs)) ++ l) := by
  have hb := (List.getElem?_eq_some_iff.1 h).1
  rw [st_agg hv, wr_own (by rw [List.getElem?_append_left hb]; exact h), if_pos ⟨by omega, hc⟩, List.set_append_left _ _ hb]
theorem st_in0 {t : St} {b n o : Nat} {cs vs : List AV} (h : t[b]? = some (.cells true cs)) (hv : vs.length = n) (hc : vs.all AV.cell = true) (ho : o + n ≤ cs.length) :
    stA t (some n) (.ptr b o) (.agg vs) = some (t.set b (.cells true (setL cs o vs))) := by
  have := st_in h hv hc ho []
  simpa using this

section
variable {α : Type} {e : Nat} {enc : α → List AV} {s : St} {v : AV} {l : List α}
end
section
variable {α : Type} {e : Nat} {enc : α → List AV} {s : St} {v : AV} {l : List α}
end


theorem ext_get {s t : St} (h : ∀ i, i < s.length → t[i]? = s[i]?) : Ext s t := by
  refine ⟨t.drop s.length, ?_⟩
  have : t.take s.length = s := by
    apply List.ext_getElem?
    intro i
    rw [List.getElem?_take]
    split
    · rename_i hi; exact h i hi
    · rename_i hi; rw [List.getElem?_eq_none (by omega)]
  conv => lhs; rw [← List.take_append_drop s.length t, this]
section
variable {α : Type} {e n : Nat} {enc : α → List AV} {s t : St} {v : AV} {l : List α}
theorem Rd.keep {t' : St} (h : Rd e enc t v l) (hk : ∀ i o e' k c, v = .sl i o e' k c → t'[i]? = t[i]?) (hl : t.length ≤ t'.length) : Rd e enc t' v l := by
  refine ⟨h.len, ?_, under_mono hl v h.under⟩
  have h2 := h.cells
  cases v with
  | sl b o es m c =>
    simp only [cellsA, rdB] at h2 ⊢
    rw [hk b o es m c rfl]; exact h2
  | nils => exact h2
  | _ => simp [cellsA] at h2
theorem Rd.lt (h : Rd e enc t v l) {i o e' k : Nat} {c : Option Nat} (hv : v = .sl i o e' k c) : i < t.length := by
  subst hv
  have := h.under
  simpa [AV.under] using this
theorem Own.ge (h : Own n e enc t v l) {i o e' k : Nat} {c : Option Nat} (hv : v = .sl i o e' k c) : n ≤ i := by
  rcases h with ⟨rfl, _⟩ | ⟨b, c2, cs, h1, _, rfl, _⟩
  · cases hv
  · cases hv; exact h1
end
section
open Go.Ev.So
variable {α : Type} {e n : Nat} {enc : α → List AV} {s t : St} {v : AV} {l : List α}
/-- An element of an own slice is written. -/
theorem own_at {l : List α} (he : ∀ x, (enc x).length = e) (hce : ∀ x, (enc x).all AV.cell = true) (h : Own n e enc t v l) {i : Nat} (hi : i < l.length) (q : α) : ∃ b x, n ≤ b ∧ (∃ o e' k c, v = .sl b o e' k c) ∧ (∀ k : IntKind, ixaA e v (.int k (i : Int)) = some (.ptr b (i * e))) ∧
    stA t (some e) (.ptr b (i * e)) (.agg (enc q)) = some (t.set b x) ∧ (∀ r, stA (t ++ r) (some e) (.ptr b (i * e)) (.agg (enc q)) = some (t.set b x ++ r)) ∧ Own n e enc (t.set b x) v (l.set i q) := by
  rcases h with ⟨_, h⟩ | ⟨b, c, cs, h3, h4, rfl, h5, h6⟩
  · rw [h] at hi; simp at hi
  · have hb := (List.getElem?_eq_some_iff.1 h5).1
    have hle : i * e + e ≤ (l.flatMap enc ++ cs).length := by
      rw [List.length_append, flat_len he]
      have : (i + 1) * e ≤ l.length * e := Nat.mul_le_mul_right _ hi
      rw [Nat.succ_mul] at this
      omega
    refine ⟨b, .cells true ((l.set i q).flatMap enc ++ cs), h3, ⟨_, _, _, _, rfl⟩, fun k => by rw [ixa_nat hi, Nat.zero_add], ?_, fun r => ?_, .inr ⟨b, c, cs, h3, by simpa using h4, by simp, key_set hb, h6⟩⟩
    · rw [st_in0 h5 (he q) (hce q) hle, set_flat he q cs l i hi]
    · rw [st_in h5 (he q) (hce q) hle, set_flat he q cs l i hi]
end
end Go.Ev

/-! slices.AppendSeq of a map's keys: its contract. -/
namespace Go.Ev
set_option linter.unusedVariables false
set_option linter.unusedSimpArgs false
open Go.Ev.So Go.Proofs

noncomputable def asC : Code := Tryd.f56.body.getD .skip
noncomputable def asL : Code := cinn (csnd (cfst (csnd asC)))
def rfA : Code → Code
  | .rangeFunc _ _ a _ => a
  | c => c
def rfB : Code → Code
  | .rangeFunc _ _ _ b => b
  | c => c
noncomputable def asR0 : Code := cfst asC
noncomputable def asR1 : Code := cfst (cfst (csnd asC))
noncomputable def asR2 : Code := rfA asL
noncomputable def asR3 : Code := cinn (rfB asL)
noncomputable def asR4 : Code := cfst (csnd (csnd asC))
theorem as_body : Tryd.f56.body = some (.seq (.region 0 (cops asR0) false) (.seq (.seq (.region 1 (cops asR1) false)
    (.block 0 (.rangeFunc (.tmp 6) #[7] (.region 2 (cops asR2) false) (.block 1 (.region 3 (cops asR3) false))))) (.seq asR4 .ret))) := by kernel_rfl
def aq0 : List ROp := [⟨some 2, none, .box none (.t 0)⟩, ⟨some 4, none, .mv (.k .nils)⟩]
def aq1 : List ROp := [⟨some 6, none, .mv (.t 1)⟩]
def aq3 : List ROp := [⟨some 8, none, .ld none (.t 2)⟩, ⟨some 9, none, .mv (.t 5)⟩, ⟨some 10, none, .bsl 1 1 [.str (bts [])] [(0, 1, .t 9)]⟩, ⟨some 11, none, .app 1 16 (.t 8) (.t 10)⟩, ⟨none, none, .st none (.t 2) (.t 11)⟩]
def aq4 : RC := .reg [⟨some 12, none, .ld none (.t 2)⟩, ⟨some 4, none, .mv (.t 12)⟩]
theorem as_c0 : compRs Tryd.prog ex0 13 (cops asR0) (cops asR0).toList = some aq0 := by kernel_rfl
theorem as_c1 : compRs Tryd.prog ex0 13 (cops asR1) (cops asR1).toList = some aq1 := by kernel_rfl
theorem as_c3 : compRs Tryd.prog ex0 13 (cops asR3) (cops asR3).toList = some aq3 := by kernel_rfl
theorem as_c4 : compC Tryd.prog ex0 13 asR4 = some aq4 := by kernel_rfl
theorem as_n : (cops asR0).size = 2 ∧ (cops asR1).size = 1 ∧ (cops asR2).size = 1 ∧ (cops asR3).size = 5 := ⟨by kernel_rfl, by kernel_rfl, by kernel_rfl, by kernel_rfl⟩
theorem as_as : (cops asR2)[0]? = some (copN asR2 0) ∧ (copN asR2 0).op = Op.assign (.tmp 7) ∧ (copN asR2 0).dst = some 5 ∧ (copN asR2 0).guard = none := ⟨by kernel_rfl, by kernel_rfl, by kernel_rfl, by kernel_rfl⟩
theorem as_nt : Tryd.f56.ntmps = 13 := by kernel_rfl
theorem as_rs : compRes Tryd.prog Tryd.f56.results.toList = some [.tmp 4] := by kernel_rfl
/-- The list as the loop keeps it. -/
def OwnN (n : Nat) (t : St) (v : AV) (l : List ByteArray) : Prop := (v = .nils ∧ l = []) ∨ ∃ b, n ≤ b ∧ v = .sl b 0 1 l.length none ∧ l ≠ [] ∧ t[b]? = some (.cells true (l.flatMap cS))
def Cel (n : Nat) (t : St) : Prop := ∀ i b, n ≤ i → t[i]? = some b → (∃ o c, b = .cells o c) ∨ b = .dead
theorem Cel.app {n : Nat} {t : St} (h : Cel n t) (o : Bool) (c : List AV) : Cel n (t ++ [.cells o c]) := by
  intro i b hi hb
  by_cases hl : i < t.length
  · rw [List.getElem?_append_left hl] at hb; exact h i b hi hb
  · rw [List.getElem?_append_right (by omega)] at hb
    cases hk : i - t.length with
    | zero => rw [hk] at hb; cases hb; exact .inl ⟨_, _, rfl⟩
    | succ k => rw [hk] at hb; simp at hb
theorem Cel.set {n : Nat} {t : St} (h : Cel n t) {j : Nat} {x : Blk} (hx : (∃ o c, x = .cells o c) ∨ x = .dead) : Cel n (t.set j x) := by
  intro i b hi hb
  rw [List.getElem?_set] at hb
  split at hb
  · split at hb
    · cases hb; exact hx
    · cases hb
  · exact h i b hi hb
theorem sc_app {n : Nat} {t : St} {v : AV} {l : List ByteArray} (x : ByteArray) (ho : OwnN n t v l) (hn : n ≤ t.length) (hc : Cel n t) (hl : l.length < 1000000000000) :
    ∃ v' t', appA (t ++ [.cells true (cS x)]) 1 16 v (.sl t.length 0 1 1 (some 1)) = some (v', t') ∧ OwnN n t' v' (l ++ [x]) ∧ v'.cell = true ∧ t.length ≤ t'.length ∧ (∀ i, i < n → t'[i]? = t[i]?) ∧ Cel n t' := by
  have hy : cellsA (t ++ [Blk.cells true (cS x)]) 1 (.sl t.length 0 1 1 (some 1)) = some (cS x) := by
    simp only [cellsA, rd_own (get_last (s := t) (b := Blk.cells true (cS x))), List.drop_zero, true_and]
    rw [if_pos (by simp [cS])]; rfl
  rcases ho with ⟨rfl, rfl⟩ | ⟨b, hb, rfl, _, h3⟩
  · refine ⟨.sl (t.length + 1) 0 1 1 none, t ++ [.cells true (cS x)] ++ [.cells true (cS x)], ?_, .inr ⟨t.length + 1, by omega, rfl, by simp, by simp⟩, rfl, by simp, fun i hi => ?_, (hc.app _ _).app _ _⟩
    · simp only [appA, hy, lenA, show cellsA (t ++ [Blk.cells true (cS x)]) 1 .nils = some [] from rfl]
      rw [if_pos ⟨cS_cell x, rfl, by decide⟩, if_neg (by decide)]
      simp
    · rw [List.append_assoc, List.getElem?_append_left (by omega)]
  · have hbl := (List.getElem?_eq_some_iff.1 h3).1
    have h3' : (t ++ [Blk.cells true (cS x)])[b]? = some (.cells true (l.flatMap cS)) := by rw [List.getElem?_append_left hbl]; exact h3
    have hx : cellsA (t ++ [Blk.cells true (cS x)]) 1 (.sl b 0 1 l.length none) = some (l.flatMap cS) := by
      simp only [cellsA, rd_own h3', List.drop_zero, true_and]
      have := flat_len cS_len l
      rw [if_pos (by omega), List.take_of_length_le (by omega)]
    refine ⟨.sl (t.length + 1) 0 1 (l.length + 1) none, (t ++ [Blk.cells true (cS x)]).set b Blk.dead ++ [.cells true (l.flatMap cS ++ cS x)], ?_, .inr ⟨t.length + 1, by omega, by simp, by simp, ?_⟩, rfl, by simp; omega, fun i hi => ?_, (((hc.app _ _).set (.inr rfl)).app _ _)⟩
    · simp only [appA, hy, hx, lenA, h3']
      rw [if_pos ⟨cS_cell x, cells_flat cS_cell l, by omega⟩, if_neg (by decide)]
      simp
    · rw [List.getElem?_append_right (by simp)]
      simp
    · rw [List.getElem?_append_left (by simp; omega), List.getElem?_set_ne (by omega), List.getElem?_append_left (by omega)]

theorem Ret.cq {m0 m : Inj} {s s1 : St} {w w1 : World} {v : Value} {r : AV} {k : AV → St → Prop} (h0 : Sim m0 s w) (hS : Sim m s1 w1) (hG : Goes m0 s w m s1 w1) (hv : VR m r v) (h : Ret s r s1 k) : CQ m0 s w k (.returned v) w1 := by
  rcases h with hk | ⟨r', s', hg, hk⟩ | ⟨r', s', hg, hk⟩
  · exact ⟨_, _, m, v, hk, rfl, hS, hG, hv⟩
  · obtain ⟨m2, g1, g2, g3⟩ := hg.sound h0 hS hG hv
    exact ⟨r', s', m2, v, hk, rfl, g1, g2, g3⟩
  · obtain ⟨g1, g2, g3⟩ := hg.sound hS hv hG
    exact ⟨r', s', m, v, hk, rfl, g1, g2, g3⟩


theorem mr_key {m : Inj} : ∀ {es : List (AV × AV × Nat)} {cs : List MapEntry}, (∀ e ∈ es, ∃ n, e.1 = .str n ∧ n.size ≤ 32) → MR m es cs → (∀ x ∈ cs, ∃ s, x.key = .string s) ∧ cs.map keyB = keysOf es
  | [], _, _, h => by rw [show _ = [] from h]; exact ⟨fun x hx => by simp at hx, rfl⟩
  | (k, v, b) :: es, _, hs, ⟨y, r, rfl, h1, h2, h3, h⟩ => by
    obtain ⟨n, hn, _⟩ := hs _ (List.mem_cons_self ..)
    simp only at hn
    subst hn
    have h1' : y.key = .string n := h1
    obtain ⟨g1, g2⟩ := mr_key (fun e he => hs e (List.mem_cons_of_mem _ he)) h
    refine ⟨fun x hx => ?_, ?_⟩
    · rcases List.mem_cons.1 hx with rfl | hx
      · exact ⟨n, h1'⟩
      · exact g1 x hx
    · rw [List.map_cons, g2]
      show keyB y :: _ = n :: _
      unfold keyB; rw [h1']
theorem mr_fun {m m2 : Inj} (hle : m.le m2) : ∀ {es : List (AV × AV × Nat)} {cs cs2 : List MapEntry}, (∀ e ∈ es, (∃ n, e.1 = .str n ∧ n.size ≤ 32) ∧ ∃ b, e.2.1 = .ptr b 0) → MR m es cs → MR m2 es cs2 → cs = cs2
  | [], _, _, _, h, h2 => by rw [show _ = [] from h, show _ = [] from h2]
  | (k, v, b) :: es, _, _, hs, ⟨y, r, rfl, h1, h2, h3, h⟩, ⟨y2, r2, rfl, k1, k2, k3, kk⟩ => by
    obtain ⟨⟨n, hn, _⟩, bb, hb⟩ := hs _ (List.mem_cons_self ..)
    simp only at hn hb
    subst hn
    subst hb
    have h1' : y.key = .string n := h1
    have k1' : y2.key = .string n := k1
    obtain ⟨l, hl, hv⟩ := h2
    obtain ⟨l2, hl2, hv2⟩ := k2
    rw [hle _ _ hl] at hl2
    cases hl2
    have e : y = y2 := by
      cases y; cases y2
      simp only at *
      subst h1'; subst k1'; subst hv; subst hv2; subst h3; subst k3; rfl
    rw [e, mr_fun hle (fun e he => hs e (List.mem_cons_of_mem _ he)) h kk]
/-- Between two rounds. -/
structure AsS (n p mb : Nat) (es : List (AV × AV × Nat)) (c : Nat) (s : St) (pre : List ByteArray) (t : St) (vo : AV) : Prop where
  key : KeyA s p mb es c
  ext : Ext s t
  ln : s.length = n
  lst : t[n]? = some (.cells true [vo])
  own : OwnN (n + 1) t vo pre
  cel : Cel n t
def AsI (p mb : Nat) (es : List (AV × AV × Nat)) (c : Nat) (m0 : Inj) (s : St) (w0 : World) (m3 : Inj) (pre : List ByteArray) (W : World) : Prop :=
  ∃ m t vo, Sim m t W ∧ Goes m0 s w0 m t W ∧ m3.le m ∧ AsS s.length p mb es c s pre t vo

set_option maxHeartbeats 1000000 in
theorem as_3 (x : ByteArray) (n p mb : Nat) (es : List (AV × AV × Nat)) (c : Nat) (s t : St) (pre : List ByteArray) (vo : AV) (h : AsS n p mb es c s pre t vo) (e : Env) (g2 : e.get 2 = .ptr n 0) (g5 : e.get 5 = .str x) (hl : pre.length < 1000000000000) :
    opsA (Run T0) aq3 e t fun e' t' => ∃ vo', AsS n p mb es c s (pre ++ [x]) t' vo' := by
  have hnl : n < t.length := (List.getElem?_eq_some_iff.1 h.lst).1
  have hcel3 : Cel (n + 1) t := fun i b hi hb => h.cel i b (by omega) hb
  have hsl : s.length = n := h.ln
  obtain ⟨v', t', a1, a2, a3, a4, a5, a6⟩ := sc_app x h.own (by omega) hcel3 hl
  have l0 : ldA t none (.ptr n 0) = some vo := by rw [ld_own h.lst]; rfl
  have hf : fillA [AV.str (bts [])] [(0, 1, .str x)] = some (cS x) := rfl
  have hr1 : (List.replicate 1 [AV.str (bts [])]).flatten = [.str (bts [])] := rfl
  have hn' : t'[n]? = some (.cells true [vo]) := by rw [a5 n (by omega)]; exact h.lst
  have s1 : stA t' none (.ptr n 0) v' = some (t'.set n (.cells true [v'])) := by
    rw [st_one a3, wr_own hn', if_pos ⟨by simp, by simp [a3]⟩]; rfl
  simp only [aq3, XX, CC, YY, Nat.reduceAdd, Nat.reduceSub, Nat.reduceLeDiff, Nat.reduceLT, Nat.reduceEqDiff, reduceIte, ↓reduceIte, Nat.reduceBEq, g2, g5, l0, hr1, hf, a1, s1]
  have hce : Cel n t' := fun i b hi hb => by
    by_cases hi3 : i < n + 1
    · rw [a5 i hi3] at hb; exact h.cel i b hi hb
    · exact a6 i b (by omega) hb
  refine ⟨v', h.key, ?_, hsl, key_set (by omega), ?_, hce.set (.inl ⟨_, _, rfl⟩)⟩
  · exact ext_get fun i hi => by
      rw [List.getElem?_set_ne (by omega), a5 i (by omega), h.ext.get hi]
  · rcases a2 with ⟨_, k⟩ | ⟨b, k1, k2, k4, k3⟩
    · simp at k
    · exact .inr ⟨b, k1, k2, k4, by rw [List.getElem?_set_ne (by omega)]; exact k3⟩

section
variable {p mb : Nat} {es : List (AV × AV × Nat)} {c : Nat} {m0 : Inj} {s : St} {w0 : World} {m3 : Inj} {pre : List ByteArray} {W : World}
/-- A block that is no cells of the run's. -/
theorem sc_out {m : Inj} {t : St} {r : Nat} {o : Obj} (h0 : Sim m0 s w0) (hS : Sim m t W) (hG : Goes m0 s w0 m t W) (hc : Cel s.length t) (hB : w0.heap.size ≤ r) (ho : W.heap[r]? = some o) (hn : o.isCells = false) : ∀ i l, m i = some l → l.c = r → t[i]? = some .dead := by
  intro i l hi hl
  rcases hG.new i l hi with h | h
  · have := (h0.lt h).2; omega
  · obtain ⟨b, o', h1, h2, h3⟩ := hS.at_ i l hi
    rw [hl, ho] at h2
    cases h2
    rcases hc i b h h1 with ⟨w, c, rfl⟩ | rfl
    · obtain ⟨c', t', fz, rfl, _⟩ := h3
      cases hn
    · exact h1
theorem asI_own (h0 : Sim m0 s w0) (B : Nat) (hB : w0.heap.size ≤ B) : OwnFrom B (AsI p mb es c m0 s w0 m3) := by
  rintro pre W W' row ⟨m, t, vo, hS, hG, hle, hs⟩ hg hr
  refine ⟨m, t, vo, grown_sim hS hg fun i l hi e => ?_, grown_goes hG hg fun c e => ?_, hle, hs⟩
  · obtain ⟨h1, o, h2, h3⟩ := hr _ e
    exact sc_out h0 hS hG hs.cel (by omega) h2 h3 i l hi rfl
  · have := (hr _ e).1; omega
/-- The map, and the box that names it. -/
theorem AsI.map (h : AsI p mb es c m0 s w0 m3 pre W) {lb lp : Loc} (hl : m3 mb = some lb) (hp : m3 p = some lp) :
    (∃ m cs, m3.le m ∧ W.heap[lb.c]? = some (.map cs c) ∧ MR m es cs.toList) ∧ ∃ cc t fz, W.heap[lp.c]? = some (.cells cc t fz) ∧ cc[lp.d]? = some (.map (some lb.c)) := by
  obtain ⟨m, t, vo, hS, hG, hle, hs⟩ := h
  have hk := hs.key
  have hml := (List.getElem?_eq_some_iff.1 hk.map).1
  have hpl := (List.getElem?_eq_some_iff.1 hk.box).1
  obtain ⟨cs, h1, h2⟩ := map_obj hS (hle _ _ hl) (es := es) (c := c) ((hs.ext.get hml).trans hk.map)
  refine ⟨⟨m, cs, hle, h1, h2⟩, ?_⟩
  obtain ⟨b, o, g1, g2, g3⟩ := hS.at_ _ _ (hle _ _ hp)
  rw [(hs.ext.get hpl).trans hk.box] at g1
  cases g1
  obtain ⟨cc, ty, fz, rfl, hz, hr, _⟩ := g3
  obtain ⟨v, hv, l, hvl, hvr⟩ := hr 0 _ rfl
  rw [hle _ _ hl] at hvl
  cases hvl
  exact ⟨cc, ty, fz, g2, by rw [← hvr]; exact hv⟩
end
end Go.Ev

/-! slices.AppendSeq of a map's keys: its contract, the end. -/
namespace Go.Ev
set_option linter.unusedVariables false
set_option linter.unusedSimpArgs false
open Go.Ev.So Go.Proofs

theorem ky_known : Known Tryd.prog 49 := ⟨⟨_, Tryd.func49, by kernel_rfl, by kernel_rfl⟩⟩
theorem as_known : Known Tryd.prog 56 := ⟨⟨_, Tryd.func56, by kernel_rfl, by kernel_rfl⟩⟩
theorem kpm_put {c : Nat} {cs : Array MapEntry} {clock B : Nat} {W : World} {l : Nat} {o o' : Obj} (hc : c < B) (hl : B ≤ l) (ho : W.heap[l]? = some o) (hn : o.isWalk = false) : KpM c cs clock B W (W.putObj l o') := by
  refine ⟨fun h => ?_, fun k x hk hx hw => ?_⟩
  · rw [World.putObj_heap_other (show c ≠ l by omega)]; exact h
  · have hne : k ≠ l := by rintro rfl; rw [ho] at hx; cases hx; rw [hn] at hw; cases hw
    rw [World.putObj_heap_other hne]; exact hx
theorem KpM.mono {c : Nat} {cs : Array MapEntry} {clock B B' : Nat} {W W' : World} (h : KpM c cs clock B W W') (hB : B ≤ B') : KpM c cs clock B' W W' := ⟨h.1, fun k o hk => h.2 k o (by omega)⟩
theorem KpM.trans {c : Nat} {cs : Array MapEntry} {clock B : Nat} {W W' W2 : World} (h : KpM c cs clock B W W') (h2 : KpM c cs clock B W' W2) : KpM c cs clock B W W2 := ⟨fun x => h2.1 (h.1 x), fun k o hk ho hw => h2.2 k o hk (h.2 k o hk ho hw) hw⟩
theorem as_ret {n p mb : Nat} {es : List (AV × AV × Nat)} {c : Nat} {s t : St} {l : List ByteArray} {vo : AV} {k : AV → St → Prop} (h : AsS n p mb es c s l t vo) (hk : ∀ v t, Made s l v t → k v t) : Ret s vo t k := by
  obtain ⟨_, hx, rfl, hl, ho, hc⟩ := h
  rcases ho with ⟨rfl, hn⟩ | ⟨b, hb, rfl, hn, hbb⟩
  · exact ret_drop hx rfl (hk _ _ (.inl ⟨hn, rfl, rfl⟩))
  · refine ret_one (r := .sl s.length 0 1 l.length none) hx (by omega) hbb ?_ (by simp [AV.under]) (unders_flat cS_un _) (hk _ _ (.inr ⟨hn, rfl, rfl⟩))
    simp [AV.ren]

set_option maxHeartbeats 8000000 in
theorem asq : Asq := by
  intro s p mb es c k hk hl
  refine ⟨as_known, fun m0 w0 vs h0 hv => ?_⟩
  refine (callsIn_wide (n := 9)).1 (?_ : CallsIn (wd none) 9 Tryd.prog 56 vs w0 _)
  refine callsIn_of_wp_marks Tryd.func56 as_body trivial ?_ rfl
  rw [as_nt]
  have R0 := rel_start h0 hv (N := 13) (by simp)
  refine wpIn_seq (wpIn_region ?_)
  rw [as_n.1, show List.range 2 = List.range' 0 2 ++ [] from rfl]
  refine reg_in (k := fun e' s' => s' = s ++ [.cells true [.nils]] ∧ e'.get 2 = .ptr s.length 0 ∧ e'.get 1 = .fn 49 [.ptr p 0]) sound0 exok (p := 30) (pv := undef) ?_ (List.range' 0 2) ((aq0.drop 0).take 2) (by kernel_rfl) (hc_of as_c0 0 2) (by kernel_rfl) _ _ _ _ R0 ?_ ?_
  rotate_left
  · obtain ⟨_, _, _, _, hN, _⟩ := R0
    rw [Array.getD_eq_getD_getElem?, Array.getElem?_eq_none (by rw [hN]; decide)]; rfl
  · show opsA (Run T0) aq0 _ _ _
    simp only [aq0, XX, CC, YY, Nat.reduceAdd, Nat.reduceSub, Nat.reduceLeDiff, Nat.reduceLT, Nat.reduceEqDiff, reduceIte, ↓reduceIte, Nat.reduceBEq]
  rintro e1 s1 a1 w1 ⟨rfl, g2, g1⟩ R1 hp1
  refine wpIn_seq (wpIn_seq (wpIn_region ?_))
  rw [as_n.2.1, show List.range 1 = List.range' 0 1 ++ [] from rfl]
  refine reg_in (k := fun e' s' => s' = s ++ [.cells true [.nils]] ∧ e'.get 2 = .ptr s.length 0 ∧ e'.get 6 = .fn 49 [.ptr p 0]) sound0 exok (p := 30) (pv := undef) ?_ (List.range' 0 1) ((aq1.drop 0).take 1) (by kernel_rfl) (hc_of as_c1 0 1) (by kernel_rfl) _ _ _ _ R1 hp1 ?_
  rotate_left
  · show opsA (Run T0) aq1 _ _ _
    simp only [aq1, XX, CC, YY, Nat.reduceAdd, Nat.reduceSub, Nat.reduceLeDiff, Nat.reduceLT, Nat.reduceEqDiff, reduceIte, ↓reduceIte, Nat.reduceBEq, g1, g2]
  clear R1 hp1 g1 g2
  rintro e4 s4 a4 w4 ⟨rfl, g2, g6⟩ ⟨m4, hS4, hE4, hG4, hN4, hD4⟩ hp4
  have hsz := hG4.size
  have hS0 : AsS s.length p mb es c s [] (s ++ [.cells true [.nils]]) .nils := by
    refine ⟨hk, ⟨_, rfl⟩, rfl, by simp, .inl ⟨rfl, rfl⟩, fun i b hi hb => ?_⟩
    rw [List.getElem?_append_right hi] at hb
    match h : i - s.length with
    | 0 => rw [h] at hb; cases hb; exact .inl ⟨_, _, rfl⟩
    | k + 1 => rw [h] at hb; simp at hb
  have hI0 : AsI p mb es c m0 s w0 m4 [] w4 := ⟨m4, _, _, hS4, hG4, Inj.le_refl _, hS0⟩
  have v2 := hE4 2
  rw [g2] at v2
  have v6 := hE4 6
  rw [g6] at v6
  obtain ⟨lb, e8, y1, ys, e9, ⟨lp, hlp, rfl⟩, rfl⟩ := v6
  obtain rfl : lb = #[.pointer (some ⟨lp.c, lp.d, none⟩)] := by apply Array.ext'; exact e9
  -- the map's place
  have hbx : (s ++ [Blk.cells true [.nils]])[p]? = some (.cells true [.map mb]) := by rw [List.getElem?_append_left (List.getElem?_eq_some_iff.1 hk.box).1]; exact hk.box
  obtain ⟨lm, hlm⟩ : ∃ lm, m4 mb = some lm := by
    obtain ⟨b, o, q1, q2, q3⟩ := hS4.at_ _ _ hlp
    rw [hbx] at q1
    cases q1
    obtain ⟨cc, ty, fz, rfl, hz, hr, _⟩ := q3
    obtain ⟨v, hv, l, hvl, hvr⟩ := hr 0 _ rfl
    exact ⟨l, hvl⟩
  obtain ⟨⟨m4', cs, hle4, hmap4, hmr4⟩, hbox4⟩ := hI0.map hlm hlp
  obtain ⟨hks, hkb⟩ := mr_key hk.str hmr4
  have hbo := hmr4.born
  have hnd : (cs.toList.map (·.born)).Nodup := by rw [hbo]; exact hk.stamps
  have hold : ∀ x ∈ cs.toList, x.born < c := fun x hx => by
    obtain ⟨kk, v, b, q1, _, _, q2⟩ := hmr4.mem hx
    rw [q2]; exact hk.old _ q1
  have hcs : cs.size = es.length := by
    have := congrArg List.length hbo
    simpa using this
  have hcl : lm.c < w4.heap.size := (Array.getElem?_eq_some_iff.1 hmap4).1
  have tk : ∀ (x : ByteArray) (j : Nat), ((a4.tmps.setIfInBounds 7 (.string x)).setIfInBounds 5 (.string x)).getD j undef = if j = 5 then .string x else if j = 7 then .string x else a4.tmps.getD j undef := by
    intro x j
    have h1 := put_get' (a := (a4.put (some 7) (.string x))) (t := 5) (j := j) (u := .string x) (by rw [put_size, hN4]; decide)
    have h2 := put_get' (a := a4) (t := 7) (j := j) (u := .string x) (by rw [hN4]; decide)
    rw [h2] at h1
    exact h1
  refine wpIn_block ?_
  refine wpIn_rangeFunc_ownG (α := ByteArray) (encs := fun x => #[.string x]) (Kp := KpM lm.c cs c w4.heap.size) (S := fun ys => ys.Perm (cs.toList.map keyB)) (Sp := fun _ => True) (N := cs.size + 1) (w0 := w4) (gf := 49) (lb := #[.pointer (some ⟨lp.c, lp.d, none⟩)])
    rfl (by decide) e8 trivial (fun args w => run_callFunc_known ky_known args w) ?seq (fun h k => h.trans k) (fun W l' o o' hl' ho hn hw => kpm_put hcl hl' ho hw) (Go.RowKit.Below.refl _ _) (fun _ => rfl) (AsI p mb es c m0 s w0 m4) (fun _ _ _ => False) (asI_own h0 _ hsz) (fun _ _ _ _ _ h _ _ => h) hI0
    (fun x => { tmps := (a4.tmps.setIfInBounds 7 (.string x)).setIfInBounds 5 (.string x), defers := [] }) ?assign ?body ?done ?stop
  case seq =>
    intro l' J Jx W hW hJ hJx hY hj
    have hle : w4.heap.size ≤ W.heap.size := hW.size
    refine keys1_in 8 lm.c c cs hks hnd hold l' lp.c lp.d J Jx W hJ hJx (fun pre x W1 hj1 hlt => ?_) ?_ ?_ hj
    · obtain ⟨fn, tmps, assign, body, hy, hR⟩ := hY pre x W1 hj1 hlt
      refine ⟨fn, tmps, assign, body, hy, hR.mono ?_⟩
      rintro e W' (⟨q1, q2, q3⟩ | q)
      · exact .inl ⟨q1, q2, q3.mono hle⟩
      · exact .inr q
    · obtain ⟨cc, t, fz, k1, k2⟩ := hbox4
      exact ⟨cc, t, fz, (hW.block _ (Array.getElem?_eq_some_iff.1 k1).1).trans k1, k2⟩
    · exact (hW.block _ hcl).trans hmap4
  case assign =>
    intro l' x W K hK
    refine wpIn_region ?_
    rw [as_n.2.2.1]
    have k9 := put_get' (a := a4) (t := 7) (j := 7) (u := .string x) (by rw [hN4]; decide)
    rw [if_pos rfl] at k9
    refine one_in (r := some l') (l := []) (w' := W) (u := .string x) as_as.1 as_as.2.2.2 (by rw [as_as.2.1]; simp) ?_ ?_
    · simp only [execOp, as_as.2.1, Act.eval]
      rw [show ((#[7].zip #[Value.string x]).foldl (fun t (x : Tmp × Value) => t.setIfInBounds x.1 x.2) a4.tmps) = a4.tmps.setIfInBounds 7 (.string x) from by simp]
      have : (a4.tmps.setIfInBounds 7 (Value.string x)).getD 7 undef = .string x := k9
      rw [this]; rfl
    · rw [as_as.2.2.1]
      show Exit.then K _ .normal _ _
      have e : ((#[7].zip #[Value.string x]).foldl (fun t (x : Tmp × Value) => t.setIfInBounds x.1 x.2) a4.tmps) = a4.tmps.setIfInBounds 7 (.string x) := by simp
      rw [show (fun (t : Array Value) (x : Tmp × Value) => match x with | (p, v) => t.setIfInBounds p v) = fun t x => t.setIfInBounds x.1 x.2 from rfl, e]
      exact hK
  case body =>
    rintro l' pre x W ⟨m, t, vo, hS, hG, hle, hs⟩ hlt
    show Code.wpIn (wd (some l')) 7 _ _ _ _ _
    have hI : AsI p mb es c m0 s w0 m4 pre W := ⟨m, t, vo, hS, hG, hle, hs⟩
    have R : Rel [] m t W 13 ((Env.put [] 2 (.ptr s.length 0)).put 5 (.str x)) t { tmps := (a4.tmps.setIfInBounds 7 (.string x)).setIfInBounds 5 (.string x), defers := [] } W := by
      refine ⟨m, hS, ER.cons' (ER.cons' ER.nil' ?_) ?_, Goes.refl _ _ _, by simp; exact hN4, rfl⟩
      · rw [tk, if_neg (by decide), if_neg (by decide)]; exact VR.mono hle _ _ v2
      · rw [tk, if_pos rfl]; rfl
    refine wpIn_block (wpIn_region ?_)
    rw [as_n.2.2.2, show List.range 5 = List.range' 0 5 ++ [] from rfl]
    have hp : ({ tmps := (a4.tmps.setIfInBounds 7 (.string x)).setIfInBounds 5 (.string x), defers := [] } : Act).tmps.getD 30 undef = undef := by
      rw [tk, if_neg (by decide), if_neg (by decide)]; exact hp4
    refine reg_in sound0 exok (p := 30) (pv := undef) ?_ (List.range' 0 5) ((aq3.drop 0).take 5) (by kernel_rfl) (hc_of as_c3 0 5) (by kernel_rfl) _ _ _ _ R hp (as_3 x s.length p mb es c s t pre vo hs _ rfl rfl (by have := hk.few; omega))
    rintro e6 t6 a6 w6 ⟨vo6, hs6⟩ ⟨m6, hS6, hE6, hG6, hN6, hD6⟩ hp6
    have hI6 : AsI p mb es c m0 s w0 m4 (pre ++ [x]) w6 := ⟨m6, t6, vo6, hS6, hG.trans hG6, Inj.le_trans hle hG6.le, hs6⟩
    have keep : ∀ k o, w4.heap.size ≤ k → W.heap[k]? = some o → o.isCells = false → w6.heap[k]? = some o := fun k o hk ho hn => by
      rw [(hG6.keep k (Array.getElem?_eq_some_iff.1 ho).1 fun i l2 hi hl2 => .inl (sc_out h0 hS hG hs.cel (by omega) ho hn i l2 hi hl2)).1]
      exact ho
    refine ⟨⟨hG6.size, fun k o hk ho hn => keep k o hk ho hn⟩, ⟨fun _ => ?_, fun k o hk ho hw => keep k o hk ho (by cases o <;> first | rfl | cases hw)⟩, hI6⟩
    obtain ⟨⟨m6', cs6, hle6, hmap6, hmr6⟩, _⟩ := hI6.map hlm hlp
    -- the same entries
    have hS4' := map_obj hS4 hlm (es := es) (c := c) (by rw [List.getElem?_append_left (List.getElem?_eq_some_iff.1 hk.map).1]; exact hk.map)
    obtain ⟨cs5, q1, q2⟩ := hS4'
    rw [hmap4] at q1
    cases q1
    have := mr_fun hle6 (fun e he => ⟨hk.str e he, hk.val e he⟩) q2 hmr6
    rw [show cs = cs6 from Array.ext' this]
    exact hmap6
  case done =>
    rintro D xs W hD hxs ⟨m, t, vo, hS, hG, hle, hs⟩ hK
    show Code.wpIn (wd none) 9 _ (.seq asR4 .ret) _ _ _
    have hperm : xs.Perm (keysOf es) := by rw [← hkb]; exact hxs
    refine wpIn_seq ((wpIn_wide (n := 9)).2 (code_sound (dd := [{ target := .collected D, args := #[] }]) sound0 exok mixed asR4 aq4 as_c4 (fun y e' t' => y = .nrm ∧ t' = t ∧ e'.get 4 = vo) _ ?_
      (Env.put [] 2 (.ptr s.length 0)) t _ W (m0 := m) (s0 := t) (w0 := W) (N := 13) ⟨m, hS, ER.cons' ER.nil' (VR.mono hle _ _ v2), Goes.refl _ _ _, hN4, by rw [hD4]⟩ ?_))
    · rintro y e5 t5 a5 w5 ⟨rfl, rfl, g4⟩ ⟨m5, hS5, hE5, hG5, hN5, hD5⟩
      have hDl : D < W.heap.size := (Array.getElem?_eq_some_iff.1 hK).1
      have hK5 : w5.heap[D]? = some (.deferred (some [])) := by
        rw [(hG5.keep D hDl fun i l2 hi hl2 => .inl (sc_out h0 hS hG hs.cel (by omega) hK rfl i l2 hi hl2)).1]; exact hK
      have hG05 := hG.trans hG5
      have hS6 := grown_sim hS5 (grownBy_putObj' w5 D (.deferred none)) fun i l2 hi e => sc_out h0 hS5 hG05 hs.cel (by omega) hK5 rfl i l2 hi (by simpa using e.symm)
      have hG6 := grown_goes hG05 (grownBy_putObj' w5 D (.deferred none)) fun c e => by cases e; omega
      refine wpIn_ret ?_
      show LeavesInM _ _ _ _ _ _ a5.defers .returning w5
      rw [hD5]
      refine ⟨by simp, .inl ⟨D, _, rfl, run_takeDeferred hK5, ?_⟩⟩
      obtain ⟨u, hu, hru⟩ := results_run (P := Tryd.prog) (fn := Tryd.f56) (rs := [.tmp 4]) (vs := [e5.get 4]) hS6 hE5 as_rs rfl
      rw [g4] at hu
      exact ⟨u, hru, Ret.cq h0 hS6 hG6 hu (as_ret hs fun v t hm => hl xs hperm v t hm)⟩
    · have l0 : ldA t none (.ptr s.length 0) = some vo := by rw [ld_own hs.lst]; rfl
      simp only [aq4, XX, CC, YY, Nat.reduceAdd, Nat.reduceSub, Nat.reduceLeDiff, Nat.reduceLT, Nat.reduceEqDiff, reduceIte, ↓reduceIte, Nat.reduceBEq, l0]
  case stop =>
    intro D c pre W _ _ h _
    exact h.elim
end Go.Ev

/-! The whole table: the compiled functions, and those whose contracts are given. -/
namespace Go.Ev
set_option linter.unusedVariables false
set_option linter.unusedSimpArgs false
open Go.Ev.So Go.Proofs

def gLose : RF := ⟨2, [.tmp 0], .given LoseR⟩
/-- What slices.Sorted of a map's keys comes to. -/
def SortedR (args : List AV) (s : St) (v : AV) (s' : St) : Prop := ∃ p mb es c l, args = [.fn 49 [.ptr p 0]] ∧ KeyA s p mb es c ∧ l.Perm (keysOf es) ∧ Ris l ∧ Made s l v s'
def gSorted : RF := ⟨1, [.tmp 0], .given SortedR⟩
def gtbl (f : Nat) : Option RF := if f = f_files_Disk_lose then some gLose else
  if f = f_slices_Sorted_string then some gSorted else
  none
def T (f : Nat) : Option RF := match T0 f with
  | some F => some F
  | none => gtbl f
instance : Has T := ⟨fun _ _ h => by unfold T; rw [h]⟩
theorem lose_given : GivenOK Tryd.prog f_files_Disk_lose gLose := ⟨LoseR, rfl, ⟨⟨_, Tryd.func33, by kernel_rfl, by kernel_rfl⟩⟩, lose_calls⟩
theorem sorted_given : GivenOK Tryd.prog f_slices_Sorted_string gSorted := ⟨SortedR, rfl, ⟨⟨_, Tryd.func34, by kernel_rfl, by kernel_rfl⟩⟩, by
  rintro args s v s' ⟨p, mb, es, c, l, rfl, hk, hp, hr, hm⟩ m w vs hS hv
  exact (sorted_sem asq hk hp hr hm).2 m w vs hS hv⟩
theorem tok : TOK Tryd.prog ex0 T := ⟨fun f F h => by
  unfold T at h
  split at h
  · cases h
    rename_i h
    exact tok0.ok f _ h
  · right
    unfold gtbl at h
    split at h
    · rename_i e; subst e; cases h; exact lose_given
    split at h
    · rename_i e; subst e; cases h; exact sorted_given
    cases h⟩
theorem sound : XS Tryd.prog (Run T) := run_sound exok mixed tok

theorem lose_r (t : St) (n b : Nat) (D : Dsk) (keep : Int) (hD : DAt t n b D) (hO : DOk D) : RunD T f_files_Disk_lose [.ptr b 0, .int .i64 keep] t (.tup []) (loseS t b D keep) := by
  refine run_body (F := gLose) rfl (by simp [gLose]) ?_
  exact ⟨_, _, ⟨n, b, D, keep, rfl, hD, hO, rfl, rfl⟩, _, rfl, .inl ⟨rfl, rfl⟩⟩
theorem sorted_r (t : St) (p mb : Nat) (es : List (AV × AV × Nat)) (c : Nat) (l : List ByteArray) (v : AV) (t' : St) (hk : KeyA t p mb es c) (hp : l.Perm (keysOf es)) (hr : Ris l) (hm : Made t l v t') : RunD T f_slices_Sorted_string [.fn 49 [.ptr p 0]] t v t' := by
  refine run_body (F := gSorted) rfl (by simp [gSorted]) ?_
  exact ⟨_, _, ⟨p, mb, es, c, l, rfl, hk, hp, hr, hm⟩, _, rfl, .inl ⟨rfl, rfl⟩⟩
end Go.Ev

/-! The disk: a new file. -/
namespace Go.Ev
set_option linter.unusedVariables false
set_option linter.unusedSimpArgs false
open Go.Ev.So Go.Proofs
variable {T : Nat → Option RF} [Has T]

/-- A new file. -/
def addF (D : Dsk) (name data : ByteArray) (fb : Nat) : Dsk := { D with clock := D.clock + 1, fs := D.fs ++ [(⟨name, data, 0, fb⟩, D.clock)] }
theorem getF_none {D : Dsk} {name : ByteArray} (h : getF D name = none) : ∀ f ∈ D.fs, f.1.name ≠ name := by
  unfold getF at h
  rw [Option.map_eq_none_iff, List.find?_eq_none] at h
  intro f hf e
  exact h f hf (by simp [e])
theorem mup_new {t : St} {n b : Nat} {D : Dsk} (h : DAt t n b D) {name : ByteArray} (hg : getF D name = none) (fb : Nat) :
    xtA t (.mup .s) [.map D.mb, .str name, .ptr fb 0] = some (.undef, t.set D.mb (.map (D.fs.map entF ++ [(.str name, .ptr fb 0, D.clock)]) (D.clock + 1))) := by
  obtain ⟨r, h1, h2⟩ := find_ent name D.fs
  have hm : mapB t D.mb = some (D.fs.map entF, D.clock) := by unfold mapB; rw [h.map]
  show mupA t .s (.map D.mb) (.str name) (.ptr fb 0) = _
  unfold mupA
  simp only [hm, h1]
  unfold getF at hg
  cases r with
  | none => simp only; rfl
  | some x =>
    obtain ⟨fk, a1, _⟩ := h2
    rw [a1] at hg; cases hg
theorem DAt.addF {t : St} {n b : Nat} {D : Dsk} (h : DAt t n b D) (hnt : n ≤ t.length) {name : ByteArray} (hg : getF D name = none) (data : ByteArray) (x : List Blk) (hx : x = [.cells true (cF ⟨name, data, 0, t.length⟩)]) :
    DAt ((t ++ x).set D.mb (.map (D.fs.map entF ++ [(.str name, .ptr t.length 0, D.clock)]) (D.clock + 1))) n b (addF D name data t.length) := by
  subst hx
  have hml := (List.getElem?_eq_some_iff.1 h.map).1
  have hbl := (List.getElem?_eq_some_iff.1 h.cells).1
  have ha := h.apart
  simp only [List.nodup_cons, List.mem_cons, not_or, List.mem_map, not_exists, not_and] at ha
  have hfl : ∀ f ∈ D.fs, f.1.fb < t.length := fun f hf => (List.getElem?_eq_some_iff.1 (h.file f hf).2).1
  refine ⟨h.low, ?_, h.mlow, ?_, ?_, ?_, ?_⟩
  · show _ = some (Blk.cells true (cD D))
    rw [List.getElem?_set, if_neg (fun e => ha.1.1 e.symm), List.getElem?_append_left hbl]; exact h.cells
  · show ((t ++ _).set D.mb _)[D.mb]? = some (Blk.map ((D.fs ++ [((⟨name, data, 0, t.length⟩ : Fil), D.clock)]).map entF) (D.clock + 1))
    rw [List.getElem?_set_self (by simp; omega), List.map_append]; rfl
  · intro f hf
    rcases List.mem_append.1 hf with k | k
    · refine ⟨(h.file f k).1, ?_⟩
      rw [List.getElem?_set, if_neg (fun e => ha.2.1 f k e.symm), List.getElem?_append_left (hfl f k)]
      exact (h.file f k).2
    · simp only [List.mem_singleton] at k
      subst k
      refine ⟨hnt, ?_⟩
      show ((t ++ _).set D.mb _)[t.length]? = _
      rw [List.getElem?_set, if_neg (by omega)]
      simp
  · show (b :: D.mb :: (D.fs ++ [((⟨name, data, 0, t.length⟩ : Fil), D.clock)]).map fun f : Fil × Nat => f.1.fb).Nodup
    rw [List.map_append]
    simp only [List.nodup_cons, List.mem_cons, List.mem_append, List.mem_map, not_or, not_exists, not_and, List.map_cons, List.map_nil, List.not_mem_nil, or_false, not_false_eq_true, and_true]
    refine ⟨⟨ha.1.1, fun f hf => ha.1.2 f hf, by omega⟩, ⟨fun f hf => ha.2.1 f hf, by omega⟩, ?_⟩
    rw [List.nodup_append]
    refine ⟨ha.2.2, by simp, ?_⟩
    intro i hi j hj
    simp only [List.mem_singleton] at hj
    subst hj
    obtain ⟨f, hf, rfl⟩ := List.mem_map.1 hi
    have := hfl f hf
    omega
  · show ((D.fs ++ [((⟨name, data, 0, t.length⟩ : Fil), D.clock)]).map fun f : Fil × Nat => f.1.name).Nodup
    rw [List.map_append, List.nodup_append]
    refine ⟨h.names, by simp, ?_⟩
    intro i hi j hj
    simp only [List.map_cons, List.map_nil, List.mem_singleton] at hj
    subst hj
    obtain ⟨f, hf, rfl⟩ := List.mem_map.1 hi
    exact getF_none hg f hf

theorem getF_setF (D : Dsk) (name : ByteArray) (g : Fil → Fil) (hn : ∀ x, (g x).name = x.name) : getF (setF D name g) name = (getF D name).map g := by
  unfold getF setF
  simp only [List.find?_map]
  have hp : ((fun f : Fil × Nat => decide (name = f.1.name)) ∘ updF name g) = fun f => decide (name = f.1.name) := by
    funext f
    simp only [Function.comp, updF]
    split
    · simp only [hn]
    · rfl
  rw [hp]
  cases h : D.fs.find? fun f => decide (name = f.1.name) with
  | none => rfl
  | some f =>
    have := List.find?_some h
    simp only [decide_eq_true_eq] at this
    simp only [Option.map_some, updF, if_pos this]

def appC (D : Dsk) (name data : ByteArray) : Int := if chkV D [name] ≠ 0 then chkV D [name] else match getF D name with
  | some f => if (data.size : Int) > 1048576 - f.data.size then 63 else 0
  | none => if D.fs.length ≥ 16 then 63 else if (data.size : Int) > 1048576 then 63 else 0
theorem chkV_val (D : Dsk) (ns : List ByteArray) : chkV D ns = 0 ∨ chkV D ns = 60 ∨ chkV D ns = 61 := by
  unfold chkV; split
  · exact .inr (.inl rfl)
  · split
    · exact .inl rfl
    · exact .inr (.inr rfl)
end Go.Ev

/-! The disk: Sync, Cut (no loss), Down, On, Arm. -/
namespace Go.Ev
set_option linter.unusedVariables false
set_option linter.unusedSimpArgs false
open Go.Ev.So Go.Proofs
variable {T : Nat → Option RF} [Has T]

theorem getF_spend (D : Dsk) (name : ByteArray) : getF (spendD D) name = getF D name := rfl
def syncC (D : Dsk) (name : ByteArray) : Int := if chkV D [name] ≠ 0 then chkV D [name] else match getF D name with
  | some _ => 0
  | none => 62
theorem down_r (t : St) (n b : Nat) (D : Dsk) (hD : DAt t n b D) : RunD T f_files_Disk_Down [.ptr b 0] t (.bool D.down) t := by
  refine run_body (F := r_files_Disk_Down) (has rfl) (by simp [r_files_Disk_Down]) ?_
  simp only [r_files_Disk_Down, XX, CC, YY, Nat.reduceAdd, Nat.reduceSub, Nat.reduceLeDiff, Nat.reduceLT, Nat.reduceEqDiff, reduceIte, ↓reduceIte, Nat.reduceBEq, eqp_f, Bool.not_false, gv_tt, hD.ld.2.1]
  exact .inl ⟨rfl, rfl⟩
def onD (D : Dsk) : Dsk := { D with down := false, armed := false }
theorem on_r (t : St) (n b : Nat) (D : Dsk) (hD : DAt t n b D) : RunD T f_files_Disk_On [.ptr b 0] t (.tup []) (t.set b (.cells true (cD (onD D)))) := by
  refine run_body (F := r_files_Disk_On) (has rfl) (by simp [r_files_Disk_On]) ?_
  have s1 : stA t none (.ptr b 1) (.bool false) = some (t.set b (.cells true (cD { D with down := false }))) := by
    rw [st_one (by rfl), wr_own hD.cells, if_pos ⟨by simp [cD], by rfl⟩]; rfl
  have hD2 := hD.setD (D' := { D with down := false }) rfl rfl rfl
  have s2 : wrA (t.set b (.cells true (cD { D with down := false }))) b 2 [AV.bool false] = some (t.set b (.cells true (cD (onD D)))) := by
    rw [wr_own hD2.cells, if_pos ⟨by simp [cD], by rfl⟩, List.set_set]; rfl
  simp only [r_files_Disk_On, XX, CC, YY, Nat.reduceAdd, Nat.reduceSub, Nat.reduceLeDiff, Nat.reduceLT, Nat.reduceEqDiff, reduceIte, ↓reduceIte, Nat.reduceBEq, eqp_f, Bool.not_false, s1, s2]
  exact .inl ⟨rfl, rfl⟩
def armD (D : Dsk) (k keep : Int) : Dsk := if D.down then D else { D with armed := decide (k ≥ 0), left := k, keep := keep }
theorem arm_r (t : St) (n b : Nat) (D : Dsk) (k keep : Int) (hD : DAt t n b D) : Run T f_files_Disk_Arm [.ptr b 0, .int .i64 k, .int .i64 keep] t fun v t' => v = .tup [] ∧ t' = t.set b (.cells true (cD (armD D k keep))) := by
  refine run_body (F := r_files_Disk_Arm) (has rfl) (by simp [r_files_Disk_Arm]) ?_
  have hd := hD.ld.2.1
  unfold armD
  cases c : D.down with
  | true =>
    rw [c] at hd
    have hsame : t.set b (.cells true (cD D)) = t := set_sameL hD.cells
    simp only [r_files_Disk_Arm, XX, CC, YY, Nat.reduceAdd, Nat.reduceSub, Nat.reduceLeDiff, Nat.reduceLT, Nat.reduceEqDiff, reduceIte, ↓reduceIte, Nat.reduceBEq, eqp_f, Bool.not_false, gv_tt, hd, Bool.not_true]
    exact .inl ⟨rfl, hsame.symm⟩
  | false =>
    rw [c] at hd
    have s1 : stA t none (.ptr b 2) (.bool (decide (k ≥ 0))) = some (t.set b (.cells true (cD { D with armed := decide (k ≥ 0) }))) := by
      rw [st_one (by rfl), wr_own hD.cells, if_pos ⟨by simp [cD], by rfl⟩]; rfl
    have hD2 := hD.setD (D' := { D with armed := decide (k ≥ 0) }) rfl rfl rfl
    have s2 : wrA (t.set b (.cells true (cD { D with armed := decide (k ≥ 0) }))) b 3 [AV.int .i64 k] = some (t.set b (.cells true (cD { D with armed := decide (k ≥ 0), left := k }))) := by
      rw [wr_own hD2.cells, if_pos ⟨by simp [cD], by rfl⟩, List.set_set]; rfl
    have hD3 := hD.setD (D' := { D with armed := decide (k ≥ 0), left := k }) rfl rfl rfl
    have s3 : wrA (t.set b (.cells true (cD { D with armed := decide (k ≥ 0), left := k }))) b 4 [AV.int .i64 keep] = some (t.set b (.cells true (cD { D with armed := decide (k ≥ 0), left := k, keep := keep }))) := by
      rw [wr_own hD3.cells, if_pos ⟨by simp [cD], by rfl⟩, List.set_set]; rfl
    simp only [r_files_Disk_Arm, XX, CC, YY, Nat.reduceAdd, Nat.reduceSub, Nat.reduceLeDiff, Nat.reduceLT, Nat.reduceEqDiff, reduceIte, ↓reduceIte, Nat.reduceBEq, eqp_f, Bool.not_false, gv_tt, hd, s1, s2, s3]
    exact .inl ⟨rfl, by rw [c]⟩
end Go.Ev

/-! The disk: Cut (no loss), Steps. -/
namespace Go.Ev
set_option linter.unusedVariables false
set_option linter.unusedSimpArgs false
open Go.Ev.So Go.Proofs
variable {T : Nat → Option RF} [Has T]

def cutC (D : Dsk) (name : ByteArray) (m : Int) : Int := if chkV D [name] ≠ 0 then chkV D [name] else match getF D name with
  | some f => if m < 0 ∨ m > f.data.size then 1 else 0
  | none => 62
theorem steps_r (t : St) (n b : Nat) (D : Dsk) (hD : DAt t n b D) : RunD T f_files_Disk_Steps [.ptr b 0] t (.int .i64 D.steps) t := by
  refine run_body (F := r_files_Disk_Steps) (has rfl) (by simp [r_files_Disk_Steps]) ?_
  simp only [r_files_Disk_Steps, XX, CC, YY, Nat.reduceAdd, Nat.reduceSub, Nat.reduceLeDiff, Nat.reduceLT, Nat.reduceEqDiff, reduceIte, ↓reduceIte, Nat.reduceBEq, eqp_f, hD.ld.2.2.2.2.2]
  exact .inl ⟨rfl, rfl⟩
end Go.Ev

/-! The disk's operations, wherever the power goes. -/
namespace Go.Ev
set_option linter.unusedVariables false
set_option linter.unusedSimpArgs false
open Go.Ev.So Go.Proofs

section
variable {t : St} {n b : Nat} {D D' : Dsk}
theorem DFoot.same (hm : D'.mb = D.mb) (hf : D'.fs.map (·.1.fb) = D.fs.map (·.1.fb)) (i : Nat) : DFoot b D' i ↔ DFoot b D i := by
  have e : (∃ f ∈ D'.fs, i = f.1.fb) ↔ ∃ f ∈ D.fs, i = f.1.fb := by
    have h1 : (∃ f ∈ D'.fs, i = f.1.fb) ↔ i ∈ D'.fs.map (·.1.fb) := by rw [List.mem_map]; exact ⟨fun ⟨f, h, e⟩ => ⟨f, h, e.symm⟩, fun ⟨f, h, e⟩ => ⟨f, h, e.symm⟩⟩
    have h2 : (∃ f ∈ D.fs, i = f.1.fb) ↔ i ∈ D.fs.map (·.1.fb) := by rw [List.mem_map]; exact ⟨fun ⟨f, h, e⟩ => ⟨f, h, e.symm⟩, fun ⟨f, h, e⟩ => ⟨f, h, e.symm⟩⟩
    rw [h1, h2, hf]
  unfold DFoot
  rw [hm, e]
theorem DStep.setD (h : DAt t n b D) (ho : DOk D) (hm : D'.mb = D.mb) (hc : D'.clock = D.clock) (hf : D'.fs = D.fs) : DStep n b D D' t (t.set b (.cells true (cD D'))) :=
  ⟨h.setD hm hc hf, ho.same hc hf, by simp, fun i _ hn => List.getElem?_set_ne (fun e => hn (.inl e.symm)), fun i hi => .inl ((DFoot.same hm (by rw [hf]) i).1 hi)⟩
theorem setF_fbs (D : Dsk) (name : ByteArray) (g : Fil → Fil) (hb : ∀ x, (g x).fb = x.fb) : (setF D name g).fs.map (·.1.fb) = D.fs.map (·.1.fb) := by
  show (D.fs.map (updF name g)).map (·.1.fb) = _
  rw [List.map_map]
  apply List.map_congr_left
  intro x _
  simp only [Function.comp, updF]
  split
  · simp only [hb]
  · rfl
theorem setF_ok (ho : DOk D) {name : ByteArray} {f : Fil} (hnm : (D.fs.map (·.1.name)).Nodup) (hg : getF D name = some f) (g : Fil → Fil) (hok : FOk (g f).data (g f).safe) : DOk (setF D name g) := by
  obtain ⟨k, hk, hfn⟩ := getF_mem hg
  refine ⟨fun x hx => ?_, ?_, fun x hx => ?_, ?_⟩
  · obtain ⟨y, hy, rfl⟩ := List.mem_map.1 hx
    unfold updF
    split
    · rename_i c
      have e := nodup_eq hnm hy hk (by rw [← c, hfn])
      subst e
      exact hok
    · exact ho.files y hy
  · show (D.fs.map (updF name g)).length ≤ 16
    rw [List.length_map]; exact ho.few
  · obtain ⟨y, hy, rfl⟩ := List.mem_map.1 hx
    have : (updF name g y).2 = y.2 := by unfold updF; split <;> rfl
    rw [this]; exact ho.clock y hy
  · show ((D.fs.map (updF name g)).map (·.2)).Nodup
    rw [List.map_map, List.map_congr_left (g := (·.2)) fun y _ => by simp only [Function.comp]; unfold updF; split <;> rfl]
    exact ho.stamps
theorem DStep.setF (h : DAt t n b D) (ho : DOk D) {name : ByteArray} {f : Fil} (hg : getF D name = some f) (g : Fil → Fil) (hn : ∀ x, (g x).name = x.name) (hb : ∀ x, (g x).fb = x.fb) (hok : FOk (g f).data (g f).safe) :
    DStep n b D (Ev.setF D name g) t (t.set f.fb (.cells true (cF (g f)))) := by
  obtain ⟨k, hk, hfn⟩ := getF_mem hg
  exact ⟨h.setF hg g hn hb, setF_ok ho h.names hg g hok, by simp, fun i _ hni => List.getElem?_set_ne (fun e => hni (.inr (.inr ⟨_, hk, e.symm⟩))), fun i hi => .inl ((DFoot.same (D' := Ev.setF D name g) (D := D) rfl (setF_fbs D name g hb) i).1 hi)⟩
theorem DStep.addF (h : DAt t n b D) (ho : DOk D) (hnt : n ≤ t.length) {name : ByteArray} (hg : getF D name = none) (data : ByteArray) (hd : data.size ≤ 1048576) (hl : D.fs.length < 16) (x : List Blk) (hx : x = [.cells true (cF ⟨name, data, 0, t.length⟩)]) :
    DStep n b D (Ev.addF D name data t.length) t ((t ++ x).set D.mb (.map (D.fs.map entF ++ [(.str name, .ptr t.length 0, D.clock)]) (D.clock + 1))) := by
  subst hx
  refine ⟨h.addF hnt hg data _ rfl, ⟨fun f hf => ?_, ?_, fun f hf => ?_, ?_⟩, by simp, fun i hi hn => ?_, fun i hi => ?_⟩
  · rcases List.mem_append.1 hf with k | k
    · exact ho.files f k
    · simp only [List.mem_singleton] at k; subst k
      exact ⟨Int.le_refl _, by simp, hd⟩
  · show (D.fs ++ _).length ≤ 16
    simp; omega
  · rcases List.mem_append.1 hf with k | k
    · have := ho.clock f k
      show f.2 < D.clock + 1
      omega
    · simp only [List.mem_singleton] at k; subst k
      show D.clock < D.clock + 1
      omega
  · show ((D.fs ++ [((⟨name, data, 0, t.length⟩ : Fil), D.clock)]).map (·.2)).Nodup
    rw [List.map_append, List.nodup_append]
    refine ⟨ho.stamps, by simp, ?_⟩
    intro i hi j hj
    simp only [List.map_cons, List.map_nil, List.mem_singleton] at hj
    subst hj
    obtain ⟨f, hf, rfl⟩ := List.mem_map.1 hi
    have := ho.clock f hf
    omega
  · rw [List.getElem?_set_ne (fun e => hn (.inr (.inl e.symm))), List.getElem?_append_left hi]
  · rcases hi with rfl | rfl | ⟨f, hf, rfl⟩
    · exact .inl (.inl rfl)
    · exact .inl (.inr (.inl rfl))
    · rcases List.mem_append.1 hf with k | k
      · exact .inl (.inr (.inr ⟨f, k, rfl⟩))
      · simp only [List.mem_singleton] at k; subst k
        exact .inr (Nat.le_refl _)
end

def gone (D : Dsk) : Prop := D.armed = true ∧ D.left = 0
instance (D : Dsk) : Decidable (gone D) := inferInstanceAs (Decidable (_ ∧ _))
def spendC (D : Dsk) : Int := if gone D then 60 else 0
def spendV (D : Dsk) : Dsk := if gone D then loseD D D.keep else spendD D
set_option maxHeartbeats 1000000 in
theorem spend_g (t : St) (n b : Nat) (D : Dsk) (hD : DAt t n b D) (hO : DOk D) : Run T f_files_Disk_spend [.ptr b 0] t fun v t' => v = .int .i64 (spendC D) ∧ DStep n b D (spendV D) t t' := by
  unfold spendC spendV
  by_cases h : gone D
  · rw [if_pos h, if_pos h]
    obtain ⟨h1, h2⟩ := h
    obtain ⟨_, _, l2, l3, l4, _⟩ := hD.ld
    rw [h1] at l2
    refine run_body (F := r_files_Disk_spend) (has rfl) (by simp [r_files_Disk_spend]) ?_
    have hz : (D.left == 0) = true := by simp [h2]
    simp only [r_files_Disk_spend, XX, CC, YY, Nat.reduceAdd, Nat.reduceSub, Nat.reduceLeDiff, Nat.reduceLT, Nat.reduceEqDiff, reduceIte, ↓reduceIte, Nat.reduceBEq, l2, gv_tt, l3, hz, l4]
    refine (lose_r t n b D D.keep hD hO).use ?_
    (try simp only [XX, CC, YY, Nat.reduceAdd, Nat.reduceSub, Nat.reduceLeDiff, Nat.reduceLT, Nat.reduceEqDiff, reduceIte, ↓reduceIte, Nat.reduceBEq])
    exact .inl ⟨rfl, lose_step hD hO D.keep⟩
  · rw [if_neg h, if_neg h]
    refine (spend_r t n b D hD h).use ⟨rfl, DStep.setD hD hO rfl rfl rfl⟩

/-- the disk behind an append -/
def appM (D : Dsk) (name data : ByteArray) (fb : Nat) : Dsk := match getF D name with
  | some f => setF D name fun x => { x with data := x.data ++ data }
  | none => addF D name (bts [] ++ data) fb
def appV (D : Dsk) (name data : ByteArray) (fb : Nat) : Dsk := if appC D name data ≠ 0 then D else spendV (appM D name data fb)
def outC (D : Dsk) (c : Int) : Int := if c ≠ 0 then c else spendC D
set_option maxHeartbeats 4000000 in
theorem append_g (t : St) (n b : Nat) (D : Dsk) (name data : ByteArray) (hD : DAt t n b D) (hO : DOk D) (hnt : n ≤ t.length) (hs : name.size < 140737488355328) (hds : data.size < 140737488355328) :
    Run T f_files_Disk_Append [.ptr b 0, .str name, .str data] t fun v t' => v = .int .i64 (outC D (appC D name data)) ∧ DStep n b D (appV D name data t.length) t t' := by
  refine run_body (F := r_files_Disk_Append) (has rfl) (by simp [r_files_Disk_Append]) ?_
  have same : ∀ (v : AV) (c : Int), appC D name data = c → c ≠ 0 → v = .int .i64 c → (v = .int .i64 (outC D (appC D name data)) ∧ DStep n b D (appV D name data t.length) t t) := by
    rintro v c h1 h2 rfl
    exact ⟨by unfold outC; rw [h1, if_pos h2], by unfold appV; rw [if_pos (by rw [h1]; exact h2)]; exact .refl hD hO⟩
  have hcv := chkV_val D [name]
  have hval : appC D name data = if chkV D [name] ≠ 0 then chkV D [name] else match getF D name with
    | some f => if (data.size : Int) > 1048576 - f.data.size then 63 else 0
    | none => if D.fs.length ≥ 16 then 63 else if (data.size : Int) > 1048576 then 63 else 0 := rfl
  have hvD : appC D name data = 0 → appV D name data t.length = spendV (match getF D name with
    | some f => setF D name fun x => { x with data := x.data ++ data }
    | none => addF D name (bts [] ++ data) t.length) := fun h => by unfold appV; rw [if_neg (by rw [h]; simp)]; rfl
  have hvC : appC D name data = 0 → outC D (appC D name data) = spendC D := fun h => by unfold outC; rw [if_neg (by rw [h]; simp)]
  simp only [r_files_Disk_Append, XX, CC, YY, Nat.reduceAdd, Nat.reduceSub, Nat.reduceLeDiff, Nat.reduceLT, Nat.reduceEqDiff, reduceIte, ↓reduceIte, Nat.reduceBEq]
  refine (find_r t n b D name hD hs).use ?_
  unfold findV
  generalize chkV D [name] = e at *
  generalize outC D (appC D name data) = O at *
  generalize appC D name data = C at *
  generalize appV D name data t.length = D' at *
  have em : e = 0 ∨ ¬ e = 0 := Classical.em _
  rcases em with c | c
  · subst c
    rw [if_neg (by simp)] at hval ⊢
    have hm := hD.ld.1
    cases hg : getF D name with
    | some f =>
      rw [hg] at hval hvD
      simp only at hval hvD
      obtain ⟨k, hk, hfn⟩ := getF_mem hg
      have hfd := hO.files _ hk
      (try simp only at hfd)
      unfold FOk at hfd
      have hfat := (hD.file _ hk).2
      have l0 : ldA t none (.ptr f.fb 0) = some (.str f.data) := by rw [ld_own hfat]; rfl
      have hw : IntKind.i64.wrap (1048576 - (f.data.size : Int)) = 1048576 - (f.data.size : Int) := w64_in (by omega) (by omega)
      by_cases c2 : (data.size : Int) > 1048576 - f.data.size
      · rw [if_pos c2] at hval
        simp only [XX, CC, YY, Nat.reduceAdd, Nat.reduceSub, Nat.reduceLeDiff, Nat.reduceLT, Nat.reduceEqDiff, reduceIte, ↓reduceIte, Nat.reduceBEq, show ((0 : Int) == 0) = true from rfl, Bool.not_true, gv_tf, eqp_f, l0, hw, dec_t c2]
        exact .inl (same _ 63 hval (by decide) rfl)
      · rw [if_neg c2] at hval
        have hadd := add_s (a := f.data) (b := data) (by omega)
        have hst : stA t none (.ptr f.fb 0) (.str (f.data ++ data)) = some (t.set f.fb (.cells true (cF { f with data := f.data ++ data }))) := by
          rw [st_one (by rfl), wr_own hfat, if_pos ⟨by simp [cF], by rfl⟩]; rfl
        have hD1 := DStep.setF hD hO hg (fun x => { x with data := x.data ++ data }) (fun _ => rfl) (fun _ => rfl) (show FOk (f.data ++ data) f.safe from by unfold FOk; rw [app_size]; omega)
        (try simp only at hD1)
        have hg1 : ∃ f', getF (setF D name fun x => { x with data := x.data ++ data }) name = some f' ∧ f'.fb = f.fb := by
          rw [getF_setF D name (fun x => { x with data := x.data ++ data }) (fun _ => rfl), hg]
          exact ⟨_, rfl, rfl⟩
        obtain ⟨f', hg2, hfb⟩ := hg1
        have hmu := mup_same hD1.at_ hg2
        rw [hfb] at hmu
        have hm1 := hD1.at_.ld.1
        have hsp := spend_g _ n b _ hD1.at_ hD1.ok
        have hmm : (setF D name fun x => { x with data := x.data ++ data }).mb = D.mb := rfl
        rw [hmm] at hmu hm1
        simp only [XX, CC, YY, Nat.reduceAdd, Nat.reduceSub, Nat.reduceLeDiff, Nat.reduceLT, Nat.reduceEqDiff, reduceIte, ↓reduceIte, Nat.reduceBEq, show ((0 : Int) == 0) = true from rfl, Bool.not_true, gv_tf, eqp_f, l0, hw, dec_f c2, hadd, hst, hm1, hmu]
        refine Run.mono _ _ _ _ _ ?_ hsp
        rintro v t' ⟨rfl, h2⟩
        (try simp only [XX, CC, YY, Nat.reduceAdd, Nat.reduceSub, Nat.reduceLeDiff, Nat.reduceLT, Nat.reduceEqDiff, reduceIte, ↓reduceIte, Nat.reduceBEq])
        exact .inl ⟨by rw [hvC hval]; rfl, by rw [hvD hval]; exact hD1.trans h2⟩
    | none =>
      rw [hg] at hval hvD
      simp only at hval hvD
      have hmb : mapB t D.mb = some (D.fs.map entF, D.clock) := by unfold mapB; rw [hD.map]
      have hln : xtA t .lenm [.map D.mb] = some (.int .i64 D.fs.length, t) := by
        show (mapB t D.mb).map _ = _
        rw [hmb]; simp
      by_cases c2 : (D.fs.length : Int) ≥ 16
      · rw [if_pos (by omega)] at hval
        simp only [XX, CC, YY, Nat.reduceAdd, Nat.reduceSub, Nat.reduceLeDiff, Nat.reduceLT, Nat.reduceEqDiff, reduceIte, ↓reduceIte, Nat.reduceBEq, show ((62 : Int) == 0) = false from rfl, show ((62 : Int) == 62) = true from rfl, Bool.not_true, Bool.not_false, gv_tt, eqp_t, hm, hln, dec_t c2]
        exact .inl (same _ 63 hval (by decide) rfl)
      · rw [if_neg (by omega)] at hval
        have hb0 : boxA (some 2) (.agg [.str (bts []), .int .i64 0]) = some [.str (bts []), .int .i64 0] := rfl
        have hw : IntKind.i64.wrap (1048576 - ((bts []).size : Int)) = 1048576 := by
          rw [show (((bts []).size : Nat) : Int) = 0 from rfl, w64_in (by decide) (by decide)]; rfl
        have l0 : ldA (t ++ [Blk.cells true [.str (bts []), .int .i64 0]]) none (.ptr t.length 0) = some (.str (bts [])) := by rw [ld_own get_last]; rfl
        by_cases c3 : (data.size : Int) > 1048576
        · rw [if_pos c3] at hval
          simp only [XX, CC, YY, Nat.reduceAdd, Nat.reduceSub, Nat.reduceLeDiff, Nat.reduceLT, Nat.reduceEqDiff, reduceIte, ↓reduceIte, Nat.reduceBEq, show ((62 : Int) == 0) = false from rfl, show ((62 : Int) == 62) = true from rfl, Bool.not_true, Bool.not_false, gv_tt, eqp_t, hm, hln, dec_f c2, hb0, l0, hw, dec_t c3]
          refine ret_drop ⟨_, rfl⟩ rfl (same _ 63 hval (by decide) rfl)
        · rw [if_neg c3] at hval
          have hadd := add_s (a := bts []) (b := data) (by rw [show (bts []).size = 0 from rfl]; omega)
          have hlt := (List.getElem?_eq_some_iff.1 hD.cells).1
          have hx2 : Ext t (t ++ [.cells true [.str (bts [] ++ data), .int .i64 0]]) := ⟨_, rfl⟩
          have hm2 : ldA (t ++ [Blk.cells true [.str (bts [] ++ data), .int .i64 0]]) none (.ptr b 0) = some (.map D.mb) := ldA_ext hm _
          have hmu := mup_new (hD.ext hx2) hg t.length
          have hD2 := DStep.addF hD hO hnt hg (bts [] ++ data) (by rw [app_size, show (bts []).size = 0 from rfl]; omega) (by omega) _ rfl
          have hsp := spend_g _ n b _ hD2.at_ hD2.ok
          have hcF : cF ⟨name, bts [] ++ data, 0, t.length⟩ = [.str (bts [] ++ data), .int .i64 0] := rfl
          rw [hcF] at hsp hD2
          simp only [XX, CC, YY, Nat.reduceAdd, Nat.reduceSub, Nat.reduceLeDiff, Nat.reduceLT, Nat.reduceEqDiff, reduceIte, ↓reduceIte, Nat.reduceBEq, show ((62 : Int) == 0) = false from rfl, show ((62 : Int) == 62) = true from rfl, Bool.not_true, Bool.not_false, gv_tt, eqp_t, hm, hln, dec_f c2, hb0, l0, hw, dec_f c3, hadd, hm2, hmu]
          refine Run.mono _ _ _ _ _ ?_ hsp
          rintro v t' ⟨rfl, h2⟩
          (try simp only [XX, CC, YY, Nat.reduceAdd, Nat.reduceSub, Nat.reduceLeDiff, Nat.reduceLT, Nat.reduceEqDiff, reduceIte, ↓reduceIte, Nat.reduceBEq])
          exact .inl ⟨by rw [hvC hval]; rfl, by rw [hvD hval]; exact hD2.trans h2⟩
  · have c' : (e == 0) = false := by simp [c]
    have c2 : (e == 62) = false := by
      have : e ≠ 62 := by omega
      simp [this]
    rw [if_pos c] at hval ⊢
    simp only [XX, CC, YY, Nat.reduceAdd, Nat.reduceSub, Nat.reduceLeDiff, Nat.reduceLT, Nat.reduceEqDiff, reduceIte, ↓reduceIte, Nat.reduceBEq, c', Bool.not_false, gv_tt, c2]
    exact .inl (same _ e hval c rfl)

def syncV (D : Dsk) (name : ByteArray) : Dsk := if syncC D name ≠ 0 then D else if spendC D ≠ 0 then spendV D else setF (spendV D) name fun x => { x with safe := x.data.size }
theorem spendC_val (D : Dsk) : spendC D = 0 ∧ spendV D = spendD D ∨ spendC D = 60 ∧ spendV D = loseD D D.keep := by
  unfold spendC spendV
  split
  · exact .inr ⟨rfl, rfl⟩
  · exact .inl ⟨rfl, rfl⟩
set_option maxHeartbeats 2000000 in
theorem sync_g (t : St) (n b : Nat) (D : Dsk) (name : ByteArray) (hD : DAt t n b D) (hO : DOk D) (hs : name.size < 140737488355328) :
    Run T f_files_Disk_Sync [.ptr b 0, .str name] t fun v t' => v = .int .i64 (outC D (syncC D name)) ∧ DStep n b D (syncV D name) t t' := by
  refine run_body (F := r_files_Disk_Sync) (has rfl) (by simp [r_files_Disk_Sync]) ?_
  have same : ∀ (v : AV) (c : Int), syncC D name = c → c ≠ 0 → v = .int .i64 c → (v = .int .i64 (outC D (syncC D name)) ∧ DStep n b D (syncV D name) t t) := by
    rintro v c h1 h2 rfl
    exact ⟨by unfold outC; rw [h1, if_pos h2], by unfold syncV; rw [if_pos (by rw [h1]; exact h2)]; exact .refl hD hO⟩
  have hval : syncC D name = if chkV D [name] ≠ 0 then chkV D [name] else match getF D name with
    | some _ => 0
    | none => 62 := rfl
  have hvD : syncC D name = 0 → syncV D name = if spendC D ≠ 0 then spendV D else setF (spendV D) name fun x => { x with safe := x.data.size } := fun h => by unfold syncV; rw [if_neg (by rw [h]; simp)]
  have hvC : syncC D name = 0 → outC D (syncC D name) = spendC D := fun h => by unfold outC; rw [if_neg (by rw [h]; simp)]
  simp only [r_files_Disk_Sync, XX, CC, YY, Nat.reduceAdd, Nat.reduceSub, Nat.reduceLeDiff, Nat.reduceLT, Nat.reduceEqDiff, reduceIte, ↓reduceIte, Nat.reduceBEq]
  refine (find_r t n b D name hD hs).use ?_
  unfold findV
  generalize chkV D [name] = e at *
  generalize outC D (syncC D name) = O at *
  generalize syncC D name = C at *
  generalize syncV D name = D' at *
  have em : e = 0 ∨ ¬ e = 0 := Classical.em _
  rcases em with c | c
  · subst c
    rw [if_neg (by simp)] at hval ⊢
    cases hg : getF D name with
    | none =>
      rw [hg] at hval
      simp only [XX, CC, YY, Nat.reduceAdd, Nat.reduceSub, Nat.reduceLeDiff, Nat.reduceLT, Nat.reduceEqDiff, reduceIte, ↓reduceIte, Nat.reduceBEq, show ((62 : Int) == 0) = false from rfl, Bool.not_false]
      exact .inl (same _ 62 hval (by decide) rfl)
    | some f =>
      rw [hg] at hval
      simp only at hval
      obtain ⟨k, hk, hfn⟩ := getF_mem hg
      have hfd : FOk f.data f.safe := hO.files _ hk
      simp only [XX, CC, YY, Nat.reduceAdd, Nat.reduceSub, Nat.reduceLeDiff, Nat.reduceLT, Nat.reduceEqDiff, reduceIte, ↓reduceIte, Nat.reduceBEq, show ((0 : Int) == 0) = true from rfl, Bool.not_true]
      refine Run.mono _ _ _ _ _ ?_ (spend_g t n b D hD hO)
      rintro v t' ⟨rfl, hst⟩
      rcases spendC_val D with ⟨h1, h2⟩ | ⟨h1, h2⟩
      · rw [h2] at hst
        rw [h1]
        have hgs : getF (spendD D) name = some f := by rw [getF_spend]; exact hg
        have hfat := (hst.at_.file (f, k) hk).2
        have l0 : ldA t' none (.ptr f.fb 0) = some (.str f.data) := by rw [ld_own hfat]; rfl
        have hsto : stA t' none (.ptr f.fb 1) (.int .i64 f.data.size) = some (t'.set f.fb (.cells true (cF { f with safe := f.data.size }))) := by
          rw [st_one (by rfl), wr_own hfat, if_pos ⟨by simp [cF], by rfl⟩]; rfl
        have hD2 := DStep.setF hst.at_ hst.ok hgs (fun x => { x with safe := x.data.size }) (fun _ => rfl) (fun _ => rfl) (by unfold FOk at hfd ⊢; simp only; omega)
        simp only [XX, CC, YY, Nat.reduceAdd, Nat.reduceSub, Nat.reduceLeDiff, Nat.reduceLT, Nat.reduceEqDiff, reduceIte, ↓reduceIte, Nat.reduceBEq, show ((0 : Int) == 0) = true from rfl, Bool.not_true, l0, hsto]
        refine .inl ⟨by rw [hvC hval, h1], ?_⟩
        rw [hvD hval, h1, if_neg (by simp), h2]
        exact hst.trans hD2
      · rw [h1]
        simp only [XX, CC, YY, Nat.reduceAdd, Nat.reduceSub, Nat.reduceLeDiff, Nat.reduceLT, Nat.reduceEqDiff, reduceIte, ↓reduceIte, Nat.reduceBEq, show ((60 : Int) == 0) = false from rfl, Bool.not_false]
        refine .inl ⟨by rw [hvC hval, h1], ?_⟩
        rw [hvD hval, h1, if_pos (by decide)]
        exact hst
  · have c' : (e == 0) = false := by simp [c]
    rw [if_pos c] at hval ⊢
    simp only [XX, CC, YY, Nat.reduceAdd, Nat.reduceSub, Nat.reduceLeDiff, Nat.reduceLT, Nat.reduceEqDiff, reduceIte, ↓reduceIte, Nat.reduceBEq, c', Bool.not_false]
    exact .inl (same _ e hval c rfl)
end Go.Ev

/-! The disk's operations, wherever the power goes: Cut, Off, On, Arm. -/
namespace Go.Ev
set_option linter.unusedVariables false
set_option linter.unusedSimpArgs false
open Go.Ev.So Go.Proofs

def cutV' (D : Dsk) (name : ByteArray) (m : Int) : Dsk := if cutC D name m ≠ 0 then D else if spendC D ≠ 0 then spendV D else setF (spendV D) name fun x => { x with data := x.data.extract 0 m.toNat, safe := m }
set_option maxHeartbeats 2000000 in
theorem dcut_g (t : St) (n b : Nat) (D : Dsk) (name : ByteArray) (m : Int) (hD : DAt t n b D) (hO : DOk D) (hs : name.size < 140737488355328) :
    Run T f_files_Disk_Cut [.ptr b 0, .str name, .int .i64 m] t fun v t' => v = .int .i64 (outC D (cutC D name m)) ∧ DStep n b D (cutV' D name m) t t' := by
  refine run_body (F := r_files_Disk_Cut) (has rfl) (by simp [r_files_Disk_Cut]) ?_
  have same : ∀ (v : AV) (c : Int), cutC D name m = c → c ≠ 0 → v = .int .i64 c → (v = .int .i64 (outC D (cutC D name m)) ∧ DStep n b D (cutV' D name m) t t) := by
    rintro v c h1 h2 rfl
    exact ⟨by unfold outC; rw [h1, if_pos h2], by unfold cutV'; rw [if_pos (by rw [h1]; exact h2)]; exact .refl hD hO⟩
  have hval : cutC D name m = if chkV D [name] ≠ 0 then chkV D [name] else match getF D name with
    | some f => if m < 0 ∨ m > f.data.size then 1 else 0
    | none => 62 := rfl
  have hvD : cutC D name m = 0 → cutV' D name m = if spendC D ≠ 0 then spendV D else setF (spendV D) name fun x => { x with data := x.data.extract 0 m.toNat, safe := m } := fun h => by unfold cutV'; rw [if_neg (by rw [h]; simp)]
  have hvC : cutC D name m = 0 → outC D (cutC D name m) = spendC D := fun h => by unfold outC; rw [if_neg (by rw [h]; simp)]
  simp only [r_files_Disk_Cut, XX, CC, YY, Nat.reduceAdd, Nat.reduceSub, Nat.reduceLeDiff, Nat.reduceLT, Nat.reduceEqDiff, reduceIte, ↓reduceIte, Nat.reduceBEq]
  refine (find_r t n b D name hD hs).use ?_
  unfold findV
  generalize chkV D [name] = e at *
  generalize outC D (cutC D name m) = O at *
  generalize cutC D name m = C at *
  generalize cutV' D name m = D' at *
  have em : e = 0 ∨ ¬ e = 0 := Classical.em _
  rcases em with c | c
  · subst c
    rw [if_neg (by simp)] at hval ⊢
    cases hg : getF D name with
    | none =>
      rw [hg] at hval
      simp only [XX, CC, YY, Nat.reduceAdd, Nat.reduceSub, Nat.reduceLeDiff, Nat.reduceLT, Nat.reduceEqDiff, reduceIte, ↓reduceIte, Nat.reduceBEq, show ((62 : Int) == 0) = false from rfl, Bool.not_false]
      exact .inl (same _ 62 hval (by decide) rfl)
    | some f =>
      rw [hg] at hval
      simp only at hval
      obtain ⟨k, hk, hfn⟩ := getF_mem hg
      have hfd : FOk f.data f.safe := hO.files _ hk
      have l00 : ldA t none (.ptr f.fb 0) = some (.str f.data) := by rw [ld_own (hD.file _ hk).2]; rfl
      have em1 : m < 0 ∨ ¬ m < 0 := Classical.em _
      rcases em1 with c1 | c1
      · rw [if_pos (.inl c1)] at hval
        simp only [XX, CC, YY, Nat.reduceAdd, Nat.reduceSub, Nat.reduceLeDiff, Nat.reduceLT, Nat.reduceEqDiff, reduceIte, ↓reduceIte, Nat.reduceBEq, show ((0 : Int) == 0) = true from rfl, Bool.not_true, dec_t c1, gv_ft, gv_u]
        exact .inl (same _ 1 hval (by decide) rfl)
      have em2 : m > (f.data.size : Int) ∨ ¬ m > (f.data.size : Int) := Classical.em _
      rcases em2 with c2 | c2
      · rw [if_pos (.inr c2)] at hval
        simp only [XX, CC, YY, Nat.reduceAdd, Nat.reduceSub, Nat.reduceLeDiff, Nat.reduceLT, Nat.reduceEqDiff, reduceIte, ↓reduceIte, Nat.reduceBEq, show ((0 : Int) == 0) = true from rfl, Bool.not_true, dec_f c1, gv_ff, l00, dec_t c2]
        exact .inl (same _ 1 hval (by decide) rfl)
      rw [if_neg (by omega)] at hval
      simp only [XX, CC, YY, Nat.reduceAdd, Nat.reduceSub, Nat.reduceLeDiff, Nat.reduceLT, Nat.reduceEqDiff, reduceIte, ↓reduceIte, Nat.reduceBEq, show ((0 : Int) == 0) = true from rfl, Bool.not_true, dec_f c1, gv_ff, l00, dec_f c2]
      refine Run.mono _ _ _ _ _ ?_ (spend_g t n b D hD hO)
      rintro v t' ⟨rfl, hst⟩
      rcases spendC_val D with ⟨h1, h2⟩ | ⟨h1, h2⟩
      · rw [h2] at hst
        rw [h1]
        have hgs : getF (spendD D) name = some f := by rw [getF_spend]; exact hg
        have hfat := (hst.at_.file (f, k) hk).2
        have l0 : ldA t' none (.ptr f.fb 0) = some (.str f.data) := by rw [ld_own hfat]; rfl
        have hsl : slsA (.str f.data) none (some (.int .i64 m)) = some (.str (f.data.extract 0 m.toNat)) := by
          simp only [slsA, boundA]
          rw [if_pos (by omega)]
        have hsto : stA t' none (.ptr f.fb 0) (.str (f.data.extract 0 m.toNat)) = some (t'.set f.fb (.cells true (cF { f with data := f.data.extract 0 m.toNat }))) := by
          rw [st_one (by rfl), wr_own hfat, if_pos ⟨by simp [cF], by rfl⟩]; rfl
        have hkey : (t'.set f.fb (.cells true (cF { f with data := f.data.extract 0 m.toNat })))[f.fb]? = some (.cells true (cF { f with data := f.data.extract 0 m.toNat })) := key_set (List.getElem?_eq_some_iff.1 hfat).1
        have hsto2 : wrA (t'.set f.fb (.cells true (cF { f with data := f.data.extract 0 m.toNat }))) f.fb 1 [AV.int .i64 m] = some (t'.set f.fb (.cells true (cF { f with data := f.data.extract 0 m.toNat, safe := m }))) := by
          rw [wr_own hkey, if_pos ⟨by simp [cF], by rfl⟩, List.set_set]; rfl
        have hsz := extract_size (d := f.data) (n := m) (by omega) (by omega)
        have hD2 := DStep.setF hst.at_ hst.ok hgs (fun x => { x with data := x.data.extract 0 m.toNat, safe := m }) (fun _ => rfl) (fun _ => rfl) (by unfold FOk at hfd ⊢; simp only; omega)
        simp only [XX, CC, YY, Nat.reduceAdd, Nat.reduceSub, Nat.reduceLeDiff, Nat.reduceLT, Nat.reduceEqDiff, reduceIte, ↓reduceIte, Nat.reduceBEq, show ((0 : Int) == 0) = true from rfl, Bool.not_true, l0, hsl, hsto, hsto2]
        refine .inl ⟨by rw [hvC hval, h1], ?_⟩
        rw [hvD hval, h1, if_neg (by simp), h2]
        exact hst.trans hD2
      · rw [h1]
        simp only [XX, CC, YY, Nat.reduceAdd, Nat.reduceSub, Nat.reduceLeDiff, Nat.reduceLT, Nat.reduceEqDiff, reduceIte, ↓reduceIte, Nat.reduceBEq, show ((60 : Int) == 0) = false from rfl, Bool.not_false]
        refine .inl ⟨by rw [hvC hval, h1], ?_⟩
        rw [hvD hval, h1, if_pos (by decide)]
        exact hst
  · have c' : (e == 0) = false := by simp [c]
    rw [if_pos c] at hval ⊢
    simp only [XX, CC, YY, Nat.reduceAdd, Nat.reduceSub, Nat.reduceLeDiff, Nat.reduceLT, Nat.reduceEqDiff, reduceIte, ↓reduceIte, Nat.reduceBEq, c', Bool.not_false]
    exact .inl (same _ e hval c rfl)

def offV (D : Dsk) (keep : Int) : Dsk := if D.down then D else loseD D keep
theorem off_g (t : St) (n b : Nat) (D : Dsk) (keep : Int) (hD : DAt t n b D) (hO : DOk D) : Run T f_files_Disk_Off [.ptr b 0, .int .i64 keep] t fun v t' => v = .tup [] ∧ DStep n b D (offV D keep) t t' := by
  refine run_body (F := r_files_Disk_Off) (has rfl) (by simp [r_files_Disk_Off]) ?_
  have hd := hD.ld.2.1
  unfold offV
  cases c : D.down with
  | true =>
    rw [c] at hd
    simp only [r_files_Disk_Off, XX, CC, YY, Nat.reduceAdd, Nat.reduceSub, Nat.reduceLeDiff, Nat.reduceLT, Nat.reduceEqDiff, reduceIte, ↓reduceIte, Nat.reduceBEq, eqp_f, Bool.not_false, gv_tt, hd, Bool.not_true]
    exact .inl ⟨rfl, .refl hD hO⟩
  | false =>
    rw [c] at hd
    simp only [r_files_Disk_Off, XX, CC, YY, Nat.reduceAdd, Nat.reduceSub, Nat.reduceLeDiff, Nat.reduceLT, Nat.reduceEqDiff, reduceIte, ↓reduceIte, Nat.reduceBEq, eqp_f, Bool.not_false, gv_tt, hd]
    refine (lose_r t n b D keep hD hO).use ?_
    (try simp only [XX, CC, YY, Nat.reduceAdd, Nat.reduceSub, Nat.reduceLeDiff, Nat.reduceLT, Nat.reduceEqDiff, reduceIte, ↓reduceIte, Nat.reduceBEq])
    exact .inl ⟨rfl, lose_step hD hO keep⟩
theorem on_g (t : St) (n b : Nat) (D : Dsk) (hD : DAt t n b D) (hO : DOk D) : Run T f_files_Disk_On [.ptr b 0] t fun v t' => v = .tup [] ∧ DStep n b D (onD D) t t' :=
  (on_r t n b D hD).use ⟨rfl, DStep.setD hD hO rfl rfl rfl⟩
theorem armD_same (D : Dsk) (k keep : Int) : (armD D k keep).mb = D.mb ∧ (armD D k keep).clock = D.clock ∧ (armD D k keep).fs = D.fs := by
  unfold armD; split <;> exact ⟨rfl, rfl, rfl⟩
theorem arm_g (t : St) (n b : Nat) (D : Dsk) (k keep : Int) (hD : DAt t n b D) (hO : DOk D) : Run T f_files_Disk_Arm [.ptr b 0, .int .i64 k, .int .i64 keep] t fun v t' => v = .tup [] ∧ DStep n b D (armD D k keep) t t' := by
  refine Run.mono _ _ _ _ _ ?_ (arm_r t n b D k keep hD)
  rintro v t' ⟨rfl, rfl⟩
  obtain ⟨h1, h2, h3⟩ := armD_same D k keep
  exact ⟨rfl, DStep.setD hD hO h1 h2 h3⟩

end Go.Ev

/-! The disk: Names. -/
namespace Go.Ev
set_option linter.unusedVariables false
set_option linter.unusedSimpArgs false
open Go.Ev.So Go.Proofs

theorem keys_r {T : Nat → Option RF} [Has T] (t : St) (mb : Nat) : RunD T f_maps_Keys_file [.map mb] t (.fn 49 [.ptr t.length 0]) (t ++ [.cells true [.map mb]]) := by
  refine run_body (F := r_maps_Keys_file) (has rfl) (by simp [r_maps_Keys_file]) ?_
  simp only [r_maps_Keys_file, XX, CC, YY, Nat.reduceAdd, Nat.reduceSub, Nat.reduceLeDiff, Nat.reduceLT, Nat.reduceEqDiff, reduceIte, ↓reduceIte, Nat.reduceBEq]
  exact .inl ⟨rfl, rfl⟩
theorem keys_names : ∀ fs : List (Fil × Nat), keysOf (fs.map entF) = fs.map (·.1.name)
  | [] => rfl
  | f :: fs => by
    show f.1.name :: keysOf (fs.map entF) = _
    rw [keys_names fs]; rfl
theorem namesnil_r (t : St) : RunD T f_files_Disk_Names [.nilp] t .nils t := by
  refine run_body (F := r_files_Disk_Names) (has rfl) (by simp [r_files_Disk_Names]) ?_
  simp only [r_files_Disk_Names, XX, CC, YY, Nat.reduceAdd, Nat.reduceSub, Nat.reduceLeDiff, Nat.reduceLT, Nat.reduceEqDiff, reduceIte, ↓reduceIte, Nat.reduceBEq, eqp_t]
  exact .inl ⟨rfl, rfl⟩
theorem names_r (t : St) (n b : Nat) (D : Dsk) (hD : DAt t n b D) (hO : DOk D) (hs : ∀ f ∈ D.fs, f.1.name.size ≤ 32) (l : List ByteArray) (hp : l.Perm (D.fs.map (·.1.name))) (hr : Ris l) (v : AV) (t' : St) (hm : Made t l v t') :
    RunD T f_files_Disk_Names [.ptr b 0] t v t' := by
  have hk : KeyA (t ++ [.cells true [.map D.mb]]) t.length D.mb (D.fs.map entF) D.clock := by
    refine ⟨get_last, ?_, ?_, ?_, ?_, ?_, ?_⟩
    · rw [List.getElem?_append_left (List.getElem?_eq_some_iff.1 hD.map).1]; exact hD.map
    · intro e he
      obtain ⟨f, hf, rfl⟩ := List.mem_map.1 he
      exact ⟨f.1.name, rfl, hs f hf⟩
    · intro e he
      obtain ⟨f, hf, rfl⟩ := List.mem_map.1 he
      exact ⟨f.1.fb, rfl⟩
    · rw [List.map_map]; exact hO.stamps
    · intro e he
      obtain ⟨f, hf, rfl⟩ := List.mem_map.1 he
      exact hO.clock f hf
    · rw [List.length_map]; have := hO.few; omega
  refine run_body (F := r_files_Disk_Names) (has rfl) (by simp [r_files_Disk_Names]) ?_
  have l0 := hD.ld.1
  simp only [r_files_Disk_Names, XX, CC, YY, Nat.reduceAdd, Nat.reduceSub, Nat.reduceLeDiff, Nat.reduceLT, Nat.reduceEqDiff, reduceIte, ↓reduceIte, Nat.reduceBEq, eqp_f, l0]
  refine (keys_r _ _).use ?_
  try simp only [XX, CC, YY, Nat.reduceAdd, Nat.reduceSub, Nat.reduceLeDiff, Nat.reduceLT, Nat.reduceEqDiff, reduceIte, ↓reduceIte, Nat.reduceBEq]
  rcases hm with ⟨rfl, rfl, rfl⟩ | ⟨hne, rfl, rfl⟩
  · refine (sorted_r _ _ _ _ _ [] _ _ hk (by rw [keys_names]; exact hp) hr (.inl ⟨rfl, rfl, rfl⟩)).use ?_
    try simp only [XX, CC, YY, Nat.reduceAdd, Nat.reduceSub, Nat.reduceLeDiff, Nat.reduceLT, Nat.reduceEqDiff, reduceIte, ↓reduceIte, Nat.reduceBEq]
    exact ret_drop ⟨_, rfl⟩ rfl ⟨rfl, rfl⟩
  · refine (sorted_r _ _ _ _ _ l _ _ hk (by rw [keys_names]; exact hp) hr (.inr ⟨hne, rfl, rfl⟩)).use ?_
    simp only [XX, CC, YY, Nat.reduceAdd, Nat.reduceSub, Nat.reduceLeDiff, Nat.reduceLT, Nat.reduceEqDiff, reduceIte, ↓reduceIte, Nat.reduceBEq]
    refine ret_one (r := .sl t.length 0 1 l.length none) (j := t.length + 1) ⟨_, rfl⟩ (by omega) (by simp) ?_ (by simp [AV.under]) (unders_flat cS_un _) ⟨rfl, rfl⟩
    simp [AV.ren]
end Go.Ev

/-! The disk: Delete. -/
namespace Go.Ev
set_option linter.unusedVariables false
set_option linter.unusedSimpArgs false
open Go.Ev.So Go.Proofs

/-- a file dropped -/
def dropF (D : Dsk) (name : ByteArray) : Dsk := { D with fs := D.fs.filter fun f => !decide (name = f.1.name) }
theorem erase_filter {name : ByteArray} : ∀ {fs : List (Fil × Nat)} {i : Nat} {f : Fil × Nat}, (fs.map (·.1.name)).Nodup → fs[i]? = some f → f.1.name = name → fs.eraseIdx i = fs.filter fun f => !decide (name = f.1.name)
  | [], i, f, _, h, _ => by simp at h
  | x :: fs, 0, f, hn, h, he => by
    cases h
    rw [List.map_cons, List.nodup_cons] at hn
    rw [List.eraseIdx_cons_zero, List.filter_cons, if_neg (by simp [he])]
    symm
    rw [List.filter_eq_self]
    intro y hy
    simp only [Bool.not_eq_true', decide_eq_false_iff_not]
    intro e
    exact hn.1 (by rw [he, e]; exact List.mem_map_of_mem hy)
  | x :: fs, i + 1, f, hn, h, he => by
    rw [List.map_cons, List.nodup_cons] at hn
    have h' : fs[i]? = some f := h
    rw [List.eraseIdx_cons_succ, List.filter_cons, if_pos, erase_filter hn.2 h' he]
    simp only [Bool.not_eq_true', decide_eq_false_iff_not]
    intro e
    exact hn.1 (by rw [← e, ← he]; exact List.mem_map_of_mem (List.mem_of_getElem? h'))
theorem map_erase {α β : Type} (g : α → β) : ∀ (l : List α) (i : Nat), (l.map g).eraseIdx i = (l.eraseIdx i).map g
  | [], i => by simp
  | x :: l, 0 => rfl
  | x :: l, i + 1 => by rw [List.map_cons, List.eraseIdx_cons_succ, List.eraseIdx_cons_succ, List.map_cons, map_erase g l i]
section
variable {t : St} {n b : Nat} {D : Dsk}
theorem dropF_mem {name : ByteArray} {f : Fil × Nat} (h : f ∈ (dropF D name).fs) : f ∈ D.fs := (List.mem_filter.1 h).1
theorem dropF_sub (name : ByteArray) : (dropF D name).fs.Sublist D.fs := List.filter_sublist
theorem dropF_ok (ho : DOk D) (name : ByteArray) : DOk (dropF D name) :=
  ⟨fun f hf => ho.files f (dropF_mem hf), Nat.le_trans (dropF_sub name).length_le ho.few, fun f hf => ho.clock f (dropF_mem hf), ho.stamps.sublist ((dropF_sub name).map _)⟩
theorem DStep.drop (h : DAt t n b D) (ho : DOk D) (name : ByteArray) : DStep n b D (dropF D name) t (t.set D.mb (.map ((dropF D name).fs.map entF) D.clock)) := by
  have ha := h.apart
  simp only [List.nodup_cons, List.mem_cons, not_or, List.mem_map, not_exists, not_and] at ha
  have hml := (List.getElem?_eq_some_iff.1 h.map).1
  refine ⟨⟨h.low, ?_, h.mlow, key_set hml, fun f hf => ⟨(h.file f (dropF_mem hf)).1, ?_⟩, ?_, h.names.sublist ((dropF_sub name).map _)⟩, dropF_ok ho name, by simp, fun i hi hn => ?_, fun i hi => ?_⟩
  · rw [List.getElem?_set_ne (fun e => ha.1.1 e.symm)]; exact h.cells
  · rw [List.getElem?_set_ne (fun e => ha.2.1 f (dropF_mem hf) e.symm)]; exact (h.file f (dropF_mem hf)).2
  · exact h.apart.sublist ((((dropF_sub name).map _).cons_cons _).cons_cons _)
  · exact List.getElem?_set_ne (fun e => hn (.inr (.inl e.symm)))
  · rcases hi with rfl | rfl | ⟨f, hf, rfl⟩
    · exact .inl (.inl rfl)
    · exact .inl (.inr (.inl rfl))
    · exact .inl (.inr (.inr ⟨f, dropF_mem hf, rfl⟩))
theorem del_at (h : DAt t n b D) {name : ByteArray} {f : Fil} (hg : getF D name = some f) : xtA t (.del .s) [.map D.mb, .str name] = some (.tup [], t.set D.mb (.map ((dropF D name).fs.map entF) D.clock)) := by
  obtain ⟨r, h1, h2⟩ := find_ent name D.fs
  have hm : mapB t D.mb = some (D.fs.map entF, D.clock) := by unfold mapB; rw [h.map]
  show delA t .s (.map D.mb) (.str name) = _
  unfold delA
  simp only [hm, h1]
  unfold getF at hg
  cases r with
  | none => simp only at h2; rw [h2] at hg; cases hg
  | some x =>
    obtain ⟨i, v⟩ := x
    obtain ⟨fk, a1, a2, a3⟩ := h2
    have hn : fk.1.name = name := by have := List.find?_some a1; simp at this; exact this.symm
    simp only
    rw [map_erase, erase_filter h.names a2 hn]; rfl
end
def delC (D : Dsk) (name : ByteArray) : Int := if chkV D [name] ≠ 0 then chkV D [name] else match getF D name with
  | some _ => 0
  | none => 62
def delV (D : Dsk) (name : ByteArray) : Dsk := if delC D name ≠ 0 then D else if spendC D ≠ 0 then spendV D else dropF (spendV D) name
set_option maxHeartbeats 2000000 in
theorem ddel_g (t : St) (n b : Nat) (D : Dsk) (name : ByteArray) (hD : DAt t n b D) (hO : DOk D) (hs : name.size < 140737488355328) :
    Run T f_files_Disk_Delete [.ptr b 0, .str name] t fun v t' => v = .int .i64 (outC D (delC D name)) ∧ DStep n b D (delV D name) t t' := by
  refine run_body (F := r_files_Disk_Delete) (has rfl) (by simp [r_files_Disk_Delete]) ?_
  have same : ∀ (v : AV) (c : Int), delC D name = c → c ≠ 0 → v = .int .i64 c → (v = .int .i64 (outC D (delC D name)) ∧ DStep n b D (delV D name) t t) := by
    rintro v c h1 h2 rfl
    exact ⟨by unfold outC; rw [h1, if_pos h2], by unfold delV; rw [if_pos (by rw [h1]; exact h2)]; exact .refl hD hO⟩
  have hval : delC D name = if chkV D [name] ≠ 0 then chkV D [name] else match getF D name with
    | some _ => 0
    | none => 62 := rfl
  have hvD : delC D name = 0 → delV D name = if spendC D ≠ 0 then spendV D else dropF (spendV D) name := fun h => by unfold delV; rw [if_neg (by rw [h]; simp)]
  have hvC : delC D name = 0 → outC D (delC D name) = spendC D := fun h => by unfold outC; rw [if_neg (by rw [h]; simp)]
  simp only [r_files_Disk_Delete, XX, CC, YY, Nat.reduceAdd, Nat.reduceSub, Nat.reduceLeDiff, Nat.reduceLT, Nat.reduceEqDiff, reduceIte, ↓reduceIte, Nat.reduceBEq]
  refine (find_r t n b D name hD hs).use ?_
  unfold findV
  generalize chkV D [name] = e at *
  generalize outC D (delC D name) = O at *
  generalize delC D name = C at *
  generalize delV D name = D' at *
  have em : e = 0 ∨ ¬ e = 0 := Classical.em _
  rcases em with c | c
  · subst c
    rw [if_neg (by simp)] at hval ⊢
    cases hg : getF D name with
    | none =>
      rw [hg] at hval
      simp only [XX, CC, YY, Nat.reduceAdd, Nat.reduceSub, Nat.reduceLeDiff, Nat.reduceLT, Nat.reduceEqDiff, reduceIte, ↓reduceIte, Nat.reduceBEq, show ((62 : Int) == 0) = false from rfl, Bool.not_false]
      exact .inl (same _ 62 hval (by decide) rfl)
    | some f =>
      rw [hg] at hval
      simp only at hval
      simp only [XX, CC, YY, Nat.reduceAdd, Nat.reduceSub, Nat.reduceLeDiff, Nat.reduceLT, Nat.reduceEqDiff, reduceIte, ↓reduceIte, Nat.reduceBEq, show ((0 : Int) == 0) = true from rfl, Bool.not_true]
      refine Run.mono _ _ _ _ _ ?_ (spend_g t n b D hD hO)
      rintro v t' ⟨rfl, hst⟩
      rcases spendC_val D with ⟨h1, h2⟩ | ⟨h1, h2⟩
      · rw [h2] at hst
        rw [h1]
        have hgs : getF (spendD D) name = some f := by rw [getF_spend]; exact hg
        have l0 := hst.at_.ld.1
        have hdel := del_at hst.at_ hgs
        simp only [XX, CC, YY, Nat.reduceAdd, Nat.reduceSub, Nat.reduceLeDiff, Nat.reduceLT, Nat.reduceEqDiff, reduceIte, ↓reduceIte, Nat.reduceBEq, show ((0 : Int) == 0) = true from rfl, Bool.not_true, l0, hdel]
        refine .inl ⟨by rw [hvC hval, h1], ?_⟩
        rw [hvD hval, h1, if_neg (by simp), h2]
        exact hst.trans (DStep.drop hst.at_ hst.ok name)
      · rw [h1]
        simp only [XX, CC, YY, Nat.reduceAdd, Nat.reduceSub, Nat.reduceLeDiff, Nat.reduceLT, Nat.reduceEqDiff, reduceIte, ↓reduceIte, Nat.reduceBEq, show ((60 : Int) == 0) = false from rfl, Bool.not_false]
        refine .inl ⟨by rw [hvC hval, h1], ?_⟩
        rw [hvD hval, h1, if_pos (by decide)]
        exact hst
  · have c' : (e == 0) = false := by simp [c]
    rw [if_pos c] at hval ⊢
    simp only [XX, CC, YY, Nat.reduceAdd, Nat.reduceSub, Nat.reduceLeDiff, Nat.reduceLT, Nat.reduceEqDiff, reduceIte, ↓reduceIte, Nat.reduceBEq, c', Bool.not_false]
    exact .inl (same _ e hval c rfl)
end Go.Ev

/-! The disk: Safe, and a file moved. -/
namespace Go.Ev
set_option linter.unusedVariables false
set_option linter.unusedSimpArgs false
open Go.Ev.So Go.Proofs

def safeV (D : Dsk) (name : ByteArray) : Int := match getF D name with
  | some f => f.safe
  | none => 0
theorem safenil_r (t : St) (v : AV) : RunD T f_files_Disk_Safe [.nilp, v] t (.int .i64 0) t := by
  refine run_body (F := r_files_Disk_Safe) (has rfl) (by simp [r_files_Disk_Safe]) ?_
  simp only [r_files_Disk_Safe, XX, CC, YY, Nat.reduceAdd, Nat.reduceSub, Nat.reduceLeDiff, Nat.reduceLT, Nat.reduceEqDiff, reduceIte, ↓reduceIte, Nat.reduceBEq, eqp_t, gv_tf, gv_ft, gv_ff, gv_u]
  exact .inl ⟨rfl, rfl⟩
theorem safe_r (t : St) (n b : Nat) (D : Dsk) (name : ByteArray) (hD : DAt t n b D) : RunD T f_files_Disk_Safe [.ptr b 0, .str name] t (.int .i64 (safeV D name)) t := by
  refine run_body (F := r_files_Disk_Safe) (has rfl) (by simp [r_files_Disk_Safe]) ?_
  have l0 := hD.ld.1
  have hl := look_r hD name
  unfold safeV
  cases hg : getF D name with
  | none =>
    rw [hg] at hl
    simp only [ptrF] at hl
    simp only [r_files_Disk_Safe, XX, CC, YY, Nat.reduceAdd, Nat.reduceSub, Nat.reduceLeDiff, Nat.reduceLT, Nat.reduceEqDiff, reduceIte, ↓reduceIte, Nat.reduceBEq, eqp_f, gv_tf, gv_ft, gv_ff, gv_u, l0, hl, eqp_t]
    exact .inl ⟨rfl, rfl⟩
  | some f =>
    rw [hg] at hl
    simp only [ptrF] at hl
    obtain ⟨k, hk, _⟩ := getF_mem hg
    have l1 : ldA t none (.ptr f.fb 1) = some (.int .i64 f.safe) := by rw [ld_own (hD.file _ hk).2]; rfl
    simp only [r_files_Disk_Safe, XX, CC, YY, Nat.reduceAdd, Nat.reduceSub, Nat.reduceLeDiff, Nat.reduceLT, Nat.reduceEqDiff, reduceIte, ↓reduceIte, Nat.reduceBEq, eqp_f, gv_tf, gv_ft, gv_ff, gv_u, l0, hl, l1]
    exact .inl ⟨rfl, rfl⟩
end Go.Ev
