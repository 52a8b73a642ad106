import Derived.Test.YtkainejbilbjfaaCSpanF
/-! span.Has. -/
namespace Go.Ev
set_option linter.unusedVariables false
set_option linter.unusedSimpArgs false
open Go.Ev.Sp

theorem has1_r (s : St) (q : Nat × Nat) (a b : Nat) (hb : s[b]? = some (.cells true (cA a))) : RunD T f_span_Has_1 [aR q, .ptr b 0] s (.bool (decide (q.1 ≤ a) && decide (a ≤ q.2))) s := by
  refine run_body (F := r_span_Has_1) rfl (by simp [r_span_Has_1]) ?_
  simp only [r_span_Has_1, XX, CC, Nat.reduceAdd, Nat.reduceSub, Nat.reduceLeDiff, Nat.reduceLT, Nat.reduceEqDiff, reduceIte, ↓reduceIte, Nat.reduceBEq, blkA hb]
  refine (below_r _ a q.1).use ?_
  cases c : decide (a < q.1)
  · simp only [XX, CC, Nat.reduceAdd, Nat.reduceSub, Nat.reduceLeDiff, Nat.reduceLT, Nat.reduceEqDiff, reduceIte, ↓reduceIte, Nat.reduceBEq, blkA hb, Bool.not_false]
    refine (below_r _ q.2 a).use ?_
    simp only [XX, CC, Nat.reduceAdd, Nat.reduceSub, Nat.reduceLeDiff, Nat.reduceLT, Nat.reduceEqDiff, reduceIte, ↓reduceIte, Nat.reduceBEq]
    refine ret_drop ⟨_, rfl⟩ rfl ⟨?_, rfl⟩
    simp at c
    rw [dec_t (show q.1 ≤ a by omega), Bool.true_and, ← decide_not]
    congr 1; simp
  · simp only [XX, CC, Nat.reduceAdd, Nat.reduceSub, Nat.reduceLeDiff, Nat.reduceLT, Nat.reduceEqDiff, reduceIte, ↓reduceIte, Nat.reduceBEq, Bool.not_true]
    refine ret_drop ⟨_, rfl⟩ rfl ⟨?_, rfl⟩
    simp at c
    rw [dec_f (show ¬ q.1 ≤ a by omega)]; rfl

theorem index_r (s : St) (v : AV) (set : List (Nat × Nat)) (a b : Nat) (hl : set.length < 4611686018427387904) (hb : s[b]? = some (.cells true (cA a))) (hv : Rd 4 cR s v set) :
    Run T f_slices_IndexFunc_Range [v, .fn f_span_Has_1 [.ptr b 0]] s (fun r t => t = s ∧ ∃ x : Int, r = .int .i64 x ∧ decide (x ≥ 0) = inL set a) := by
  refine run_body (F := r_slices_IndexFunc_Range) rfl (by simp [r_slices_IndexFunc_Range]) ?_
  simp only [r_slices_IndexFunc_Range, XX, CC, Nat.reduceAdd, Nat.reduceSub, Nat.reduceLeDiff, Nat.reduceLT, Nat.reduceEqDiff, reduceIte, ↓reduceIte, Nat.reduceBEq, hv.len]
  refine awp_loop (fun d e t => t = s ∧ ∃ i : Nat, i + d = set.length ∧ e.get 0 = v ∧ e.get 1 = .fn f_span_Has_1 [.ptr b 0] ∧ e.get 6 = v ∧ e.get 7 = .int .i64 set.length ∧ e.get 8 = .int .i64 i ∧ inL set a = inL (set.drop i) a) set.length ?_ ?_
  · refine ⟨rfl, 0, by omega, ?_, ?_, ?_, ?_, ?_, rfl⟩ <;> (try simp only [XX, CC, Nat.reduceAdd, Nat.reduceSub, Nat.reduceLeDiff, Nat.reduceLT, Nat.reduceEqDiff, reduceIte, ↓reduceIte, Nat.reduceBEq, hv.len]) <;> rfl
  rintro d e s ⟨rfl, i, hi, g0, g1, g6, g7, g8, hd0⟩
  simp only [XX, CC, Nat.reduceAdd, Nat.reduceSub, Nat.reduceLeDiff, Nat.reduceLT, Nat.reduceEqDiff, reduceIte, ↓reduceIte, Nat.reduceBEq, g0, g1, g6, g7, g8]
  by_cases h : i < set.length
  · obtain ⟨q, hq, hd⟩ := drop_get h
    obtain ⟨b2, o2, h1, h2⟩ := rdR hv hq
    rw [hd] at hd0
    simp only [dec_t (show (i : Int) < set.length by omega), XX, CC, Nat.reduceAdd, Nat.reduceSub, Nat.reduceLeDiff, Nat.reduceLT, Nat.reduceEqDiff, reduceIte, ↓reduceIte, Nat.reduceBEq, g0, g1, g6, g7, g8, h1, h2]
    refine (has1_r _ q a b hb).use ?_
    unfold inL at hd0
    rw [List.any_cons] at hd0
    cases c : (decide (q.1 ≤ a) && decide (a ≤ q.2))
    · simp only [XX, CC, Nat.reduceAdd, Nat.reduceSub, Nat.reduceLeDiff, Nat.reduceLT, Nat.reduceEqDiff, reduceIte, ↓reduceIte, Nat.reduceBEq, g0, g1, g6, g7, g8]
      refine loop_again ⟨d - 1, by omega, rfl, i + 1, by omega, ?_, ?_, ?_, ?_, ?_, ?_⟩ <;> (try simp only [XX, CC, Nat.reduceAdd, Nat.reduceSub, Nat.reduceLeDiff, Nat.reduceLT, Nat.reduceEqDiff, reduceIte, ↓reduceIte, Nat.reduceBEq, g0, g1, g6, g7, g8])
      · rw [w64_nat (by omega)]
      · rw [c] at hd0; unfold inL; rw [hd0]; rfl
    · simp only [XX, CC, Nat.reduceAdd, Nat.reduceSub, Nat.reduceLeDiff, Nat.reduceLT, Nat.reduceEqDiff, reduceIte, ↓reduceIte, Nat.reduceBEq, g0, g1, g6, g7, g8]
      refine ret_drop (.refl _) rfl ⟨rfl, i, rfl, ?_⟩
      rw [c] at hd0; unfold inL; rw [hd0, dec_t (by omega)]; rfl
  · simp only [dec_f (show ¬ (i : Int) < set.length by omega), XX, CC, Nat.reduceAdd, Nat.reduceSub, Nat.reduceLeDiff, Nat.reduceLT, Nat.reduceEqDiff, reduceIte, ↓reduceIte, Nat.reduceBEq, g0]
    rw [List.drop_of_length_le (by omega)] at hd0
    exact ret_drop (.refl _) rfl ⟨rfl, -1, rfl, by rw [hd0]; rfl⟩

theorem contains_r (s : St) (v : AV) (set : List (Nat × Nat)) (a b : Nat) (hl : set.length < 4611686018427387904) (hb : s[b]? = some (.cells true (cA a))) (hv : Rd 4 cR s v set) :
    RunD T f_slices_ContainsFunc_Range [v, .fn f_span_Has_1 [.ptr b 0]] s (.bool (inL set a)) s := by
  refine run_body (F := r_slices_ContainsFunc_Range) rfl (by simp [r_slices_ContainsFunc_Range]) ?_
  simp only [r_slices_ContainsFunc_Range, XX, CC, Nat.reduceAdd, Nat.reduceSub, Nat.reduceLeDiff, Nat.reduceLT, Nat.reduceEqDiff, reduceIte, ↓reduceIte, Nat.reduceBEq]
  refine Run.mono _ _ _ _ _ ?_ (index_r s v set a b hl hb hv)
  rintro r t ⟨rfl, x, rfl, hx⟩
  simp only [XX, CC, Nat.reduceAdd, Nat.reduceSub, Nat.reduceLeDiff, Nat.reduceLT, Nat.reduceEqDiff, reduceIte, ↓reduceIte, Nat.reduceBEq, hx]
  exact ret_drop (.refl _) rfl ⟨rfl, rfl⟩

/-- span.Has -/
theorem has_r (s : St) (v : AV) (set : List (Nat × Nat)) (a : Nat) (hl : set.length < 4611686018427387904) (hw : Wf set) (hv : Rd 4 cR s v set) : RunD T f_span_Has [v, aA a] s (.bool (sndB 0 set && inL set a)) s := by
  refine run_body (F := r_span_Has) rfl (by simp [r_span_Has]) ?_
  simp only [r_span_Has, XX, CC, Nat.reduceAdd, Nat.reduceSub, Nat.reduceLeDiff, Nat.reduceLT, Nat.reduceEqDiff, reduceIte, ↓reduceIte, Nat.reduceBEq]
  refine (sound_r _ v set (by omega) hw (hv.ext ⟨_, rfl⟩)).use ?_
  cases hs : sndB 0 set
  · simp only [XX, CC, Nat.reduceAdd, Nat.reduceSub, Nat.reduceLeDiff, Nat.reduceLT, Nat.reduceEqDiff, reduceIte, ↓reduceIte, Nat.reduceBEq]
    exact ret_drop ⟨_, rfl⟩ rfl ⟨rfl, rfl⟩
  · simp only [XX, CC, Nat.reduceAdd, Nat.reduceSub, Nat.reduceLeDiff, Nat.reduceLT, Nat.reduceEqDiff, reduceIte, ↓reduceIte, Nat.reduceBEq]
    refine (contains_r _ v set a s.length hl (by simp) (hv.ext ⟨_, rfl⟩)).use ?_
    exact ret_drop ⟨_, rfl⟩ rfl ⟨by rw [Bool.true_and], rfl⟩
end Go.Ev
