import Derived.Test.YtkainejbilbjfaaCRefE
/-! The reference's edges. -/
namespace Go.Ev
set_option linter.unusedVariables false
set_option linter.unusedSimpArgs false
open Go.Ev.Sp

theorem insL_lt {a : Nat} {l : List Nat} (ha : a < 340282366920938463463374607431768211456) (hl : ∀ x ∈ l, x < 340282366920938463463374607431768211456) : ∀ x ∈ insL a l, x < 340282366920938463463374607431768211456 := fun x hx => by
  rcases (insL_mem a x l).1 hx with rfl | h
  · exact ha
  · exact hl x h

set_option maxHeartbeats 4000000 in
/-- tenancyref03.edges -/
theorem edges_r (s : St) (v : AV) (set : List (Nat × Nat)) (hl : set.length < 100000000) (hw : Wf set) (hv : Rd 4 cR s v set) : Run T f_r03_edges [v] s (Out 2 cA s (edgesL 340282366920938463463374607431768211456 set [0])) := by
  refine run_body (F := r_r03_edges) rfl (by simp [r_r03_edges]) ?_
  simp only [r_r03_edges, XX, CC, Nat.reduceAdd, Nat.reduceSub, Nat.reduceLeDiff, Nat.reduceLT, Nat.reduceEqDiff, reduceIte, ↓reduceIte, Nat.reduceBEq]
  refine awp_loop (fun d e t => Ext s t ∧ ∃ (i : Nat) (vo : AV) (out : List Nat), i + d = set.length ∧ e.get 0 = v ∧ e.get 3 = vo ∧ e.get 4 = .int .i64 i ∧ Own s.length 2 cA t vo out ∧ (∀ x ∈ out, x < 340282366920938463463374607431768211456) ∧ out.length ≤ 2 * i + 1 ∧ edgesL 340282366920938463463374607431768211456 set [0] = edgesL 340282366920938463463374607431768211456 (set.drop i) out) set.length ?_ ?_
  · refine ⟨⟨_, rfl⟩, 0, _, [0], by omega, ?_, ?_, ?_, .inr ⟨s.length, some 1, [], Nat.le_refl _, .inr rfl, rfl, by simp; rfl, rfl⟩, by simp, by simp, rfl⟩ <;> (try simp only [XX, CC, Nat.reduceAdd, Nat.reduceSub, Nat.reduceLeDiff, Nat.reduceLT, Nat.reduceEqDiff, reduceIte, ↓reduceIte, Nat.reduceBEq]) <;> rfl
  rintro d e t ⟨hx, i, vo, out, hi, g0, g3, g4, ho, how, hol, hd0⟩
  have hv1 := hv.ext hx
  simp only [XX, CC, Nat.reduceAdd, Nat.reduceSub, Nat.reduceLeDiff, Nat.reduceLT, Nat.reduceEqDiff, reduceIte, ↓reduceIte, Nat.reduceBEq, g0, g3, g4, hv1.len]
  by_cases h : i < set.length
  · obtain ⟨q, hq, hd⟩ := drop_get h
    obtain ⟨b2, o2, h1, h2⟩ := rdR hv1 hq
    have hqw := hw.get hq
    rw [hd] at hd0
    simp only [edgesL] at hd0
    simp only [dec_t (show (i : Int) < set.length by omega), XX, CC, Nat.reduceAdd, Nat.reduceSub, Nat.reduceLeDiff, Nat.reduceLT, Nat.reduceEqDiff, reduceIte, ↓reduceIte, Nat.reduceBEq, g0, g3, g4, h1, h2]
    refine Run.mono _ _ _ _ _ ?_ (with3_r s.length t vo out q.1 hqw.1 (by omega) how hx.len ho)
    rintro v1 t1 ⟨w1, w2, w3, w4⟩
    have hx1 := w3 s (Nat.le_refl _) hx
    obtain ⟨b3, o3, h3, h4⟩ := rdR (hv.ext hx1) hq
    have hbo := (h1 .i64).symm.trans (h3 .i64)
    simp only [Option.some.injEq, AV.ptr.injEq] at hbo
    rw [← hbo.1, ← hbo.2] at h4
    have hl1 := insL_length q.1 out
    simp only [h4, XX, CC, Nat.reduceAdd, Nat.reduceSub, Nat.reduceLeDiff, Nat.reduceLT, Nat.reduceEqDiff, reduceIte, ↓reduceIte, Nat.reduceBEq]
    refine (next_r _ q.2 hqw.2).use ?_
    by_cases hov : 340282366920938463463374607431768211456 ≤ q.2 + 1
    · simp only [XX, CC, Nat.reduceAdd, Nat.reduceSub, Nat.reduceLeDiff, Nat.reduceLT, Nat.reduceEqDiff, reduceIte, ↓reduceIte, Nat.reduceBEq, g0, g3, g4, ovr_t hov, Bool.not_true]
      rw [if_neg (by omega)] at hd0
      refine loop_again ⟨d - 1, by omega, hx1.app _, i + 1, v1, insL q.1 out, by omega, ?_, ?_, ?_, w1.app _, insL_lt hqw.1 how, by omega, hd0⟩ <;> (try simp only [XX, CC, Nat.reduceAdd, Nat.reduceSub, Nat.reduceLeDiff, Nat.reduceLT, Nat.reduceEqDiff, reduceIte, ↓reduceIte, Nat.reduceBEq, g0, g3, g4])
      rw [w64_nat (by omega)]
    · have hm : (q.2 + 1) % 340282366920938463463374607431768211456 = q.2 + 1 := Nat.mod_eq_of_lt (by omega)
      simp only [XX, CC, Nat.reduceAdd, Nat.reduceSub, Nat.reduceLeDiff, Nat.reduceLT, Nat.reduceEqDiff, reduceIte, ↓reduceIte, Nat.reduceBEq, g0, g3, g4, ovr_f hov, Bool.not_false, hm]
      rw [if_pos (by omega)] at hd0
      have hl2 := insL_length (q.2 + 1) (insL q.1 out)
      refine Run.mono _ _ _ _ _ ?_ (with3_r s.length _ v1 (insL q.1 out) (q.2 + 1) (by omega) (by omega) (insL_lt hqw.1 how) (by have := hx1.len; simp; omega) (w1.app _))
      rintro v2 t2 ⟨u1, u2, u3, u4⟩
      refine loop_again ⟨d - 1, by omega, u3 s (Nat.le_refl _) (hx1.app _), i + 1, v2, insL (q.2 + 1) (insL q.1 out), by omega, ?_, ?_, ?_, u1, insL_lt (by omega) (insL_lt hqw.1 how), by omega, hd0⟩ <;> (try simp only [XX, CC, Nat.reduceAdd, Nat.reduceSub, Nat.reduceLeDiff, Nat.reduceLT, Nat.reduceEqDiff, reduceIte, ↓reduceIte, Nat.reduceBEq, g0, g3, g4])
      rw [w64_nat (by omega)]
  · simp only [dec_f (show ¬ (i : Int) < set.length by omega), XX, CC, Nat.reduceAdd, Nat.reduceSub, Nat.reduceLeDiff, Nat.reduceLT, Nat.reduceEqDiff, reduceIte, ↓reduceIte, Nat.reduceBEq, g0, g3]
    rw [List.drop_of_length_le (by omega)] at hd0
    refine ret_own1 ho (Nat.le_refl _) hx cA_un fun v' s' h => ?_
    rw [hd0]; simpa [edgesL] using h
end Go.Ev
