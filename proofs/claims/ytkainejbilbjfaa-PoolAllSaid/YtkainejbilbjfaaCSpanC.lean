import Derived.Test.YtkainejbilbjfaaCSpanB
/-! span.Put, span.Less, and what they call of slices. -/
namespace Go.Ev
set_option linter.unusedVariables false
set_option linter.unusedSimpArgs false
open Go.Ev.Sp

theorem grow_r (s : St) (n : Nat) (hn : n < 1000000000) : Run T f_slices_Grow_Range [.nils, .int .i64 n] s (Out 4 cR s []) := by
  refine run_body (F := r_slices_Grow_Range) rfl (by simp [r_slices_Grow_Range]) ?_
  simp only [r_slices_Grow_Range, XX, CC, Nat.reduceAdd, Nat.reduceSub, Nat.reduceLeDiff, Nat.reduceLT, Nat.reduceEqDiff, reduceIte, ↓reduceIte, Nat.reduceBEq, dec_f (show ¬ (n : Int) < 0 by omega), op_capl, caplA, lenl_nils, show IntKind.i64.wrap 0 = 0 by decide, Int.sub_zero, w64_in (x := n) (by omega) (by omega)]
  by_cases h : 0 < n
  · simp only [XX, CC, Nat.reduceAdd, Nat.reduceSub, Nat.reduceLeDiff, Nat.reduceLT, Nat.reduceEqDiff, reduceIte, ↓reduceIte, Nat.reduceBEq, dec_t (show (n : Int) > 0 by omega), op_capl, caplA, lenl_nils, slc_nils, appz_0 h (show n * (32 + 1) ≤ 35184372088832 by omega), slc_0]
    exact ret_own1 (n := s.length) (.inr ⟨s.length, none, _, Nat.le_refl _, .inl rfl, rfl, get_last, unders_rep rfl n⟩) (Nat.le_refl _) ⟨_, rfl⟩ cR_un fun _ _ h => h
  · simp only [XX, CC, Nat.reduceAdd, Nat.reduceSub, Nat.reduceLeDiff, Nat.reduceLT, Nat.reduceEqDiff, reduceIte, ↓reduceIte, Nat.reduceBEq, dec_f (show ¬ (n : Int) > 0 by omega)]
    exact ret_own1 (n := s.length) .nil (Nat.le_refl _) (.refl _) cR_un fun _ _ h => h

theorem rdV {α : Type} {f : α → AV} {t : St} {v : AV} {l : List α} (hv : Rd 1 (fun p => [f p]) t v l) {i : Nat} {q : α} (hi : l[i]? = some q) :
    ∃ b o, (∀ k : IntKind, ixaA 1 v (.int k (i : Int)) = some (.ptr b o)) ∧ ldA t none (.ptr b o) = some (f q) ∧ ∀ l, ldA (t ++ l) none (.ptr b o) = some (f q) := by
  obtain ⟨b, o, h1, h2⟩ := hv.get (fun _ => rfl) hi
  have a1 : ldA t none (.ptr b o) = some (f q) := h2 none 0 (f q) rfl
  exact ⟨b, o, h1, a1, ldA_ext a1⟩

theorem flat_take {ps : List (AV × List (Nat × Nat))} {i : Nat} {p : AV × List (Nat × Nat)} (h : ps[i]? = some p) : (ps.take (i + 1)).flatMap (·.2) = (ps.take i).flatMap (·.2) ++ p.2 := by
  rw [List.take_add_one, h]; simp
theorem flat_take_le (ps : List (AV × List (Nat × Nat))) (i : Nat) : ((ps.take i).flatMap (·.2)).length ≤ (ps.flatMap (·.2)).length := by
  conv => rhs; rw [← List.take_append_drop i ps, List.flatMap_append, List.length_append]
  omega

theorem concat_r (s : St) (v : AV) (ps : List (AV × List (Nat × Nat))) (hl : ps.length < 1000000000) (hn : (ps.flatMap (·.2)).length < 1000000000) (hv : Rd 1 (fun p => [p.1]) s v ps) (hp : ∀ p ∈ ps, Rd 4 cR s p.1 p.2) :
    Run T f_slices_Concat_Range [v] s (Out 4 cR s (ps.flatMap (·.2))) := by
  refine run_body (F := r_slices_Concat_Range) rfl (by simp [r_slices_Concat_Range]) ?_
  simp only [r_slices_Concat_Range, XX, CC, Nat.reduceAdd, Nat.reduceSub, Nat.reduceLeDiff, Nat.reduceLT, Nat.reduceEqDiff, reduceIte, ↓reduceIte, Nat.reduceBEq, hv.len]
  refine awp_loop (fun d e t => t = s ∧ ∃ i : Nat, i + d = ps.length ∧ e.get 0 = v ∧ e.get 3 = .int .i64 ((ps.take i).flatMap (·.2)).length ∧ e.get 9 = v ∧ e.get 10 = .int .i64 ps.length ∧ e.get 11 = .int .i64 i) ps.length ?_ ?_
  · refine ⟨rfl, 0, by omega, ?_, ?_, ?_, ?_, ?_⟩ <;> (try simp only [XX, CC, Nat.reduceAdd, Nat.reduceSub, Nat.reduceLeDiff, Nat.reduceLT, Nat.reduceEqDiff, reduceIte, ↓reduceIte, Nat.reduceBEq, hv.len]) <;> rfl
  rintro d e s ⟨rfl, i, hi, g0, g3, g9, g10, g11⟩
  simp only [XX, CC, Nat.reduceAdd, Nat.reduceSub, Nat.reduceLeDiff, Nat.reduceLT, Nat.reduceEqDiff, reduceIte, ↓reduceIte, Nat.reduceBEq, g0, g3, g9, g10, g11]
  by_cases h : i < ps.length
  · obtain ⟨p, hq, hd⟩ := drop_get h
    obtain ⟨b, o, h1, h2⟩ := rdV hv hq
    have hpl := (hp p (List.mem_of_getElem? hq)).len
    have hle := flat_take_le ps (i + 1)
    rw [flat_take hq, List.length_append] at hle
    simp only [dec_t (show (i : Int) < ps.length by omega), XX, CC, Nat.reduceAdd, Nat.reduceSub, Nat.reduceLeDiff, Nat.reduceLT, Nat.reduceEqDiff, reduceIte, ↓reduceIte, Nat.reduceBEq, g0, g3, g9, g10, g11, h1, h2, hpl]
    rw [w64_in (by omega) (by omega)]
    simp only [dec_f (show ¬ (((ps.take i).flatMap (·.2)).length : Int) + p.2.length < 0 by omega), XX, CC, Nat.reduceAdd, Nat.reduceSub, Nat.reduceLeDiff, Nat.reduceLT, Nat.reduceEqDiff, reduceIte, ↓reduceIte, Nat.reduceBEq, g0, g3, g9, g10, g11]
    refine loop_again ⟨d - 1, by omega, rfl, i + 1, by omega, ?_, ?_, ?_, ?_, ?_⟩ <;> (try simp only [XX, CC, Nat.reduceAdd, Nat.reduceSub, Nat.reduceLeDiff, Nat.reduceLT, Nat.reduceEqDiff, reduceIte, ↓reduceIte, Nat.reduceBEq, g0, g3, g9, g10, g11])
    · rw [flat_take hq, List.length_append]; simp
    · rw [w64_nat (by omega)]
  · simp only [dec_f (show ¬ (i : Int) < ps.length by omega), XX, CC, Nat.reduceAdd, Nat.reduceSub, Nat.reduceLeDiff, Nat.reduceLT, Nat.reduceEqDiff, reduceIte, ↓reduceIte, Nat.reduceBEq, g0, g3]
    have hle := flat_take_le ps i
    refine Run.mono _ _ _ _ _ ?_ (grow_r _ _ (by omega))
    intro v1 s1 ho1
    have hv1 := hv.ext ho1.ext
    simp only [hv1.len, XX, CC, Nat.reduceAdd, Nat.reduceSub, Nat.reduceLeDiff, Nat.reduceLT, Nat.reduceEqDiff, reduceIte, ↓reduceIte, Nat.reduceBEq]
    refine awp_loop (fun d e t => Ext s t ∧ ∃ (i : Nat) (vo : AV), i + d = ps.length ∧ e.get 6 = vo ∧ e.get 25 = v ∧ e.get 26 = .int .i64 ps.length ∧ e.get 27 = .int .i64 i ∧ Own s.length 4 cR t vo ((ps.take i).flatMap (·.2))) ps.length ?_ ?_
    · refine ⟨ho1.ext, 0, v1, by omega, ?_, ?_, ?_, ?_, ho1.own⟩ <;> (try simp only [XX, CC, Nat.reduceAdd, Nat.reduceSub, Nat.reduceLeDiff, Nat.reduceLT, Nat.reduceEqDiff, reduceIte, ↓reduceIte, Nat.reduceBEq, hv1.len, g0]) <;> rfl
    rintro d e t ⟨hx, i, vo, hi, g6, g25, g26, g27, ho⟩
    have hv := hv.ext hx
    simp only [XX, CC, Nat.reduceAdd, Nat.reduceSub, Nat.reduceLeDiff, Nat.reduceLT, Nat.reduceEqDiff, reduceIte, ↓reduceIte, Nat.reduceBEq, g6, g25, g26, g27]
    by_cases h : i < ps.length
    · obtain ⟨p, hq, hd⟩ := drop_get h
      obtain ⟨b, o, h1, h2⟩ := rdV hv hq
      have hle := flat_take_le ps (i + 1)
      rw [flat_take hq, List.length_append] at hle
      obtain ⟨v', t', e1, e2, e3, e4, e5, e6⟩ := own_app (by_ := 32) ho hx.len ((hp p (List.mem_of_getElem? hq)).ext hx) cR_len cR_cell (by omega)
      simp only [dec_t (show (i : Int) < ps.length by omega), XX, CC, Nat.reduceAdd, Nat.reduceSub, Nat.reduceLeDiff, Nat.reduceLT, Nat.reduceEqDiff, reduceIte, ↓reduceIte, Nat.reduceBEq, g6, g25, g26, g27, h1, h2, e1]
      refine loop_again ⟨d - 1, by omega, e5 _ (Nat.le_refl _) hx, i + 1, v', by omega, ?_, ?_, ?_, ?_, by rw [flat_take hq]; exact e2⟩ <;> (try simp only [XX, CC, Nat.reduceAdd, Nat.reduceSub, Nat.reduceLeDiff, Nat.reduceLT, Nat.reduceEqDiff, reduceIte, ↓reduceIte, Nat.reduceBEq, g6, g25, g26, g27])
      rw [w64_nat (by omega)]
    · simp only [dec_f (show ¬ (i : Int) < ps.length by omega), XX, CC, Nat.reduceAdd, Nat.reduceSub, Nat.reduceLeDiff, Nat.reduceLT, Nat.reduceEqDiff, reduceIte, ↓reduceIte, Nat.reduceBEq, g6]
      rw [List.take_of_length_le (by omega)] at ho
      exact ret_own1 ho (Nat.le_refl _) hx cR_un fun _ _ h => h
end Go.Ev
