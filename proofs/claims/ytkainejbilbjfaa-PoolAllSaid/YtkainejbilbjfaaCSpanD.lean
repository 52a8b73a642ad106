import Derived.Test.YtkainejbilbjfaaCSpanC
/-! span.Put, span.Less. -/
namespace Go.Ev
set_option linter.unusedVariables false
set_option linter.unusedSimpArgs false
open Go.Ev.Sp

theorem eq_l0 : eqA .l .nils .nils = some true := rfl
theorem eq_l1 {b o e n : Nat} {c : Option Nat} : eqA .l (.sl b o e n c) .nils = some false := rfl
theorem Rd.cases {α : Type} {e : Nat} {enc : α → List AV} {s : St} {v : AV} {l : List α} (h : Rd e enc s v l) : (v = .nils ∧ l = []) ∨ ∃ b o es n c, v = .sl b o es n c := by
  have := h.len
  cases v <;> simp [lenlA] at this
  · exact .inl ⟨rfl, List.length_eq_zero_iff.1 (by omega)⟩
  · exact .inr ⟨_, _, _, _, _, rfl⟩

theorem clone_r (s : St) (v : AV) (set : List (Nat × Nat)) (hl : set.length < 1000000000) (hv : Rd 4 cR s v set) : Run T f_slices_Clone_Range [v] s (Out 4 cR s set) := by
  refine run_body (F := r_slices_Clone_Range) rfl (by simp [r_slices_Clone_Range]) ?_
  rcases hv.cases with ⟨rfl, rfl⟩ | ⟨b, o, es, n, c, rfl⟩
  · simp only [r_slices_Clone_Range, XX, CC, Nat.reduceAdd, Nat.reduceSub, Nat.reduceLeDiff, Nat.reduceLT, Nat.reduceEqDiff, reduceIte, ↓reduceIte, Nat.reduceBEq, eq_l0]
    exact ret_own1 (n := s.length) .nil (Nat.le_refl _) (.refl _) cR_un fun _ _ h => h
  · obtain ⟨v', t', e1, e2, e3, e4, e5, e6⟩ := own_app (by_ := 32) (n := s.length) (t := s ++ [.cells true []]) (v := .sl s.length 0 4 0 (some 0)) (l := []) (.inr ⟨s.length, some 0, [], Nat.le_refl _, .inr rfl, rfl, get_last, rfl⟩) (by simp) (hv.ext ⟨_, rfl⟩) cR_len cR_cell (by simp; omega)
    simp only [r_slices_Clone_Range, XX, CC, Nat.reduceAdd, Nat.reduceSub, Nat.reduceLeDiff, Nat.reduceLT, Nat.reduceEqDiff, reduceIte, ↓reduceIte, Nat.reduceBEq, eq_l1, e1]
    exact ret_own1 e2 (Nat.le_refl _) (e5 _ (Nat.le_refl _) ⟨_, rfl⟩) cR_un fun _ _ h => h

/-- span.Less -/
theorem less_r (s : St) (v w : AV) (set oth : List (Nat × Nat)) (hl : set.length + oth.length < 1000000000) (hw : Wf set) (hw' : Wf oth) (hv : Rd 4 cR s v set) (hv' : Rd 4 cR s w oth) :
    Run T f_span_Less [v, w] s (Ans s (sndB 0 set && sndB 0 oth) (lessL set oth)) := by
  refine run_body (F := r_span_Less) rfl (by simp [r_span_Less]) ?_
  simp only [r_span_Less, XX, CC, Nat.reduceAdd, Nat.reduceSub, Nat.reduceLeDiff, Nat.reduceLT, Nat.reduceEqDiff, reduceIte, ↓reduceIte, Nat.reduceBEq]
  refine (sound_r _ v set (by omega) hw hv).use ?_
  cases hs : sndB 0 set
  · simp only [XX, CC, Nat.reduceAdd, Nat.reduceSub, Nat.reduceLeDiff, Nat.reduceLT, Nat.reduceEqDiff, reduceIte, ↓reduceIte, Nat.reduceBEq, Bool.not_false]
    exact ret_drop (.refl _) rfl ans_no
  simp only [XX, CC, Nat.reduceAdd, Nat.reduceSub, Nat.reduceLeDiff, Nat.reduceLT, Nat.reduceEqDiff, reduceIte, ↓reduceIte, Nat.reduceBEq, Bool.not_true]
  refine (sound_r _ w oth (by omega) hw' hv').use ?_
  cases hs' : sndB 0 oth
  · simp only [XX, CC, Nat.reduceAdd, Nat.reduceSub, Nat.reduceLeDiff, Nat.reduceLT, Nat.reduceEqDiff, reduceIte, ↓reduceIte, Nat.reduceBEq, Bool.not_false]
    exact ret_drop (.refl _) rfl ans_no
  simp only [XX, CC, Nat.reduceAdd, Nat.reduceSub, Nat.reduceLeDiff, Nat.reduceLT, Nat.reduceEqDiff, reduceIte, ↓reduceIte, Nat.reduceBEq, Bool.not_true]
  have hsn := (sndB_iff hw).1 hs
  have hsn' := (sndB_iff hw').1 hs'
  refine Run.mono _ _ _ _ _ ?_ (clone_r s v set (by omega) hv)
  intro v1 s1 ho1
  simp only [hv'.len, XX, CC, Nat.reduceAdd, Nat.reduceSub, Nat.reduceLeDiff, Nat.reduceLT, Nat.reduceEqDiff, reduceIte, ↓reduceIte, Nat.reduceBEq]
  refine awp_loop (fun d e t => Ext s t ∧ ∃ (i : Nat) (vo : AV) (out : List (Nat × Nat)), i + d = oth.length ∧ e.get 6 = vo ∧ e.get 19 = w ∧ e.get 20 = .int .i64 oth.length ∧ e.get 21 = .int .i64 i ∧
    Own s.length 4 cR t vo out ∧ Snd 340282366920938463463374607431768211456 0 out ∧ out.length ≤ set.length + i ∧ lessL set oth = lessL out (oth.drop i)) oth.length ?_ ?_
  · refine ⟨ho1.ext, 0, v1, set, by omega, ?_, ?_, ?_, ?_, ho1.own, hsn, by omega, rfl⟩ <;> (try simp only [XX, CC, Nat.reduceAdd, Nat.reduceSub, Nat.reduceLeDiff, Nat.reduceLT, Nat.reduceEqDiff, reduceIte, ↓reduceIte, Nat.reduceBEq, hv'.len]) <;> rfl
  rintro d e t ⟨hx, i, vo, out, hi, g6, g19, g20, g21, ho, hso, hol, hd0⟩
  have hv' := hv'.ext hx
  simp only [XX, CC, Nat.reduceAdd, Nat.reduceSub, Nat.reduceLeDiff, Nat.reduceLT, Nat.reduceEqDiff, reduceIte, ↓reduceIte, Nat.reduceBEq, g6, g19, g20, g21]
  by_cases h : i < oth.length
  · obtain ⟨q, hq, hd⟩ := drop_get h
    obtain ⟨b', o', h1, h2⟩ := rdR hv' hq
    rw [hd] at hd0
    have hqw := Snd.wf hsn' q (List.mem_of_getElem? hq)
    simp only [dec_t (show (i : Int) < oth.length by omega), XX, CC, Nat.reduceAdd, Nat.reduceSub, Nat.reduceLeDiff, Nat.reduceLT, Nat.reduceEqDiff, reduceIte, ↓reduceIte, Nat.reduceBEq, g6, g19, g20, g21, h1, h2]
    refine Run.mono _ _ _ _ _ ?_ (drop_r _ vo out q.1 q.2 (by omega) (Wf.of hso) (hw'.get hq).1 (hw'.get hq).2 ((ho.app _).rd cR_len))
    rintro r t2 ⟨v2, rfl, ho2⟩
    rw [(sndB_iff (Wf.of hso)).2 hso, dec_t hqw.1] at ho2
    simp only [Bool.and_self, if_true] at ho2
    have hdl := (dropL_length1 hqw.1 hso).1
    simp only [XX, CC, Nat.reduceAdd, Nat.reduceSub, Nat.reduceLeDiff, Nat.reduceLT, Nat.reduceEqDiff, reduceIte, ↓reduceIte, Nat.reduceBEq, g6, g19, g20, g21]
    refine loop_again ⟨d - 1, by omega, (hx.app _).trans ho2.ext, i + 1, v2, dropL q.1 q.2 out, by omega, ?_, ?_, ?_, ?_, ho2.own.mono (by have := hx.len; simp; omega), dropL_snd hqw.1 hso, by omega, hd0⟩ <;> (try simp only [XX, CC, Nat.reduceAdd, Nat.reduceSub, Nat.reduceLeDiff, Nat.reduceLT, Nat.reduceEqDiff, reduceIte, ↓reduceIte, Nat.reduceBEq, g6, g19, g20, g21])
    rw [w64_nat (by omega)]
  · simp only [dec_f (show ¬ (i : Int) < oth.length by omega), XX, CC, Nat.reduceAdd, Nat.reduceSub, Nat.reduceLeDiff, Nat.reduceLT, Nat.reduceEqDiff, reduceIte, ↓reduceIte, Nat.reduceBEq, g6]
    rw [List.drop_of_length_le (by omega)] at hd0
    refine ret_own ho (Nat.le_refl _) hx cR_un rfl fun v' s' h => ⟨v', rfl, ?_⟩
    rw [hd0]; simpa [lessL] using h
end Go.Ev
