import Derived.Test.YtkainejbilbjfaaCSpan
import Derived.Test.YtkainejbilbjfaaEvT
/-! span.Drop. -/
namespace Go.Ev
set_option linter.unusedVariables false
set_option linter.unusedSimpArgs false
open Go.Ev.Sp

/-- A set, or ErrArg. -/
def Ans (s : St) (ok : Bool) (l : List (Nat × Nat)) : AV → St → Prop := fun r s' => ∃ v', r = .tup [v', .int .i64 (if ok then 0 else 1)] ∧ Out 4 cR s (if ok then l else []) v' s'
theorem ans_no {s : St} {l : List (Nat × Nat)} : Ans s false l (.tup [.nils, .int .i64 1]) s := ⟨_, rfl, .inl ⟨rfl, rfl, rfl⟩⟩
set_option maxHeartbeats 2000000 in
theorem drop_r (s : St) (v : AV) (set : List (Nat × Nat)) (a b : Nat) (hl : set.length < 1073741824) (hw : Wf set) (ha : a < 340282366920938463463374607431768211456) (hb : b < 340282366920938463463374607431768211456) (hv : Rd 4 cR s v set) :
    Run T f_span_Drop [v, aR (a, b)] s (Ans s (sndB 0 set && decide (a ≤ b)) (dropL a b set)) := by
  refine run_body (F := r_span_Drop) rfl (by simp [r_span_Drop]) ?_
  simp only [r_span_Drop, XX, CC, Nat.reduceAdd, Nat.reduceSub, Nat.reduceLeDiff, Nat.reduceLT, Nat.reduceEqDiff, reduceIte, ↓reduceIte, Nat.reduceBEq, hv.len]
  refine (sound_r _ v set (by omega) hw (hv.ext ⟨_, rfl⟩)).use ?_
  cases hs : sndB 0 set
  · simp only [XX, CC, Nat.reduceAdd, Nat.reduceSub, Nat.reduceLeDiff, Nat.reduceLT, Nat.reduceEqDiff, reduceIte, ↓reduceIte, Nat.reduceBEq, Bool.not_false]
    exact ret_drop ⟨_, rfl⟩ rfl ans_no
  simp only [XX, CC, Nat.reduceAdd, Nat.reduceSub, Nat.reduceLeDiff, Nat.reduceLT, Nat.reduceEqDiff, reduceIte, ↓reduceIte, Nat.reduceBEq, Bool.not_true]
  refine (isRange_r _ (a, b)).use ?_
  cases hr : decide (a ≤ b)
  · simp only [XX, CC, Nat.reduceAdd, Nat.reduceSub, Nat.reduceLeDiff, Nat.reduceLT, Nat.reduceEqDiff, reduceIte, ↓reduceIte, Nat.reduceBEq, Bool.not_false]
    exact ret_drop ⟨_, rfl⟩ rfl ans_no
  simp only [XX, CC, Nat.reduceAdd, Nat.reduceSub, Nat.reduceLeDiff, Nat.reduceLT, Nat.reduceEqDiff, reduceIte, ↓reduceIte, Nat.reduceBEq, Bool.not_true, hv.len]
  refine awp_loop (fun d e t => Ext (s ++ [.cells true (cR (a, b))]) t ∧ ∃ (i : Nat) (vo : AV) (out : List (Nat × Nat)), i + d = set.length ∧ e.get 3 = .ptr s.length 0 ∧ e.get 6 = vo ∧ e.get 21 = v ∧ e.get 22 = .int .i64 set.length ∧ e.get 23 = .int .i64 i ∧
    Own (s.length + 1) 4 cR t vo out ∧ out.length ≤ 2 * i ∧ dropL a b set = out ++ dropL a b (set.drop i)) set.length ?_ ?_
  · refine ⟨⟨[], by simp⟩, 0, .nils, [], by omega, ?_, ?_, ?_, ?_, ?_, .nil, by simp, rfl⟩ <;> (try simp only [XX, CC, Nat.reduceAdd, Nat.reduceSub, Nat.reduceLeDiff, Nat.reduceLT, Nat.reduceEqDiff, reduceIte, ↓reduceIte, Nat.reduceBEq, hv.len]) <;> rfl
  rintro d e t ⟨hx, i, vo, out, hi, g3, g6, g21, g22, g23, ho, hol, hd0⟩
  have hxs : Ext s t := Ext.trans ⟨_, rfl⟩ hx
  have hv := hv.ext hxs
  have hbox := blkR (t := t) (b := s.length) (q := (a, b)) (hx.get_some get_last)
  have htl : s.length + 1 ≤ t.length := by have := hx.len; simpa using this
  simp only [XX, CC, Nat.reduceAdd, Nat.reduceSub, Nat.reduceLeDiff, Nat.reduceLT, Nat.reduceEqDiff, reduceIte, ↓reduceIte, Nat.reduceBEq, g3, g6, g21, g22, g23]
  by_cases h : i < set.length
  · obtain ⟨q, hq, hd⟩ := drop_get h
    obtain ⟨b', o', h1, h2⟩ := rdR hv hq
    rw [hd] at hd0
    simp only [dec_t (show (i : Int) < set.length by omega), XX, CC, Nat.reduceAdd, Nat.reduceSub, Nat.reduceLeDiff, Nat.reduceLT, Nat.reduceEqDiff, reduceIte, ↓reduceIte, Nat.reduceBEq, g3, g6, g21, g22, g23, h1, h2, hbox]
    refine (below_r _ q.2 a).use ?_
    have hol' : out.length < 4000000000 := by omega
    cases c1 : decide (q.2 < a)
    · simp only [XX, CC, Nat.reduceAdd, Nat.reduceSub, Nat.reduceLeDiff, Nat.reduceLT, Nat.reduceEqDiff, reduceIte, ↓reduceIte, Nat.reduceBEq, g3, g6, g21, g22, g23, h1, h2, hbox]
      refine (below_r _ b q.1).use ?_
      cases c2 : decide (b < q.1)
      · simp only [XX, CC, Nat.reduceAdd, Nat.reduceSub, Nat.reduceLeDiff, Nat.reduceLT, Nat.reduceEqDiff, reduceIte, ↓reduceIte, Nat.reduceBEq, g3, g6, g21, g22, g23, h1, h2, hbox]
        refine (below_r _ q.1 a).use ?_
        simp at c1 c2
        cases c3 : decide (q.1 < a)
        · simp only [XX, CC, Nat.reduceAdd, Nat.reduceSub, Nat.reduceLeDiff, Nat.reduceLT, Nat.reduceEqDiff, reduceIte, ↓reduceIte, Nat.reduceBEq, g3, g6, g21, g22, g23, h1, h2, hbox]
          refine (below_r _ b q.2).use ?_
          simp at c3
          cases c4 : decide (b < q.2)
          · simp only [XX, CC, Nat.reduceAdd, Nat.reduceSub, Nat.reduceLeDiff, Nat.reduceLT, Nat.reduceEqDiff, reduceIte, ↓reduceIte, Nat.reduceBEq, g3, g6, g21, g22, g23, h1, h2, hbox]
            simp at c4
            refine loop_again ⟨d - 1, by omega, hx.app _, i + 1, vo, out, by omega, ?_, ?_, ?_, ?_, ?_, ho.app _, by omega, ?_⟩ <;> (try simp only [XX, CC, Nat.reduceAdd, Nat.reduceSub, Nat.reduceLeDiff, Nat.reduceLT, Nat.reduceEqDiff, reduceIte, ↓reduceIte, Nat.reduceBEq, g3, g6, g21, g22, g23])
            · rw [w64_nat (by omega)]
            · rw [hd0]; simp [dropL, drop1, show ¬ (q.2 < a ∨ b < q.1) by omega, show ¬ q.1 < a by omega, show ¬ b < q.2 by omega]
          · simp only [XX, CC, Nat.reduceAdd, Nat.reduceSub, Nat.reduceLeDiff, Nat.reduceLT, Nat.reduceEqDiff, reduceIte, ↓reduceIte, Nat.reduceBEq, g3, g6, g21, g22, g23, h1, h2, hbox]
            simp at c4
            refine drw_in [.cells true [.int .u64 0, .int .u64 0]] rfl ?_
            simp only [DD, CC, Nat.reduceAdd, Nat.reduceSub, Nat.reduceLeDiff, Nat.reduceLT, Nat.reduceEqDiff, reduceIte, ↓reduceIte, Nat.reduceBEq, g3, g6, g21, g22, g23, hbox]
            refine dr_call (one_r _) ?_
            simp only [DD, CC, Nat.reduceAdd, Nat.reduceSub, Nat.reduceLeDiff, Nat.reduceLT, Nat.reduceEqDiff, reduceIte, ↓reduceIte, Nat.reduceBEq, g3, g6, g21, g22, g23, hbox]
            refine dr_call (add_r _ b 1 hb (by decide)) ?_
            have hm : (b + 1) % 340282366920938463463374607431768211456 = b + 1 := Nat.mod_eq_of_lt (by have := (hw.get hq).2; omega)
            obtain ⟨v', t', e1, e2, e3, e4, e5, e6⟩ := app_R (b + 1, q.2) [.cells true (cR q), .cells true (cA (b + 1))] ho htl hx (by simp) (by omega)
            simp only [XX, CC, Nat.reduceAdd, Nat.reduceSub, Nat.reduceLeDiff, Nat.reduceLT, Nat.reduceEqDiff, reduceIte, ↓reduceIte, Nat.reduceBEq] at e1
            simp only [DD, CC, Nat.reduceAdd, Nat.reduceSub, Nat.reduceLeDiff, Nat.reduceLT, Nat.reduceEqDiff, reduceIte, ↓reduceIte, Nat.reduceBEq, g3, g6, g21, g22, g23, hbox, hm, e1]
            refine loop_again ⟨d - 1, by omega, e3, i + 1, v', out ++ [(b + 1, q.2)], by omega, ?_, ?_, ?_, ?_, ?_, e2, by simp; omega, ?_⟩ <;> (try simp only [XX, CC, Nat.reduceAdd, Nat.reduceSub, Nat.reduceLeDiff, Nat.reduceLT, Nat.reduceEqDiff, reduceIte, ↓reduceIte, Nat.reduceBEq, g3, g6, g21, g22, g23])
            · rw [w64_nat (by omega)]
            · rw [hd0]; simp [dropL, drop1, show ¬ (q.2 < a ∨ b < q.1) by omega, show ¬ q.1 < a by omega, c4]
        · simp only [XX, CC, Nat.reduceAdd, Nat.reduceSub, Nat.reduceLeDiff, Nat.reduceLT, Nat.reduceEqDiff, reduceIte, ↓reduceIte, Nat.reduceBEq, g3, g6, g21, g22, g23, h1, h2, hbox]
          simp at c3
          refine drw_in [.cells true [.int .u64 0, .int .u64 0]] rfl ?_
          simp only [DD, CC, Nat.reduceAdd, Nat.reduceSub, Nat.reduceLeDiff, Nat.reduceLT, Nat.reduceEqDiff, reduceIte, ↓reduceIte, Nat.reduceBEq, g3, g6, g21, g22, g23, hbox]
          refine dr_call (one_r _) ?_
          simp only [DD, CC, Nat.reduceAdd, Nat.reduceSub, Nat.reduceLeDiff, Nat.reduceLT, Nat.reduceEqDiff, reduceIte, ↓reduceIte, Nat.reduceBEq, g3, g6, g21, g22, g23, hbox]
          refine dr_call (sub_r _ a 1 ha (by decide)) ?_
          have hm : (a + 340282366920938463463374607431768211456 - 1) % 340282366920938463463374607431768211456 = a - 1 := by omega
          obtain ⟨v1, t1, e1, e2, e3, e4, e5, e6⟩ := app_R (q.1, a - 1) [.cells true (cR q), .cells true (cA (a - 1))] ho htl hx (by simp) (by omega)
          simp only [XX, CC, Nat.reduceAdd, Nat.reduceSub, Nat.reduceLeDiff, Nat.reduceLT, Nat.reduceEqDiff, reduceIte, ↓reduceIte, Nat.reduceBEq] at e1
          have hq1 := blkR (e5 t.length (.cells true (cR q)) (Nat.le_refl _) (by simp))
          have hbox1 := blkR (t := t1) (b := s.length) (q := (a, b)) (e3.get_some get_last)
          simp only [DD, CC, Nat.reduceAdd, Nat.reduceSub, Nat.reduceLeDiff, Nat.reduceLT, Nat.reduceEqDiff, reduceIte, ↓reduceIte, Nat.reduceBEq, g3, g6, g21, g22, g23, hbox, hm, e1, hbox1, hq1]
          refine (below_r _ b q.2).use ?_
          cases c4 : decide (b < q.2)
          · simp only [XX, CC, Nat.reduceAdd, Nat.reduceSub, Nat.reduceLeDiff, Nat.reduceLT, Nat.reduceEqDiff, reduceIte, ↓reduceIte, Nat.reduceBEq, g3, g6, g21, g22, g23, h1, h2, hbox]
            simp at c4
            refine loop_again ⟨d - 1, by omega, e3, i + 1, v1, out ++ [(q.1, a - 1)], by omega, ?_, ?_, ?_, ?_, ?_, e2, by simp; omega, ?_⟩ <;> (try simp only [XX, CC, Nat.reduceAdd, Nat.reduceSub, Nat.reduceLeDiff, Nat.reduceLT, Nat.reduceEqDiff, reduceIte, ↓reduceIte, Nat.reduceBEq, g3, g6, g21, g22, g23])
            · rw [w64_nat (by omega)]
            · rw [hd0]; simp [dropL, drop1, show ¬ (q.2 < a ∨ b < q.1) by omega, c3, show ¬ b < q.2 by omega]
          · simp only [XX, CC, Nat.reduceAdd, Nat.reduceSub, Nat.reduceLeDiff, Nat.reduceLT, Nat.reduceEqDiff, reduceIte, ↓reduceIte, Nat.reduceBEq, g3, g6, g21, g22, g23, hbox1]
            simp at c4
            refine drw_in [.cells true [.int .u64 0, .int .u64 0]] rfl ?_
            simp only [DD, CC, Nat.reduceAdd, Nat.reduceSub, Nat.reduceLeDiff, Nat.reduceLT, Nat.reduceEqDiff, reduceIte, ↓reduceIte, Nat.reduceBEq, g3, g6, g21, g22, g23, hbox1]
            refine dr_call (one_r _) ?_
            simp only [DD, CC, Nat.reduceAdd, Nat.reduceSub, Nat.reduceLeDiff, Nat.reduceLT, Nat.reduceEqDiff, reduceIte, ↓reduceIte, Nat.reduceBEq, g3, g6, g21, g22, g23, hbox1]
            refine dr_call (add_r _ b 1 hb (by decide)) ?_
            have hm : (b + 1) % 340282366920938463463374607431768211456 = b + 1 := Nat.mod_eq_of_lt (by have := (hw.get hq).2; omega)
            obtain ⟨v', t', f1, f2, f3, f4, f5, f6⟩ := app_R (b + 1, q.2) [.cells true (cA (b + 1))] e2 (by omega) e3 (by simp) (by simp; omega)
            simp only [XX, CC, Nat.reduceAdd, Nat.reduceSub, Nat.reduceLeDiff, Nat.reduceLT, Nat.reduceEqDiff, reduceIte, ↓reduceIte, Nat.reduceBEq] at f1
            simp only [DD, CC, Nat.reduceAdd, Nat.reduceSub, Nat.reduceLeDiff, Nat.reduceLT, Nat.reduceEqDiff, reduceIte, ↓reduceIte, Nat.reduceBEq, g3, g6, g21, g22, g23, hbox1, hq1, hm, f1]
            refine loop_again ⟨d - 1, by omega, f3, i + 1, v', out ++ [(q.1, a - 1)] ++ [(b + 1, q.2)], by omega, ?_, ?_, ?_, ?_, ?_, f2, by simp; omega, ?_⟩ <;> (try simp only [XX, CC, Nat.reduceAdd, Nat.reduceSub, Nat.reduceLeDiff, Nat.reduceLT, Nat.reduceEqDiff, reduceIte, ↓reduceIte, Nat.reduceBEq, g3, g6, g21, g22, g23])
            · rw [w64_nat (by omega)]
            · rw [hd0]; simp [dropL, drop1, show ¬ (q.2 < a ∨ b < q.1) by omega, c3, c4]
      · obtain ⟨v', t', e1, e2, e3, e4, e5, e6⟩ := app_R q [.cells true (cR q)] ho htl hx (by simp) (by omega)
        simp only [XX, CC, Nat.reduceAdd, Nat.reduceSub, Nat.reduceLeDiff, Nat.reduceLT, Nat.reduceEqDiff, reduceIte, ↓reduceIte, Nat.reduceBEq] at e1
        simp only [XX, CC, Nat.reduceAdd, Nat.reduceSub, Nat.reduceLeDiff, Nat.reduceLT, Nat.reduceEqDiff, reduceIte, ↓reduceIte, Nat.reduceBEq, g3, g6, g21, g22, g23, h1, h2, hbox, e1]
        refine loop_again ⟨d - 1, by omega, e3, i + 1, v', out ++ [q], by omega, ?_, ?_, ?_, ?_, ?_, e2, by simp; omega, ?_⟩ <;> (try simp only [XX, CC, Nat.reduceAdd, Nat.reduceSub, Nat.reduceLeDiff, Nat.reduceLT, Nat.reduceEqDiff, reduceIte, ↓reduceIte, Nat.reduceBEq, g3, g6, g21, g22, g23])
        · rw [w64_nat (by omega)]
        · rw [hd0]; simp at c2; simp [dropL, drop1, c2]
    · obtain ⟨v', t', e1, e2, e3, e4, e5, e6⟩ := app_R q [.cells true (cR q)] ho htl hx (by simp) (by omega)
      simp only [XX, CC, Nat.reduceAdd, Nat.reduceSub, Nat.reduceLeDiff, Nat.reduceLT, Nat.reduceEqDiff, reduceIte, ↓reduceIte, Nat.reduceBEq] at e1
      simp only [XX, CC, Nat.reduceAdd, Nat.reduceSub, Nat.reduceLeDiff, Nat.reduceLT, Nat.reduceEqDiff, reduceIte, ↓reduceIte, Nat.reduceBEq, g3, g6, g21, g22, g23, h1, h2, hbox, e1]
      refine loop_again ⟨d - 1, by omega, e3, i + 1, v', out ++ [q], by omega, ?_, ?_, ?_, ?_, ?_, e2, by simp; omega, ?_⟩ <;> (try simp only [XX, CC, Nat.reduceAdd, Nat.reduceSub, Nat.reduceLeDiff, Nat.reduceLT, Nat.reduceEqDiff, reduceIte, ↓reduceIte, Nat.reduceBEq, g3, g6, g21, g22, g23])
      · rw [w64_nat (by omega)]
      · rw [hd0]; simp at c1; simp [dropL, drop1, c1]
  · simp only [dec_f (show ¬ (i : Int) < set.length by omega), XX, CC, Nat.reduceAdd, Nat.reduceSub, Nat.reduceLeDiff, Nat.reduceLT, Nat.reduceEqDiff, reduceIte, ↓reduceIte, Nat.reduceBEq, g6]
    rw [List.drop_of_length_le (by omega)] at hd0
    refine ret_own ho (by omega) hxs cR_un rfl fun v' s' h => ⟨v', rfl, ?_⟩
    rw [hd0]; simpa [dropL] using h
end Go.Ev
