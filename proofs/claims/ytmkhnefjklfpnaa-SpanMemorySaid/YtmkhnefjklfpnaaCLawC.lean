import Derived.Test.YtmkhnefjklfpnaaCLawB
/-! SpanCounts, run. -/
namespace Go.Ev
set_option linter.unusedVariables false
set_option linter.unusedSimpArgs false
open Go.Ev.Sp

theorem cnt_same {set : List (Nat × Nat)} (hw : Wf set) : cntV set = rcntV set := by
  unfold cntV rcntV
  split
  · rename_i h
    rw [decide_eq_decide.2 (cnt_all ((sndB_iff hw).1 h))]
  · rfl
theorem nthV_at (set : List (Nat × Nat)) (n : Nat) : ∃ (x : Nat) (b : Bool), nthV set n = .tup [aA x, .bool b] := by
  unfold nthV
  split
  · split
    · exact ⟨_, _, rfl⟩
    · exact ⟨_, _, rfl⟩
  · exact ⟨_, _, rfl⟩
theorem cntV_at (set : List (Nat × Nat)) : ∃ (x : Nat) (b : Bool), cntV set = .tup [aA x, .bool b] := by
  unfold cntV
  split
  · exact ⟨_, _, rfl⟩
  · exact ⟨_, _, rfl⟩

set_option maxHeartbeats 4000000 in
theorem counts_r (s : St) (v w : AV) (set : List (Nat × Nat)) (list : List Nat) (hl : set.length < 4611686018427387904) (hS : Wf set) (hv : Rd 4 cR s v set) (hl' : list.length < 4611686018427387904) (hO : ∀ x ∈ list, x < 340282366920938463463374607431768211456) (hw : Rd 2 cA s w list) :
    Run T f_w03_SpanCounts [v, w] s (fun r _ => r = .bool true) := by
  refine run_body (F := r_w03_SpanCounts) rfl (by simp [r_w03_SpanCounts]) ?_
  by_cases h1 : set.length > 200
  · simp only [r_w03_SpanCounts, XX, CC, Nat.reduceAdd, Nat.reduceSub, Nat.reduceLeDiff, Nat.reduceLT, Nat.reduceEqDiff, reduceIte, ↓reduceIte, Nat.reduceBEq]
    refine (awake_r _).use ?_
    simp only [XX, CC, Nat.reduceAdd, Nat.reduceSub, Nat.reduceLeDiff, Nat.reduceLT, Nat.reduceEqDiff, reduceIte, ↓reduceIte, Nat.reduceBEq, Bool.not_true, hv.len, dec_t (show (set.length : Int) > 200 by omega)]
    exact ret_drop ⟨[], by simp⟩ rfl rfl
  obtain ⟨cx, cb, hcv⟩ := cntV_at set
  have hrc := cnt_same hS
  rw [hcv] at hrc
  have hq : ∀ x : Nat, eqA (.st (.one 0 .i (.one 1 .i .nil))) (aA x) (aA x) = some true := fun x => by rw [eq_A, dec_t rfl]
  simp only [r_w03_SpanCounts, XX, CC, Nat.reduceAdd, Nat.reduceSub, Nat.reduceLeDiff, Nat.reduceLT, Nat.reduceEqDiff, reduceIte, ↓reduceIte, Nat.reduceBEq]
  refine (awake_r _).use ?_
  simp only [XX, CC, Nat.reduceAdd, Nat.reduceSub, Nat.reduceLeDiff, Nat.reduceLT, Nat.reduceEqDiff, reduceIte, ↓reduceIte, Nat.reduceBEq, Bool.not_true, hv.len, dec_f (show ¬ (set.length : Int) > 200 by omega)]
  refine (count_r _ v set (by omega) hS hv).use ?_
  rw [hcv]
  simp only [XX, CC, Nat.reduceAdd, Nat.reduceSub, Nat.reduceLeDiff, Nat.reduceLT, Nat.reduceEqDiff, reduceIte, ↓reduceIte, Nat.reduceBEq]
  refine (rcount_r _ v set (by omega) hS (hv.ext ⟨_, rfl⟩)).use ?_
  rw [← hrc]
  simp only [XX, CC, Nat.reduceAdd, Nat.reduceSub, Nat.reduceLeDiff, Nat.reduceLT, Nat.reduceEqDiff, reduceIte, ↓reduceIte, Nat.reduceBEq, hq, Bool.not_true, beq_self_eq_true, hw.len]
  refine awp_loop (fun d e t => Ext s t ∧ ∃ i : Nat, i + d = list.length ∧ e.get 0 = v ∧ e.get 1 = w ∧ e.get 9 = .int .i64 i) list.length ?_ ?_
  · refine ⟨⟨_, rfl⟩, 0, by omega, ?_, ?_, ?_⟩ <;> (try simp only [XX, CC, Nat.reduceAdd, Nat.reduceSub, Nat.reduceLeDiff, Nat.reduceLT, Nat.reduceEqDiff, reduceIte, ↓reduceIte, Nat.reduceBEq]) <;> rfl
  rintro d e t ⟨hx, i, hi, g0, g1, g9⟩
  have hvt := hv.ext hx
  have hwt := hw.ext hx
  simp only [XX, CC, Nat.reduceAdd, Nat.reduceSub, Nat.reduceLeDiff, Nat.reduceLT, Nat.reduceEqDiff, reduceIte, ↓reduceIte, Nat.reduceBEq, g0, g1, g9, hwt.len]
  by_cases h : i < list.length
  · by_cases h2 : i < 200
    · obtain ⟨q, hq1, hd⟩ := drop_get h
      have hqw := hO q (List.mem_of_getElem? hq1)
      obtain ⟨b2, o2, h3, h4⟩ := rdA hwt hq1
      obtain ⟨nx, nb, hn⟩ := nthV_at set q
      have hbA := fun l => (blkA (t := t ++ (.cells true (cA q) :: l)) (b := t.length) (q := q) (by simp)).1
      have hbB := fun a l => (blkA (t := t ++ (a :: .cells true (cA nx) :: l)) (b := t.length + 1) (q := nx) (by simp)).1
      have hbC := fun a b l => (blkA (t := t ++ (a :: b :: .cells true (cA nx) :: l)) (b := t.length + 2) (q := nx) (by simp)).1
      simp only [dec_t (show (i : Int) < list.length by omega), dec_t (show (i : Int) < 200 by omega), XX, CC, Nat.reduceAdd, Nat.reduceSub, Nat.reduceLeDiff, Nat.reduceLT, Nat.reduceEqDiff, reduceIte, ↓reduceIte, Nat.reduceBEq, g0, g1, g9, h3, h4]
      refine (nth_r _ v set q hqw (by omega) hS (hvt.ext ⟨_, rfl⟩)).use ?_
      rw [hn]
      simp only [XX, CC, Nat.reduceAdd, Nat.reduceSub, Nat.reduceLeDiff, Nat.reduceLT, Nat.reduceEqDiff, reduceIte, ↓reduceIte, Nat.reduceBEq, g0, hbA]
      refine (rnth_r _ v set q hqw (by omega) hS (hvt.ext ⟨_, rfl⟩)).use ?_
      rw [hn]
      simp only [XX, CC, Nat.reduceAdd, Nat.reduceSub, Nat.reduceLeDiff, Nat.reduceLT, Nat.reduceEqDiff, reduceIte, ↓reduceIte, Nat.reduceBEq]
      refine drw_in [] rfl ?_
      simp only [List.append_nil, DD, CC, Nat.reduceAdd, Nat.reduceSub, Nat.reduceLeDiff, Nat.reduceLT, Nat.reduceEqDiff, reduceIte, ↓reduceIte, Nat.reduceBEq, g0, hbA, hbB, hbC, hq, Bool.not_true, beq_self_eq_true]
      refine dr_call (has_r _ v set q (by omega) hS (hvt.ext ⟨_, rfl⟩)) ?_
      simp only [DD, CC, Nat.reduceAdd, Nat.reduceSub, Nat.reduceLeDiff, Nat.reduceLT, Nat.reduceEqDiff, reduceIte, ↓reduceIte, Nat.reduceBEq, g0, hbA]
      refine dr_call (rhas_r _ v set q hqw (by omega) hS (hvt.ext ⟨_, rfl⟩)) ?_
      simp only [DD, CC, Nat.reduceAdd, Nat.reduceSub, Nat.reduceLeDiff, Nat.reduceLT, Nat.reduceEqDiff, reduceIte, ↓reduceIte, Nat.reduceBEq, g0, hbA, Bool.not_true, beq_self_eq_true]
      refine dr_call (rank_r _ v set q hqw (by omega) hS (hvt.ext ⟨_, rfl⟩)) ?_
      simp only [DD, CC, Nat.reduceAdd, Nat.reduceSub, Nat.reduceLeDiff, Nat.reduceLT, Nat.reduceEqDiff, reduceIte, ↓reduceIte, Nat.reduceBEq, g0, hbA]
      refine dr_call (rrank_r _ v set q hqw (by omega) hS (hvt.ext ⟨_, rfl⟩)) ?_
      simp only [DD, CC, Nat.reduceAdd, Nat.reduceSub, Nat.reduceLeDiff, Nat.reduceLT, Nat.reduceEqDiff, reduceIte, ↓reduceIte, Nat.reduceBEq, g0, g9, hq, Bool.not_true]
      refine loop_again ⟨d - 1, by omega, hx.app _, i + 1, by omega, ?_, ?_, ?_⟩ <;> (try simp only [XX, CC, Nat.reduceAdd, Nat.reduceSub, Nat.reduceLeDiff, Nat.reduceLT, Nat.reduceEqDiff, reduceIte, ↓reduceIte, Nat.reduceBEq, g0, g1, g9])
      rw [w64_nat (by omega)]
    · simp only [dec_t (show (i : Int) < list.length by omega), dec_f (show ¬ (i : Int) < 200 by omega), XX, CC, Nat.reduceAdd, Nat.reduceSub, Nat.reduceLeDiff, Nat.reduceLT, Nat.reduceEqDiff, reduceIte, ↓reduceIte, Nat.reduceBEq, g9]
      exact ret_drop (k := fun r _ => r = AV.bool true) hx rfl rfl
  · simp only [dec_f (show ¬ (i : Int) < list.length by omega), XX, CC, Nat.reduceAdd, Nat.reduceSub, Nat.reduceLeDiff, Nat.reduceLT, Nat.reduceEqDiff, reduceIte, ↓reduceIte, Nat.reduceBEq]
    exact ret_drop (k := fun r _ => r = AV.bool true) hx rfl rfl
end Go.Ev
