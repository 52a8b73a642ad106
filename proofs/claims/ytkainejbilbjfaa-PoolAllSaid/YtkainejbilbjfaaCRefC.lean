import Derived.Test.YtkainejbilbjfaaCRefB
/-! The reference's Has, Count, Nth. -/
namespace Go.Ev
set_option linter.unusedVariables false
set_option linter.unusedSimpArgs false
open Go.Ev.Sp

def rcntV (set : List (Nat × Nat)) : AV := if sndB 0 set = true then .tup [aA (cnt set % 340282366920938463463374607431768211456), .bool (decide (set.length = 1 ∧ cnt set % 340282366920938463463374607431768211456 = 0))] else .tup [aA 0, .bool false]
set_option maxHeartbeats 2000000 in
/-- tenancyref03.Count -/
theorem rcount_r (s : St) (v : AV) (set : List (Nat × Nat)) (hl : set.length < 4611686018427387904) (hw : Wf set) (hv : Rd 4 cR s v set) : RunD T f_r03_Count [v] s (rcntV set) s := by
  refine run_body (F := r_r03_Count) rfl (by simp [r_r03_Count]) ?_
  simp only [r_r03_Count, XX, CC, Nat.reduceAdd, Nat.reduceSub, Nat.reduceLeDiff, Nat.reduceLT, Nat.reduceEqDiff, reduceIte, ↓reduceIte, Nat.reduceBEq, hv.len]
  refine (rsound_r _ v set (by omega) hw (hv.ext ⟨_, rfl⟩)).use ?_
  cases hs : sndB 0 set
  · simp only [XX, CC, Nat.reduceAdd, Nat.reduceSub, Nat.reduceLeDiff, Nat.reduceLT, Nat.reduceEqDiff, reduceIte, ↓reduceIte, Nat.reduceBEq, Bool.not_false]
    exact ret_drop ⟨_, rfl⟩ rfl ⟨by simp [rcntV, hs]; rfl, rfl⟩
  simp only [XX, CC, Nat.reduceAdd, Nat.reduceSub, Nat.reduceLeDiff, Nat.reduceLT, Nat.reduceEqDiff, reduceIte, ↓reduceIte, Nat.reduceBEq, Bool.not_true]
  have hsn := Snd.wf ((sndB_iff hw).1 hs)
  refine awp_loop (fun d e t => Ext s t ∧ ∃ (i n : Nat), i + d = set.length ∧ e.get 0 = v ∧ e.get 2 = .ptr s.length 0 ∧ e.get 4 = .ptr (s.length + 1) 0 ∧ e.get 5 = .int .i64 i ∧
    t[s.length]? = some (.cells true (cA 0)) ∧ t[s.length + 1]? = some (.cells true (cA n)) ∧ n < 340282366920938463463374607431768211456 ∧ cnt set % 340282366920938463463374607431768211456 = (n + cnt (set.drop i)) % 340282366920938463463374607431768211456) set.length ?_ ?_
  · refine ⟨⟨_, rfl⟩, 0, 0, by omega, ?_, ?_, ?_, ?_, by simp; rfl, by simp; rfl, by decide, by simp⟩ <;> (try simp only [XX, CC, Nat.reduceAdd, Nat.reduceSub, Nat.reduceLeDiff, Nat.reduceLT, Nat.reduceEqDiff, reduceIte, ↓reduceIte, Nat.reduceBEq]) <;> rfl
  rintro d e t ⟨hx, i, n, hi, g0, g2, g4, g5, hb0, hb1, hn, hd0⟩
  have hv := hv.ext hx
  have hbn := blkA hb1
  have htl : s.length + 1 < t.length := (List.getElem?_eq_some_iff.1 hb1).1
  simp only [XX, CC, Nat.reduceAdd, Nat.reduceSub, Nat.reduceLeDiff, Nat.reduceLT, Nat.reduceEqDiff, reduceIte, ↓reduceIte, Nat.reduceBEq, g0, g2, g4, g5, hv.len]
  by_cases h : i < set.length
  · obtain ⟨q, hq, hd⟩ := drop_get h
    obtain ⟨b2, o2, h1, h2⟩ := rdR hv hq
    have hqw := hsn q (List.mem_of_getElem? hq)
    rw [hd, cnt_cons] at hd0
    simp only [dec_t (show (i : Int) < set.length by omega), XX, CC, Nat.reduceAdd, Nat.reduceSub, Nat.reduceLeDiff, Nat.reduceLT, Nat.reduceEqDiff, reduceIte, ↓reduceIte, Nat.reduceBEq, g0, g2, g4, g5]
    refine drw_in [] rfl ?_
    simp only [List.append_nil, DD, CC, Nat.reduceAdd, Nat.reduceSub, Nat.reduceLeDiff, Nat.reduceLT, Nat.reduceEqDiff, reduceIte, ↓reduceIte, Nat.reduceBEq, g0, g2, g4, g5, h1, h2, hbn]
    refine dr_call (size_r _ q hqw.1 hqw.2) ?_
    simp only [DD, CC, Nat.reduceAdd, Nat.reduceSub, Nat.reduceLeDiff, Nat.reduceLT, Nat.reduceEqDiff, reduceIte, ↓reduceIte, Nat.reduceBEq, g0, g2, g4, g5, h1, h2]
    refine dr_call (radd_r _ n ((q.2 - q.1 + 1) % 340282366920938463463374607431768211456) hn (Nat.mod_lt _ (by decide))) ?_
    simp only [DD, CC, Nat.reduceAdd, Nat.reduceSub, Nat.reduceLeDiff, Nat.reduceLT, Nat.reduceEqDiff, reduceIte, ↓reduceIte, Nat.reduceBEq, g0, g2, g4, g5, wr_A hb1]
    refine loop_again ⟨d - 1, by omega, hx.set (by omega) _, i + 1, _, by omega, ?_, ?_, ?_, ?_, set_at hb0 (by omega), key_set htl, Nat.mod_lt _ (by decide), ?_⟩ <;> (try simp only [XX, CC, Nat.reduceAdd, Nat.reduceSub, Nat.reduceLeDiff, Nat.reduceLT, Nat.reduceEqDiff, reduceIte, ↓reduceIte, Nat.reduceBEq, g0, g2, g4, g5])
    · rw [w64_nat (by omega)]
    · rw [hd0]; omega
  · rw [List.drop_of_length_le (by omega)] at hd0
    rw [show cnt [] = 0 from rfl, Nat.add_zero, Nat.mod_eq_of_lt hn] at hd0
    simp only [dec_f (show ¬ (i : Int) < set.length by omega), XX, CC, Nat.reduceAdd, Nat.reduceSub, Nat.reduceLeDiff, Nat.reduceLT, Nat.reduceEqDiff, reduceIte, ↓reduceIte, Nat.reduceBEq, g0, g2, g4]
    refine drw_in [] rfl ?_
    simp only [List.append_nil, DD, CC, Nat.reduceAdd, Nat.reduceSub, Nat.reduceLeDiff, Nat.reduceLT, Nat.reduceEqDiff, reduceIte, ↓reduceIte, Nat.reduceBEq, g0, g2, g4, hbn, hv.len]
    cases hz : (set.length : Int) == 1
    · simp only [DD, CC, Nat.reduceAdd, Nat.reduceSub, Nat.reduceLeDiff, Nat.reduceLT, Nat.reduceEqDiff, reduceIte, ↓reduceIte, Nat.reduceBEq, g0, g2, g4, hbn, eq_A0, hz, wr_A hb0]
      refine ⟨?_, ?_⟩
      · intro j hj b hb
        simp at hj hb
        rw [List.getElem?_set, if_neg (by omega)]
      · simp only [blkA (key_set (t := t) (b := s.length) (x := .cells true (cA n)) (by omega)), XX, CC, Nat.reduceAdd, Nat.reduceSub, Nat.reduceLeDiff, Nat.reduceLT, Nat.reduceEqDiff, reduceIte, ↓reduceIte, Nat.reduceBEq]
        refine ret_drop (hx.set (Nat.le_refl _) _) rfl ⟨?_, rfl⟩
        have hz := beq_eq_false_iff_ne.1 hz
        simp [rcntV, hs, hd0, show ¬ set.length = 1 by omega]
    · simp only [DD, CC, Nat.reduceAdd, Nat.reduceSub, Nat.reduceLeDiff, Nat.reduceLT, Nat.reduceEqDiff, reduceIte, ↓reduceIte, Nat.reduceBEq, g0, g2, g4, hbn, eq_A0, hz, wr_A hb0]
      refine ⟨?_, ?_⟩
      · intro j hj b hb
        simp at hj hb
        rw [List.getElem?_set, if_neg (by omega)]
      · simp only [blkA (key_set (t := t) (b := s.length) (x := .cells true (cA n)) (by omega)), XX, CC, Nat.reduceAdd, Nat.reduceSub, Nat.reduceLeDiff, Nat.reduceLT, Nat.reduceEqDiff, reduceIte, ↓reduceIte, Nat.reduceBEq]
        refine ret_drop (hx.set (Nat.le_refl _) _) rfl ⟨?_, rfl⟩
        have hz := beq_iff_eq.1 hz
        simp [rcntV, hs, hd0, show set.length = 1 by omega]

set_option maxHeartbeats 2000000 in
/-- tenancyref03.Nth -/
theorem rnth_r (s : St) (v : AV) (set : List (Nat × Nat)) (n : Nat) (hn : n < 340282366920938463463374607431768211456) (hl : set.length < 4611686018427387904) (hw : Wf set) (hv : Rd 4 cR s v set) : RunD T f_r03_Nth [v, aA n] s (nthV set n) s := by
  refine run_body (F := r_r03_Nth) rfl (by simp [r_r03_Nth]) ?_
  simp only [r_r03_Nth, XX, CC, Nat.reduceAdd, Nat.reduceSub, Nat.reduceLeDiff, Nat.reduceLT, Nat.reduceEqDiff, reduceIte, ↓reduceIte, Nat.reduceBEq, hv.len]
  refine (rsound_r _ v set (by omega) hw (hv.ext ⟨_, rfl⟩)).use ?_
  cases hs : sndB 0 set
  · simp only [XX, CC, Nat.reduceAdd, Nat.reduceSub, Nat.reduceLeDiff, Nat.reduceLT, Nat.reduceEqDiff, reduceIte, ↓reduceIte, Nat.reduceBEq, Bool.not_false]
    exact ret_drop ⟨_, rfl⟩ rfl ⟨by simp [nthV, hs]; rfl, rfl⟩
  simp only [XX, CC, Nat.reduceAdd, Nat.reduceSub, Nat.reduceLeDiff, Nat.reduceLT, Nat.reduceEqDiff, reduceIte, ↓reduceIte, Nat.reduceBEq, Bool.not_true]
  have hsn := Snd.wf ((sndB_iff hw).1 hs)
  refine awp_loop (fun d e t => Ext s t ∧ ∃ (i n' : Nat), i + d = set.length ∧ e.get 0 = v ∧ e.get 3 = .ptr s.length 0 ∧ e.get 4 = .ptr (s.length + 1) 0 ∧ e.get 6 = .int .i64 i ∧
    t[s.length]? = some (.cells true (cA n')) ∧ t[s.length + 1]? = some (.cells true (cA 0)) ∧ n' < 340282366920938463463374607431768211456 ∧ nthL set n = nthL (set.drop i) n') set.length ?_ ?_
  · refine ⟨⟨_, rfl⟩, 0, n, by omega, ?_, ?_, ?_, ?_, by simp, by simp; rfl, hn, rfl⟩ <;> (try simp only [XX, CC, Nat.reduceAdd, Nat.reduceSub, Nat.reduceLeDiff, Nat.reduceLT, Nat.reduceEqDiff, reduceIte, ↓reduceIte, Nat.reduceBEq]) <;> rfl
  rintro d e t ⟨hx, i, n', hi, g0, g3, g4, g6, hb0, hb1, hn', hd0⟩
  have hv := hv.ext hx
  have hbn := blkA hb0
  have htl : s.length + 1 < t.length := (List.getElem?_eq_some_iff.1 hb1).1
  simp only [XX, CC, Nat.reduceAdd, Nat.reduceSub, Nat.reduceLeDiff, Nat.reduceLT, Nat.reduceEqDiff, reduceIte, ↓reduceIte, Nat.reduceBEq, g0, g3, g4, g6, hv.len]
  by_cases h : i < set.length
  · obtain ⟨q, hq, hd⟩ := drop_get h
    obtain ⟨b2, o2, h1, h2⟩ := rdR hv hq
    have hqw := hsn q (List.mem_of_getElem? hq)
    rw [hd] at hd0
    simp only [nthL] at hd0
    have hm1 : (q.2 + 340282366920938463463374607431768211456 - q.1) % 340282366920938463463374607431768211456 = q.2 - q.1 := by omega
    simp only [dec_t (show (i : Int) < set.length by omega), XX, CC, Nat.reduceAdd, Nat.reduceSub, Nat.reduceLeDiff, Nat.reduceLT, Nat.reduceEqDiff, reduceIte, ↓reduceIte, Nat.reduceBEq, g0, g3, g4, g6]
    refine drw_in [.cells true [.int .u64 0, .int .u64 0]] rfl ?_
    simp only [DD, CC, Nat.reduceAdd, Nat.reduceSub, Nat.reduceLeDiff, Nat.reduceLT, Nat.reduceEqDiff, reduceIte, ↓reduceIte, Nat.reduceBEq, g0, g3, g4, g6, h1, h2]
    refine dr_call (rsub_r _ q.2 q.1 (by omega) (by omega)) ?_
    simp only [DD, CC, Nat.reduceAdd, Nat.reduceSub, Nat.reduceLeDiff, Nat.reduceLT, Nat.reduceEqDiff, reduceIte, ↓reduceIte, Nat.reduceBEq, g0, g3, g4, g6, hm1, hbn]
    refine (le_r _ n' (q.2 - q.1) hn' (by omega)).use ?_
    cases c : decide (n' ≤ q.2 - q.1)
    · simp only [XX, CC, Nat.reduceAdd, Nat.reduceSub, Nat.reduceLeDiff, Nat.reduceLT, Nat.reduceEqDiff, reduceIte, ↓reduceIte, Nat.reduceBEq, g0, g3, g4, g6, hbn]
      simp at c
      rw [if_pos (by omega)] at hd0
      refine (rsub_r _ n' (q.2 - q.1) hn' (by omega)).use ?_
      have hm2 : (n' + 340282366920938463463374607431768211456 - (q.2 - q.1)) % 340282366920938463463374607431768211456 = n' - (q.2 - q.1) := by omega
      simp only [XX, CC, Nat.reduceAdd, Nat.reduceSub, Nat.reduceLeDiff, Nat.reduceLT, Nat.reduceEqDiff, reduceIte, ↓reduceIte, Nat.reduceBEq, g0, g3, g4, g6, hm2, st_in hb0, blkA (key_set (t := t) (b := s.length) (x := .cells true (cA (n' - (q.2 - q.1)))) (by omega))]
      refine (ahead_r _ (n' - (q.2 - q.1)) (by omega)).use ?_
      have hm3 : (n' - (q.2 - q.1) + 340282366920938463463374607431768211456 - 1) % 340282366920938463463374607431768211456 = n' - (q.2 - q.1) - 1 := by omega
      simp only [XX, CC, Nat.reduceAdd, Nat.reduceSub, Nat.reduceLeDiff, Nat.reduceLT, Nat.reduceEqDiff, reduceIte, ↓reduceIte, Nat.reduceBEq, g0, g3, g4, g6, hm3, st_in (key_set (t := t) (b := s.length) (x := .cells true (cA (n' - (q.2 - q.1)))) (by omega)), List.set_set]
      refine loop_again ⟨d - 1, by omega, (hx.set (by omega) _).app _, i + 1, n' - (q.2 - q.1) - 1, by omega, ?_, ?_, ?_, ?_, ?_, ?_, by omega, hd0⟩ <;> (try simp only [XX, CC, Nat.reduceAdd, Nat.reduceSub, Nat.reduceLeDiff, Nat.reduceLT, Nat.reduceEqDiff, reduceIte, ↓reduceIte, Nat.reduceBEq, g0, g3, g4, g6])
      · rw [w64_nat (by omega)]
      · rw [List.getElem?_append_left (by simp; omega)]; exact key_set (by omega)
      · rw [List.getElem?_append_left (by simp; omega), List.getElem?_set, if_neg (by omega)]; exact hb1
    · simp only [XX, CC, Nat.reduceAdd, Nat.reduceSub, Nat.reduceLeDiff, Nat.reduceLT, Nat.reduceEqDiff, reduceIte, ↓reduceIte, Nat.reduceBEq, g0, g3, g4, g6, hbn]
      simp at c
      rw [if_neg (by omega)] at hd0
      have hm2 : (q.1 + n') % 340282366920938463463374607431768211456 = q.1 + n' := Nat.mod_eq_of_lt (by omega)
      refine drw_in [.cells true [.int .u64 0, .int .u64 0]] rfl ?_
      simp only [DD, CC, Nat.reduceAdd, Nat.reduceSub, Nat.reduceLeDiff, Nat.reduceLT, Nat.reduceEqDiff, reduceIte, ↓reduceIte, Nat.reduceBEq, g0, g3, g4, g6, h1, h2, hbn]
      refine dr_call (radd_r _ q.1 n' (by omega) hn') ?_
      simp only [DD, CC, Nat.reduceAdd, Nat.reduceSub, Nat.reduceLeDiff, Nat.reduceLT, Nat.reduceEqDiff, reduceIte, ↓reduceIte, Nat.reduceBEq, g0, g3, g4, g6, hm2, st_in hb1, blkA (key_set (t := t) (b := s.length + 1) (x := .cells true (cA (q.1 + n'))) (by omega))]
      refine ret_drop ((hx.set (by omega) _).app _) rfl ⟨?_, rfl⟩
      simp [nthV, hs, hd0]
  · rw [List.drop_of_length_le (by omega)] at hd0
    simp only [nthL] at hd0
    simp only [dec_f (show ¬ (i : Int) < set.length by omega), XX, CC, Nat.reduceAdd, Nat.reduceSub, Nat.reduceLeDiff, Nat.reduceLT, Nat.reduceEqDiff, reduceIte, ↓reduceIte, Nat.reduceBEq, g3, g4]
    refine ⟨t.set (s.length + 1) (.cells true (cA 0)), by rw [wr_own hb1, if_pos ⟨Nat.le_refl _, rfl⟩]; rfl, ?_⟩
    simp only [blkA (key_set (t := t) (b := s.length + 1) (x := .cells true (cA 0)) htl), XX, CC, Nat.reduceAdd, Nat.reduceSub, Nat.reduceLeDiff, Nat.reduceLT, Nat.reduceEqDiff, reduceIte, ↓reduceIte, Nat.reduceBEq]
    refine ret_drop (hx.set (by omega) _) rfl ⟨?_, rfl⟩
    simp [nthV, hs, hd0]
end Go.Ev
