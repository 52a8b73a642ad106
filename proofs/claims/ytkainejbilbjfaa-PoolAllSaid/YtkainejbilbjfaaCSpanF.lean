import Derived.Test.YtkainejbilbjfaaCSpanE
/-! span.Count, span.Nth, span.Rank, span.Has. -/
namespace Go.Ev
set_option linter.unusedVariables false
set_option linter.unusedSimpArgs false
open Go.Ev.Sp

def cntV (set : List (Nat × Nat)) : AV := if sndB 0 set = true then .tup [aA (cnt set % 340282366920938463463374607431768211456), .bool (decide (0 < set.length ∧ cnt set % 340282366920938463463374607431768211456 = 0))] else .tup [aA 0, .bool false]
set_option maxHeartbeats 1000000 in
/-- span.Count -/
theorem count_r (s : St) (v : AV) (set : List (Nat × Nat)) (hl : set.length < 4611686018427387904) (hw : Wf set) (hv : Rd 4 cR s v set) : RunD T f_span_Count [v] s (cntV set) s := by
  refine run_body (F := r_span_Count) rfl (by simp [r_span_Count]) ?_
  simp only [r_span_Count, XX, CC, Nat.reduceAdd, Nat.reduceSub, Nat.reduceLeDiff, Nat.reduceLT, Nat.reduceEqDiff, reduceIte, ↓reduceIte, Nat.reduceBEq, hv.len]
  refine (sound_r _ v set (by omega) hw (hv.ext ⟨_, rfl⟩)).use ?_
  cases hs : sndB 0 set
  · simp only [XX, CC, Nat.reduceAdd, Nat.reduceSub, Nat.reduceLeDiff, Nat.reduceLT, Nat.reduceEqDiff, reduceIte, ↓reduceIte, Nat.reduceBEq, Bool.not_false]
    exact ret_drop ⟨_, rfl⟩ rfl ⟨by simp [cntV, hs]; rfl, rfl⟩
  simp only [XX, CC, Nat.reduceAdd, Nat.reduceSub, Nat.reduceLeDiff, Nat.reduceLT, Nat.reduceEqDiff, reduceIte, ↓reduceIte, Nat.reduceBEq, Bool.not_true, hv.len]
  have hsn := Snd.wf ((sndB_iff hw).1 hs)
  refine awp_loop (fun d e t => Ext s t ∧ ∃ (i n : Nat), i + d = set.length ∧ e.get 0 = v ∧ e.get 2 = .ptr s.length 0 ∧ e.get 4 = .ptr (s.length + 1) 0 ∧ e.get 13 = v ∧ e.get 14 = .int .i64 set.length ∧ e.get 15 = .int .i64 i ∧
    t[s.length]? = some (.cells true (cA 0)) ∧ t[s.length + 1]? = some (.cells true (cA n)) ∧ n < 340282366920938463463374607431768211456 ∧ cnt set % 340282366920938463463374607431768211456 = (n + cnt (set.drop i)) % 340282366920938463463374607431768211456) set.length ?_ ?_
  · refine ⟨⟨_, rfl⟩, 0, 0, by omega, ?_, ?_, ?_, ?_, ?_, ?_, by simp; rfl, by simp; rfl, by decide, by simp⟩ <;> (try simp only [XX, CC, Nat.reduceAdd, Nat.reduceSub, Nat.reduceLeDiff, Nat.reduceLT, Nat.reduceEqDiff, reduceIte, ↓reduceIte, Nat.reduceBEq, hv.len]) <;> rfl
  rintro d e t ⟨hx, i, n, hi, g0, g2, g4, g13, g14, g15, hb0, hb1, hn, hd0⟩
  have hv := hv.ext hx
  have hbn := blkA hb1
  have htl : s.length + 1 < t.length := (List.getElem?_eq_some_iff.1 hb1).1
  simp only [XX, CC, Nat.reduceAdd, Nat.reduceSub, Nat.reduceLeDiff, Nat.reduceLT, Nat.reduceEqDiff, reduceIte, ↓reduceIte, Nat.reduceBEq, g0, g2, g4, g13, g14, g15]
  by_cases h : i < set.length
  · obtain ⟨q, hq, hd⟩ := drop_get h
    obtain ⟨b2, o2, h1, h2⟩ := rdR hv hq
    have hqw := hsn q (List.mem_of_getElem? hq)
    rw [hd, cnt_cons] at hd0
    have hm1 : (q.2 + 340282366920938463463374607431768211456 - q.1) % 340282366920938463463374607431768211456 = q.2 - q.1 := by omega
    simp only [dec_t (show (i : Int) < set.length by omega), XX, CC, Nat.reduceAdd, Nat.reduceSub, Nat.reduceLeDiff, Nat.reduceLT, Nat.reduceEqDiff, reduceIte, ↓reduceIte, Nat.reduceBEq, g0, g2, g4, g13, g14, g15, h1, h2]
    refine (sub_r _ q.2 q.1 (by omega) (by omega)).use ?_
    simp only [XX, CC, Nat.reduceAdd, Nat.reduceSub, Nat.reduceLeDiff, Nat.reduceLT, Nat.reduceEqDiff, reduceIte, ↓reduceIte, Nat.reduceBEq, g0, g2, g4, g13, g14, g15, hm1, hbn]
    refine (add_r _ n (q.2 - q.1) hn (by omega)).use ?_
    have hn1 : (n + (q.2 - q.1)) % 340282366920938463463374607431768211456 < 340282366920938463463374607431768211456 := Nat.mod_lt _ (by decide)
    generalize hg1 : (n + (q.2 - q.1)) % 340282366920938463463374607431768211456 = n1 at hn1 ⊢
    have key := blkA (key_set (t := t) (x := .cells true (cA n1)) htl)
    simp only [XX, CC, Nat.reduceAdd, Nat.reduceSub, Nat.reduceLeDiff, Nat.reduceLT, Nat.reduceEqDiff, reduceIte, ↓reduceIte, Nat.reduceBEq, g0, g2, g4, g13, g14, g15, st_in hb1]
    refine drw_in [] rfl ?_
    simp only [DD, CC, Nat.reduceAdd, Nat.reduceSub, Nat.reduceLeDiff, Nat.reduceLT, Nat.reduceEqDiff, reduceIte, ↓reduceIte, Nat.reduceBEq, g0, g2, g4, g13, g14, g15, key]
    refine dr_call (one_r _) ?_
    simp only [DD, CC, Nat.reduceAdd, Nat.reduceSub, Nat.reduceLeDiff, Nat.reduceLT, Nat.reduceEqDiff, reduceIte, ↓reduceIte, Nat.reduceBEq, g0, g2, g4, g13, g14, g15, key]
    refine dr_call (add_r _ n1 1 hn1 (by decide)) ?_
    simp only [DD, CC, Nat.reduceAdd, Nat.reduceSub, Nat.reduceLeDiff, Nat.reduceLT, Nat.reduceEqDiff, reduceIte, ↓reduceIte, Nat.reduceBEq, g0, g2, g4, g13, g14, g15, st_in (key_set (t := t) (x := .cells true (cA n1)) htl), List.set_set]
    refine loop_again ⟨d - 1, by omega, (hx.set (by omega) _).app _, i + 1, (n1 + 1) % 340282366920938463463374607431768211456, by omega, ?_, ?_, ?_, ?_, ?_, ?_, ?_, ?_, Nat.mod_lt _ (by decide), ?_⟩ <;> (try simp only [XX, CC, Nat.reduceAdd, Nat.reduceSub, Nat.reduceLeDiff, Nat.reduceLT, Nat.reduceEqDiff, reduceIte, ↓reduceIte, Nat.reduceBEq, g0, g2, g4, g13, g14, g15])
    · rw [w64_nat (by omega)]
    · rw [List.getElem?_append_left (by simp; omega), List.getElem?_set, if_neg (by omega)]; exact hb0
    · rw [List.getElem?_append_left (by simp; omega)]; exact key_set htl
    · rw [hd0]; omega
  · rw [List.drop_of_length_le (by omega)] at hd0
    rw [show cnt [] = 0 from rfl, Nat.add_zero, Nat.mod_eq_of_lt hn] at hd0
    simp only [dec_f (show ¬ (i : Int) < set.length by omega), XX, CC, Nat.reduceAdd, Nat.reduceSub, Nat.reduceLeDiff, Nat.reduceLT, Nat.reduceEqDiff, reduceIte, ↓reduceIte, Nat.reduceBEq, g0, g2, g4]
    refine drw_in [] rfl ?_
    simp only [DD, CC, Nat.reduceAdd, Nat.reduceSub, Nat.reduceLeDiff, Nat.reduceLT, Nat.reduceEqDiff, reduceIte, ↓reduceIte, Nat.reduceBEq, g0, g2, g4, hbn, hv.len]
    by_cases hz : 0 < set.length
    · simp only [dec_t (show (set.length : Int) > 0 by omega), DD, CC, Nat.reduceAdd, Nat.reduceSub, Nat.reduceLeDiff, Nat.reduceLT, Nat.reduceEqDiff, reduceIte, ↓reduceIte, Nat.reduceBEq, g0, g2, g4, hbn, eq_A0]
      rw [List.append_nil]
      refine ⟨t.set s.length (.cells true (cA n)), by rw [wr_own hb0, if_pos ⟨Nat.le_refl _, cA_cell n⟩]; rfl, ?_, ?_⟩
      · intro j hj b hb
        simp at hj hb
        rw [List.getElem?_set, if_neg (by omega)]
      · simp only [blkA (key_set (t := t) (b := s.length) (x := .cells true (cA n)) (by omega)), XX, CC, Nat.reduceAdd, Nat.reduceSub, Nat.reduceLeDiff, Nat.reduceLT, Nat.reduceEqDiff, reduceIte, ↓reduceIte, Nat.reduceBEq]
        refine ret_drop (hx.set (Nat.le_refl _) _) rfl ⟨?_, rfl⟩
        simp [cntV, hs, hd0, hz]
    · simp only [dec_f (show ¬ (set.length : Int) > 0 by omega), DD, CC, Nat.reduceAdd, Nat.reduceSub, Nat.reduceLeDiff, Nat.reduceLT, Nat.reduceEqDiff, reduceIte, ↓reduceIte, Nat.reduceBEq, g0, g2, g4, hbn, eq_A0]
      rw [List.append_nil]
      refine ⟨t.set s.length (.cells true (cA n)), by rw [wr_own hb0, if_pos ⟨Nat.le_refl _, cA_cell n⟩]; rfl, ?_, ?_⟩
      · intro j hj b hb
        simp at hj hb
        rw [List.getElem?_set, if_neg (by omega)]
      · simp only [blkA (key_set (t := t) (b := s.length) (x := .cells true (cA n)) (by omega)), XX, CC, Nat.reduceAdd, Nat.reduceSub, Nat.reduceLeDiff, Nat.reduceLT, Nat.reduceEqDiff, reduceIte, ↓reduceIte, Nat.reduceBEq]
        refine ret_drop (hx.set (Nat.le_refl _) _) rfl ⟨?_, rfl⟩
        simp [cntV, hs, hd0, hz]

def nthV (set : List (Nat × Nat)) (n : Nat) : AV := if sndB 0 set = true then (match nthL set n with | some a => .tup [aA a, .bool true] | none => .tup [aA 0, .bool false]) else .tup [aA 0, .bool false]
set_option maxHeartbeats 1000000 in
/-- span.Nth -/
theorem nth_r (s : St) (v : AV) (set : List (Nat × Nat)) (n : Nat) (hn : n < 340282366920938463463374607431768211456) (hl : set.length < 4611686018427387904) (hw : Wf set) (hv : Rd 4 cR s v set) : RunD T f_span_Nth [v, aA n] s (nthV set n) s := by
  refine run_body (F := r_span_Nth) rfl (by simp [r_span_Nth]) ?_
  simp only [r_span_Nth, XX, CC, Nat.reduceAdd, Nat.reduceSub, Nat.reduceLeDiff, Nat.reduceLT, Nat.reduceEqDiff, reduceIte, ↓reduceIte, Nat.reduceBEq, hv.len]
  refine (sound_r _ v set (by omega) hw (hv.ext ⟨_, rfl⟩)).use ?_
  cases hs : sndB 0 set
  · simp only [XX, CC, Nat.reduceAdd, Nat.reduceSub, Nat.reduceLeDiff, Nat.reduceLT, Nat.reduceEqDiff, reduceIte, ↓reduceIte, Nat.reduceBEq, Bool.not_false]
    exact ret_drop ⟨_, rfl⟩ rfl ⟨by simp [nthV, hs]; rfl, rfl⟩
  simp only [XX, CC, Nat.reduceAdd, Nat.reduceSub, Nat.reduceLeDiff, Nat.reduceLT, Nat.reduceEqDiff, reduceIte, ↓reduceIte, Nat.reduceBEq, Bool.not_true, hv.len]
  have hsn := Snd.wf ((sndB_iff hw).1 hs)
  refine awp_loop (fun d e t => Ext s t ∧ ∃ (i n' : Nat), i + d = set.length ∧ e.get 3 = .ptr s.length 0 ∧ e.get 4 = .ptr (s.length + 1) 0 ∧ e.get 16 = v ∧ e.get 17 = .int .i64 set.length ∧ e.get 18 = .int .i64 i ∧
    t[s.length]? = some (.cells true (cA n')) ∧ t[s.length + 1]? = some (.cells true (cA 0)) ∧ n' < 340282366920938463463374607431768211456 ∧ nthL set n = nthL (set.drop i) n') set.length ?_ ?_
  · refine ⟨⟨_, rfl⟩, 0, n, by omega, ?_, ?_, ?_, ?_, ?_, by simp, by simp; rfl, hn, rfl⟩ <;> (try simp only [XX, CC, Nat.reduceAdd, Nat.reduceSub, Nat.reduceLeDiff, Nat.reduceLT, Nat.reduceEqDiff, reduceIte, ↓reduceIte, Nat.reduceBEq, hv.len]) <;> rfl
  rintro d e t ⟨hx, i, n', hi, g3, g4, g16, g17, g18, hb0, hb1, hn', hd0⟩
  have hv := hv.ext hx
  have hbn := blkA hb0
  have htl : s.length + 1 < t.length := (List.getElem?_eq_some_iff.1 hb1).1
  simp only [XX, CC, Nat.reduceAdd, Nat.reduceSub, Nat.reduceLeDiff, Nat.reduceLT, Nat.reduceEqDiff, reduceIte, ↓reduceIte, Nat.reduceBEq, g3, g4, g16, g17, g18]
  by_cases h : i < set.length
  · obtain ⟨q, hq, hd⟩ := drop_get h
    obtain ⟨b2, o2, h1, h2⟩ := rdR hv hq
    have hqw := hsn q (List.mem_of_getElem? hq)
    rw [hd] at hd0
    simp only [nthL] at hd0
    have hm1 : (q.2 + 340282366920938463463374607431768211456 - q.1) % 340282366920938463463374607431768211456 = q.2 - q.1 := by omega
    simp only [dec_t (show (i : Int) < set.length by omega), XX, CC, Nat.reduceAdd, Nat.reduceSub, Nat.reduceLeDiff, Nat.reduceLT, Nat.reduceEqDiff, reduceIte, ↓reduceIte, Nat.reduceBEq, g3, g4, g16, g17, g18, h1, h2]
    refine (sub_r _ q.2 q.1 (by omega) (by omega)).use ?_
    simp only [XX, CC, Nat.reduceAdd, Nat.reduceSub, Nat.reduceLeDiff, Nat.reduceLT, Nat.reduceEqDiff, reduceIte, ↓reduceIte, Nat.reduceBEq, g3, g4, g16, g17, g18, hm1, hbn]
    refine (below_r _ (q.2 - q.1) n').use ?_
    cases c : decide (q.2 - q.1 < n')
    · simp only [XX, CC, Nat.reduceAdd, Nat.reduceSub, Nat.reduceLeDiff, Nat.reduceLT, Nat.reduceEqDiff, reduceIte, ↓reduceIte, Nat.reduceBEq, g3, g4, g16, g17, g18, hbn, Bool.not_false]
      simp at c
      rw [if_neg (by omega)] at hd0
      refine (add_r _ q.1 n' (by omega) hn').use ?_
      have hm2 : (q.1 + n') % 340282366920938463463374607431768211456 = q.1 + n' := Nat.mod_eq_of_lt (by omega)
      simp only [XX, CC, Nat.reduceAdd, Nat.reduceSub, Nat.reduceLeDiff, Nat.reduceLT, Nat.reduceEqDiff, reduceIte, ↓reduceIte, Nat.reduceBEq, g3, g4, g16, g17, g18, hm2, st_in hb1, blkA (key_set (t := t) (b := s.length + 1) (x := .cells true (cA (q.1 + n'))) (by omega))]
      refine ret_drop ((hx.set (by omega) _).app _) rfl ⟨?_, rfl⟩
      simp [nthV, hs, hd0]
    · simp only [XX, CC, Nat.reduceAdd, Nat.reduceSub, Nat.reduceLeDiff, Nat.reduceLT, Nat.reduceEqDiff, reduceIte, ↓reduceIte, Nat.reduceBEq, g3, g4, g16, g17, g18, hbn, Bool.not_true]
      simp at c
      rw [if_pos c] at hd0
      refine (sub_r _ n' (q.2 - q.1) hn' (by omega)).use ?_
      have hm2 : (n' + 340282366920938463463374607431768211456 - (q.2 - q.1)) % 340282366920938463463374607431768211456 = n' - (q.2 - q.1) := by omega
      simp only [XX, CC, Nat.reduceAdd, Nat.reduceSub, Nat.reduceLeDiff, Nat.reduceLT, Nat.reduceEqDiff, reduceIte, ↓reduceIte, Nat.reduceBEq, g3, g4, g16, g17, g18, hm2, st_in hb0]
      refine drw_in [] rfl ?_
      simp only [DD, CC, Nat.reduceAdd, Nat.reduceSub, Nat.reduceLeDiff, Nat.reduceLT, Nat.reduceEqDiff, reduceIte, ↓reduceIte, Nat.reduceBEq, g3, g4, g16, g17, g18, blkA (key_set (t := t) (b := s.length) (x := .cells true (cA (n' - (q.2 - q.1)))) (by omega))]
      refine dr_call (one_r _) ?_
      simp only [DD, CC, Nat.reduceAdd, Nat.reduceSub, Nat.reduceLeDiff, Nat.reduceLT, Nat.reduceEqDiff, reduceIte, ↓reduceIte, Nat.reduceBEq, g3, g4, g16, g17, g18]
      refine dr_call (sub_r _ (n' - (q.2 - q.1)) 1 (by omega) (by decide)) ?_
      have hm3 : (n' - (q.2 - q.1) + 340282366920938463463374607431768211456 - 1) % 340282366920938463463374607431768211456 = n' - (q.2 - q.1) - 1 := by omega
      simp only [DD, CC, Nat.reduceAdd, Nat.reduceSub, Nat.reduceLeDiff, Nat.reduceLT, Nat.reduceEqDiff, reduceIte, ↓reduceIte, Nat.reduceBEq, g3, g4, g16, g17, g18, hm3, st_in (key_set (t := t) (b := s.length) (x := .cells true (cA (n' - (q.2 - q.1)))) (by omega)), List.set_set]
      refine loop_again ⟨d - 1, by omega, (hx.set (by omega) _).app _, i + 1, n' - (q.2 - q.1) - 1, by omega, ?_, ?_, ?_, ?_, ?_, ?_, ?_, by omega, hd0⟩ <;> (try simp only [XX, CC, Nat.reduceAdd, Nat.reduceSub, Nat.reduceLeDiff, Nat.reduceLT, Nat.reduceEqDiff, reduceIte, ↓reduceIte, Nat.reduceBEq, g3, g4, g16, g17, g18])
      · rw [w64_nat (by omega)]
      · rw [List.getElem?_append_left (by simp; omega)]; exact key_set (by omega)
      · rw [List.getElem?_append_left (by simp; omega), List.getElem?_set, if_neg (by omega)]; exact hb1
  · rw [List.drop_of_length_le (by omega)] at hd0
    simp only [nthL] at hd0
    simp only [dec_f (show ¬ (i : Int) < set.length by omega), XX, CC, Nat.reduceAdd, Nat.reduceSub, Nat.reduceLeDiff, Nat.reduceLT, Nat.reduceEqDiff, reduceIte, ↓reduceIte, Nat.reduceBEq, g3, g4]
    refine ⟨t.set (s.length + 1) (.cells true (cA 0)), by rw [wr_own hb1, if_pos ⟨Nat.le_refl _, rfl⟩]; rfl, ?_⟩
    simp only [blkA (key_set (t := t) (b := s.length + 1) (x := .cells true (cA 0)) htl), XX, CC, Nat.reduceAdd, Nat.reduceSub, Nat.reduceLeDiff, Nat.reduceLT, Nat.reduceEqDiff, reduceIte, ↓reduceIte, Nat.reduceBEq]
    refine ret_drop (hx.set (by omega) _) rfl ⟨?_, rfl⟩
    simp [nthV, hs, hd0]

/-- span.Rank -/
theorem rank_r (s : St) (v : AV) (set : List (Nat × Nat)) (a : Nat) (ha : a < 340282366920938463463374607431768211456) (hl : set.length < 1000000000) (hw : Wf set) (hv : Rd 4 cR s v set) : RunD T f_span_Rank [v, aA a] s (aA (if sndB 0 set = true then rankL a set % 340282366920938463463374607431768211456 else 0)) s := by
  refine run_body (F := r_span_Rank) rfl (by simp [r_span_Rank]) ?_
  simp only [r_span_Rank, XX, CC, Nat.reduceAdd, Nat.reduceSub, Nat.reduceLeDiff, Nat.reduceLT, Nat.reduceEqDiff, reduceIte, ↓reduceIte, Nat.reduceBEq]
  have e0 : ((setL [AV.int .u64 0, .int .u64 0, .int .u64 0, .int .u64 0] 0 (cA a)).set 2 (.int .u64 18446744073709551615)).set 3 (.int .u64 18446744073709551615) = cR (a, 340282366920938463463374607431768211456 - 1) := by
    show [AV.int .u64 (H a), .int .u64 (L a), .int .u64 18446744073709551615, .int .u64 18446744073709551615] = [.int .u64 (H a), .int .u64 (L a), .int .u64 (H (340282366920938463463374607431768211456 - 1)), .int .u64 (L (340282366920938463463374607431768211456 - 1))]
    rw [show H (340282366920938463463374607431768211456 - 1) = 18446744073709551615 from rfl, show L (340282366920938463463374607431768211456 - 1) = 18446744073709551615 from rfl]
  simp only [e0]
  refine Run.mono _ _ _ _ _ ?_ (drop_r _ v set a (340282366920938463463374607431768211456 - 1) (by omega) hw ha (by decide) (hv.ext ⟨_, rfl⟩))
  rintro r t ⟨v2, rfl, ho⟩
  rw [dec_t (show a ≤ 340282366920938463463374607431768211456 - 1 by omega), Bool.and_true] at ho ⊢
  have hb1 : t[s.length + 1]? = some (.cells true (cA 0)) := ho.ext.get_some (by simp; rfl)
  have hx : Ext s t := Ext.trans ⟨_, rfl⟩ ho.ext
  have htl : s.length + 1 < t.length := (List.getElem?_eq_some_iff.1 hb1).1
  cases hs : sndB 0 set
  · simp only [XX, CC, Nat.reduceAdd, Nat.reduceSub, Nat.reduceLeDiff, Nat.reduceLT, Nat.reduceEqDiff, reduceIte, ↓reduceIte, Nat.reduceBEq]
    have : ((1 : Int) == 0) = false := rfl
    simp only [this, XX, CC, Nat.reduceAdd, Nat.reduceSub, Nat.reduceLeDiff, Nat.reduceLT, Nat.reduceEqDiff, reduceIte, ↓reduceIte, Nat.reduceBEq, Bool.not_false]
    refine ⟨t.set (s.length + 1) (.cells true (cA 0)), by rw [wr_own hb1, if_pos ⟨Nat.le_refl _, rfl⟩]; rfl, ?_⟩
    simp only [blkA (key_set (t := t) (b := s.length + 1) (x := .cells true (cA 0)) htl), XX, CC, Nat.reduceAdd, Nat.reduceSub, Nat.reduceLeDiff, Nat.reduceLT, Nat.reduceEqDiff, reduceIte, ↓reduceIte, Nat.reduceBEq]
    exact ret_drop (hx.set (by omega) _) rfl ⟨rfl, rfl⟩
  · rw [hs] at ho
    have hsn := (sndB_iff hw).1 hs
    have hd : Snd 340282366920938463463374607431768211456 0 (dropL a (340282366920938463463374607431768211456 - 1) set) := dropL_snd (by omega) hsn
    have hdl := (dropL_length1 (show a ≤ 340282366920938463463374607431768211456 - 1 by omega) hsn).1
    simp only [XX, CC, Nat.reduceAdd, Nat.reduceSub, Nat.reduceLeDiff, Nat.reduceLT, Nat.reduceEqDiff, reduceIte, ↓reduceIte, Nat.reduceBEq]
    have : ((0 : Int) == 0) = true := rfl
    simp only [this, XX, CC, Nat.reduceAdd, Nat.reduceSub, Nat.reduceLeDiff, Nat.reduceLT, Nat.reduceEqDiff, reduceIte, ↓reduceIte, Nat.reduceBEq, Bool.not_true]
    refine (count_r _ v2 (dropL a (340282366920938463463374607431768211456 - 1) set) (by omega) (Wf.of hd) (ho.rd cR_len)).use ?_
    simp only [cntV, (sndB_iff (Wf.of hd)).2 hd, XX, CC, Nat.reduceAdd, Nat.reduceSub, Nat.reduceLeDiff, Nat.reduceLT, Nat.reduceEqDiff, reduceIte, ↓reduceIte, Nat.reduceBEq, st_in hb1, blkA (key_set (t := t) (b := s.length + 1) (x := .cells true (cA (cnt (dropL a (340282366920938463463374607431768211456 - 1) set) % 340282366920938463463374607431768211456))) htl)]
    refine ret_drop ((hx.set (by omega) _).app _) rfl ⟨?_, rfl⟩
    have hrk := rank_eq hsn ha
    simp only [Nat.reduceSub] at hrk
    rw [hrk]
end Go.Ev
