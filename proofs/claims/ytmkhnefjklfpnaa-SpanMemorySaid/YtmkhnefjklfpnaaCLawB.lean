import Derived.Test.YtmkhnefjklfpnaaCLawA
/-! SpanActs and SpanCounts, run. -/
namespace Go.Ev
set_option linter.unusedVariables false
set_option linter.unusedSimpArgs false
open Go.Ev.Sp

theorem Ans.out {s t : St} {ok : Bool} {l : List (Nat × Nat)} {r : AV} (h : Ans s ok l r t) : ∃ v, r = .tup [v, .int .i64 (if ok then 0 else 1)] ∧ Out 4 cR s (if ok then l else []) v t := h

theorem lessL_len : ∀ {t s : List (Nat × Nat)} {lo lo' : Nat}, Snd 340282366920938463463374607431768211456 lo s → Snd 340282366920938463463374607431768211456 lo' t → (lessL s t).length ≤ s.length + t.length
  | [], _, _, _, h, _ => by simp [lessL]
  | r :: t, s, _, _, h, h2 => by
    have h3 := dropL_length1 h2.2.1 h
    have := lessL_len (dropL_snd h2.2.1 h) h2.2.2.2
    unfold lessL
    rw [List.length_cons]
    omega
theorem put_len {set : List (Nat × Nat)} {a b : Nat} (hw : Wf set) (h : (sndB 0 set && decide (a ≤ b)) = true) : (putL [] [] a b set).length ≤ set.length + 1 := by
  simp only [Bool.and_eq_true, decide_eq_true_eq] at h
  rw [putL_eq h.2 ((sndB_iff hw).1 h.1), List.nil_append]
  exact putS_length _ _ _
theorem less_len {set oth : List (Nat × Nat)} (hw : Wf set) (hw' : Wf oth) (h : (sndB 0 set && sndB 0 oth) = true) : (lessL set oth).length ≤ set.length + oth.length := by
  simp only [Bool.and_eq_true] at h
  exact lessL_len ((sndB_iff hw).1 h.1) ((sndB_iff hw').1 h.2)
theorem if_len {c : Bool} {l : List (Nat × Nat)} {n : Nat} (h : c = true → l.length ≤ n) : (if c then l else []).length ≤ n := by
  cases c
  · exact Nat.zero_le _
  · exact h rfl

set_option maxHeartbeats 4000000 in
theorem acts_r (s : St) (v w : AV) (set oth : List (Nat × Nat)) (a b : Nat) (hl : set.length < 4611686018427387904) (hS : Wf set) (hv : Rd 4 cR s v set) (hl' : oth.length < 4611686018427387904) (hO : Wf oth) (hw : Rd 4 cR s w oth) (ha : a < 340282366920938463463374607431768211456) (hb : b < 340282366920938463463374607431768211456) :
    Run T f_w03_SpanActs [v, w, aR (a, b)] s (fun r _ => r = .bool true) := by
  refine run_body (F := r_w03_SpanActs) rfl (by simp [r_w03_SpanActs]) ?_
  by_cases h1 : set.length > 200
  · simp only [r_w03_SpanActs, XX, CC, Nat.reduceAdd, Nat.reduceSub, Nat.reduceLeDiff, Nat.reduceLT, Nat.reduceEqDiff, reduceIte, ↓reduceIte, Nat.reduceBEq]
    refine (awake_r _).use ?_
    simp only [XX, CC, Nat.reduceAdd, Nat.reduceSub, Nat.reduceLeDiff, Nat.reduceLT, Nat.reduceEqDiff, reduceIte, ↓reduceIte, Nat.reduceBEq, Bool.not_true, hv.len, dec_t (show (set.length : Int) > 200 by omega)]
    exact ret_drop ⟨_, rfl⟩ rfl rfl
  by_cases h2 : oth.length > 200
  · simp only [r_w03_SpanActs, XX, CC, Nat.reduceAdd, Nat.reduceSub, Nat.reduceLeDiff, Nat.reduceLT, Nat.reduceEqDiff, reduceIte, ↓reduceIte, Nat.reduceBEq]
    refine (awake_r _).use ?_
    simp only [XX, CC, Nat.reduceAdd, Nat.reduceSub, Nat.reduceLeDiff, Nat.reduceLT, Nat.reduceEqDiff, reduceIte, ↓reduceIte, Nat.reduceBEq, Bool.not_true, hv.len, hw.len, dec_f (show ¬ (set.length : Int) > 200 by omega), dec_t (show (oth.length : Int) > 200 by omega)]
    exact ret_drop ⟨_, rfl⟩ rfl rfl
  have hsame : ∀ (t : St) (v w : AV) (l : List (Nat × Nat)), l.length < 4611686018427387904 → Rd 4 cR t v l → Rd 4 cR t w l → RunD T f_w03_same [v, w] t (.bool true) t := fun t v w l hl hv hw => by
    have := same_r t v w l l hl hv hw
    rwa [dec_t rfl] at this
  simp only [r_w03_SpanActs, XX, CC, Nat.reduceAdd, Nat.reduceSub, Nat.reduceLeDiff, Nat.reduceLT, Nat.reduceEqDiff, reduceIte, ↓reduceIte, Nat.reduceBEq]
  refine (awake_r _).use ?_
  simp only [XX, CC, Nat.reduceAdd, Nat.reduceSub, Nat.reduceLeDiff, Nat.reduceLT, Nat.reduceEqDiff, reduceIte, ↓reduceIte, Nat.reduceBEq, Bool.not_true, hv.len, hw.len, dec_f (show ¬ (set.length : Int) > 200 by omega), dec_f (show ¬ (oth.length : Int) > 200 by omega)]
  have l1 := if_len (put_len (a := a) (b := b) hS)
  have l2 := if_len (c := sndB 0 set && decide (a ≤ b)) fun _ => dropL_length a b set
  have l3 := if_len (less_len hS hO)
  have hbx := blkR (t := s ++ [.cells true (cR (a, b))]) (b := s.length) (q := (a, b)) (by simp)
  have hx : Ext s (s ++ [.cells true (cR (a, b))]) := ⟨_, rfl⟩
  have hbx0 : (s ++ [.cells true (cR (a, b))])[s.length]? = some (.cells true (cR (a, b))) := by simp
  generalize s ++ [.cells true (cR (a, b))] = t0 at hx hbx0 ⊢
  refine Run.mono _ _ _ _ _ ?_ (put_r _ v set a b (by omega) hS ha hb (hv.ext hx))
  intro r t1 h
  obtain ⟨v1, rfl, o1⟩ := h.out
  have x1 := hx.trans o1.ext
  have b1 := blkR (o1.ext.get_some hbx0)
  simp only [XX, CC, Nat.reduceAdd, Nat.reduceSub, Nat.reduceLeDiff, Nat.reduceLT, Nat.reduceEqDiff, reduceIte, ↓reduceIte, Nat.reduceBEq, b1]
  refine Run.mono _ _ _ _ _ ?_ (rput_r _ v set a b (by omega) hS ha hb (hv.ext x1))
  intro r t2 h
  obtain ⟨v2, rfl, o2⟩ := h.out
  have x2 := x1.trans o2.ext
  have b2 := blkR ((o1.ext.trans o2.ext).get_some hbx0)
  (try simp only [XX, CC, Nat.reduceAdd, Nat.reduceSub, Nat.reduceLeDiff, Nat.reduceLT, Nat.reduceEqDiff, reduceIte, ↓reduceIte, Nat.reduceBEq])
  refine (hsame _ _ _ _ (by omega) ((o1.rd cR_len).ext o2.ext) (o2.rd cR_len)).use ?_
  (try simp only [XX, CC, Nat.reduceAdd, Nat.reduceSub, Nat.reduceLeDiff, Nat.reduceLT, Nat.reduceEqDiff, reduceIte, ↓reduceIte, Nat.reduceBEq, Bool.not_true, beq_self_eq_true])
  refine (sound_r _ v set (by omega) hS (hv.ext x2)).use ?_
  (try simp only [XX, CC, Nat.reduceAdd, Nat.reduceSub, Nat.reduceLeDiff, Nat.reduceLT, Nat.reduceEqDiff, reduceIte, ↓reduceIte, Nat.reduceBEq])
  refine (rsound_r _ v set (by omega) hS (hv.ext x2)).use ?_
  (try simp only [XX, CC, Nat.reduceAdd, Nat.reduceSub, Nat.reduceLeDiff, Nat.reduceLT, Nat.reduceEqDiff, reduceIte, ↓reduceIte, Nat.reduceBEq, Bool.not_true, beq_self_eq_true, b2])
  refine Run.mono _ _ _ _ _ ?_ (drop_r _ v set a b (by omega) hS ha hb (hv.ext x2))
  intro r t3 h
  obtain ⟨v3, rfl, o3⟩ := h.out
  have x3 := x2.trans o3.ext
  have b3 := blkR ((o1.ext.trans (o2.ext.trans o3.ext)).get_some hbx0)
  (try simp only [XX, CC, Nat.reduceAdd, Nat.reduceSub, Nat.reduceLeDiff, Nat.reduceLT, Nat.reduceEqDiff, reduceIte, ↓reduceIte, Nat.reduceBEq, b3])
  refine Run.mono _ _ _ _ _ ?_ (rdrop_r _ v set a b (by omega) hS ha hb (hv.ext x3))
  intro r t4 h
  obtain ⟨v4, rfl, o4⟩ := h.out
  have x4 := x3.trans o4.ext
  (try simp only [XX, CC, Nat.reduceAdd, Nat.reduceSub, Nat.reduceLeDiff, Nat.reduceLT, Nat.reduceEqDiff, reduceIte, ↓reduceIte, Nat.reduceBEq])
  refine (hsame _ _ _ _ (by omega) ((o3.rd cR_len).ext o4.ext) (o4.rd cR_len)).use ?_
  (try simp only [XX, CC, Nat.reduceAdd, Nat.reduceSub, Nat.reduceLeDiff, Nat.reduceLT, Nat.reduceEqDiff, reduceIte, ↓reduceIte, Nat.reduceBEq, Bool.not_true, beq_self_eq_true])
  refine Run.mono _ _ _ _ _ ?_ (less_r _ v w set oth (by omega) hS hO (hv.ext x4) (hw.ext x4))
  intro r t5 h
  obtain ⟨v5, rfl, o5⟩ := h.out
  have x5 := x4.trans o5.ext
  (try simp only [XX, CC, Nat.reduceAdd, Nat.reduceSub, Nat.reduceLeDiff, Nat.reduceLT, Nat.reduceEqDiff, reduceIte, ↓reduceIte, Nat.reduceBEq])
  refine Run.mono _ _ _ _ _ ?_ (rless_r _ v w set oth (by omega) hS hO (hv.ext x5) (hw.ext x5))
  intro r t6 h
  obtain ⟨v6, rfl, o6⟩ := h.out
  have x6 := x5.trans o6.ext
  (try simp only [XX, CC, Nat.reduceAdd, Nat.reduceSub, Nat.reduceLeDiff, Nat.reduceLT, Nat.reduceEqDiff, reduceIte, ↓reduceIte, Nat.reduceBEq])
  refine (hsame _ _ _ _ (by omega) ((o5.rd cR_len).ext o6.ext) (o6.rd cR_len)).use ?_
  (try simp only [XX, CC, Nat.reduceAdd, Nat.reduceSub, Nat.reduceLeDiff, Nat.reduceLT, Nat.reduceEqDiff, reduceIte, ↓reduceIte, Nat.reduceBEq, beq_self_eq_true])
  exact ret_drop x6 rfl rfl
end Go.Ev
