import Derived.Test.YtkainejbilbjfaaCRefG
/-! The reference's Put, Drop and Less; the laws' small and same. -/
namespace Go.Ev
set_option linter.unusedVariables false
set_option linter.unusedSimpArgs false
open Go.Ev.Sp

set_option maxHeartbeats 2000000 in
/-- tenancyref03.Drop -/
theorem rdrop_r (s : St) (v : AV) (set : List (Nat × Nat)) (a b : Nat) (hl : set.length < 9999999) (hw : Wf set) (ha : a < 340282366920938463463374607431768211456) (hb : b < 340282366920938463463374607431768211456) (hv : Rd 4 cR s v set) :
    Run T f_r03_Drop [v, aR (a, b)] s (Ans s (sndB 0 set && decide (a ≤ b)) (dropL a b set)) := by
  refine run_body (F := r_r03_Drop) rfl (by simp [r_r03_Drop]) ?_
  simp only [r_r03_Drop, XX, CC, Nat.reduceAdd, Nat.reduceSub, Nat.reduceLeDiff, Nat.reduceLT, Nat.reduceEqDiff, reduceIte, ↓reduceIte, Nat.reduceBEq, hv.len]
  refine (rsound_r _ v set (by omega) hw (hv.ext ⟨_, rfl⟩)).use ?_
  cases hs : sndB 0 set
  · simp only [XX, CC, Nat.reduceAdd, Nat.reduceSub, Nat.reduceLeDiff, Nat.reduceLT, Nat.reduceEqDiff, reduceIte, ↓reduceIte, Nat.reduceBEq, Bool.not_false]
    exact ret_drop ⟨_, rfl⟩ rfl ans_no
  simp only [XX, CC, Nat.reduceAdd, Nat.reduceSub, Nat.reduceLeDiff, Nat.reduceLT, Nat.reduceEqDiff, reduceIte, ↓reduceIte, Nat.reduceBEq, Bool.not_true]
  refine (le_r _ a b ha hb).use ?_
  cases hr : decide (a ≤ b)
  · simp only [XX, CC, Nat.reduceAdd, Nat.reduceSub, Nat.reduceLeDiff, Nat.reduceLT, Nat.reduceEqDiff, reduceIte, ↓reduceIte, Nat.reduceBEq, Bool.not_false]
    exact ret_drop ⟨_, rfl⟩ rfl ans_no
  simp only [XX, CC, Nat.reduceAdd, Nat.reduceSub, Nat.reduceLeDiff, Nat.reduceLT, Nat.reduceEqDiff, reduceIte, ↓reduceIte, Nat.reduceBEq, Bool.not_true, hv.len]
  refine Run.mono _ _ _ _ _ ?_ (made_r _ v _ set [(a, b)] (by simp; omega) hw (by intro r hr; simp at hr; subst hr; exact ⟨ha, hb⟩) (hv.ext ⟨_, rfl⟩) (rd_lit (by simp) cR_len rfl))
  intro v' t' ho
  refine ret_own ho.own (by simp) (Ext.trans ⟨_, rfl⟩ ho.ext) cR_un rfl fun v2 s2 h => ⟨_, rfl, ?_⟩
  simp at hr
  rw [drop_made ((sndB_iff hw).1 hs) hr hb]
  exact h

set_option maxHeartbeats 2000000 in
/-- tenancyref03.Put -/
theorem rput_r (s : St) (v : AV) (set : List (Nat × Nat)) (a b : Nat) (hl : set.length < 9999999) (hw : Wf set) (ha : a < 340282366920938463463374607431768211456) (hb : b < 340282366920938463463374607431768211456) (hv : Rd 4 cR s v set) :
    Run T f_r03_Put [v, aR (a, b)] s (Ans s (sndB 0 set && decide (a ≤ b)) (putL [] [] a b set)) := by
  refine run_body (F := r_r03_Put) rfl (by simp [r_r03_Put]) ?_
  obtain ⟨v1, t1, a1, a2, a3, a4, a5, a6⟩ := own_app (by_ := 32) (n := s.length) (t := s ++ [.cells true (cR (a, b)), .cells true (cR (a, b))]) (v := .sl (s.length + 1) 0 4 1 (some 1)) (l := [(a, b)]) (.inr ⟨s.length + 1, some 1, [], by omega, .inr rfl, rfl, by simp, rfl⟩) (by simp) (hv.ext ⟨_, rfl⟩) cR_len cR_cell (by simp; omega)
  have hx1 := a5 s (Nat.le_refl _) ⟨_, rfl⟩
  simp only [r_r03_Put, XX, CC, Nat.reduceAdd, Nat.reduceSub, Nat.reduceLeDiff, Nat.reduceLT, Nat.reduceEqDiff, reduceIte, ↓reduceIte, Nat.reduceBEq, hv.len]
  refine (rsound_r _ v set (by omega) hw (hv.ext ⟨_, rfl⟩)).use ?_
  cases hs : sndB 0 set
  · simp only [XX, CC, Nat.reduceAdd, Nat.reduceSub, Nat.reduceLeDiff, Nat.reduceLT, Nat.reduceEqDiff, reduceIte, ↓reduceIte, Nat.reduceBEq, Bool.not_false]
    exact ret_drop ⟨_, rfl⟩ rfl ans_no
  simp only [XX, CC, Nat.reduceAdd, Nat.reduceSub, Nat.reduceLeDiff, Nat.reduceLT, Nat.reduceEqDiff, reduceIte, ↓reduceIte, Nat.reduceBEq, Bool.not_true]
  refine (le_r _ a b ha hb).use ?_
  cases hr : decide (a ≤ b)
  · simp only [XX, CC, Nat.reduceAdd, Nat.reduceSub, Nat.reduceLeDiff, Nat.reduceLT, Nat.reduceEqDiff, reduceIte, ↓reduceIte, Nat.reduceBEq, Bool.not_false]
    exact ret_drop ⟨_, rfl⟩ rfl ans_no
  simp only [XX, CC, Nat.reduceAdd, Nat.reduceSub, Nat.reduceLeDiff, Nat.reduceLT, Nat.reduceEqDiff, reduceIte, ↓reduceIte, Nat.reduceBEq, Bool.not_true, a1]
  refine Run.mono _ _ _ _ _ ?_ (made_r _ v1 _ ((a, b) :: set) [] (by simp; omega) (fun r hr => (List.mem_cons.1 hr).elim (fun h => by subst h; exact ⟨ha, hb⟩) (hw r)) (by simp [Wf]) (a2.rd cR_len) Rd.nil)
  intro v' t' ho
  refine ret_own ho.own hx1.len (hx1.trans ho.ext) cR_un rfl fun v2 s2 h => ⟨_, rfl, ?_⟩
  simp at hr
  have hS := (sndB_iff hw).1 hs
  rw [putL_eq hr hS, List.nil_append, put_made hS hr hb]
  exact h

/-- small -/
theorem small_r (s : St) (a b : Nat) (ha : a < 18446744073709551616) (hb : b < 18446744073709551616) : RunD T f_w12_small [.int .u64 a, .int .u64 b] s (aR (a, b)) s := by
  have h : ∀ x : Nat, x < 18446744073709551616 → H x = 0 ∧ L x = x := fun x hx => by unfold H L; omega
  refine run_body (F := r_w12_small) rfl (by simp [r_w12_small]) ?_
  simp only [r_w12_small, XX, CC, Nat.reduceAdd, Nat.reduceSub, Nat.reduceLeDiff, Nat.reduceLT, Nat.reduceEqDiff, reduceIte, ↓reduceIte, Nat.reduceBEq]
  refine ret_drop ⟨_, rfl⟩ rfl ⟨?_, rfl⟩
  simp only [aR, cR, (h a ha).1, (h a ha).2, (h b hb).1, (h b hb).2]

theorem eq_R (p q : Nat × Nat) : eqA (.st (.sub 0 2 (.st (.one 0 .i (.one 1 .i .nil))) (.sub 2 2 (.st (.one 0 .i (.one 1 .i .nil))) .nil))) (aR p) (aR q) = some (decide (p = q)) := by
  show eqL (.sub 0 2 _ (.sub 2 2 _ .nil)) (cR p) (cR q) = _
  have e1 : eqA (.st (.one 0 .i (.one 1 .i .nil))) (.agg (((cR p).drop 0).take 2)) (.agg (((cR q).drop 0).take 2)) = some (decide (p.1 = q.1)) := eq_A p.1 q.1
  have e2 : eqA (.st (.one 0 .i (.one 1 .i .nil))) (.agg (((cR p).drop 2).take 2)) (.agg (((cR q).drop 2).take 2)) = some (decide (p.2 = q.2)) := eq_A p.2 q.2
  have hp : ∀ x, (cR x).length = 4 := cR_len
  simp only [eqL, hp, e1, e2]
  by_cases h1 : p.1 = q.1 <;> by_cases h2 : p.2 = q.2 <;> simp [h1, h2, Prod.ext_iff]

set_option maxHeartbeats 2000000 in
/-- same -/
theorem same_r (s : St) (v w : AV) (l m : List (Nat × Nat)) (hl : l.length < 4611686018427387904) (hv : Rd 4 cR s v l) (hw : Rd 4 cR s w m) : RunD T f_w12_same [v, w] s (.bool (decide (l = m))) s := by
  refine run_body (F := r_w12_same) rfl (by simp [r_w12_same]) ?_
  by_cases hlm : l.length = m.length
  · have hb : ((l.length : Int) == (m.length : Int)) = true := by rw [hlm]; simp
    simp only [r_w12_same, XX, CC, Nat.reduceAdd, Nat.reduceSub, Nat.reduceLeDiff, Nat.reduceLT, Nat.reduceEqDiff, reduceIte, ↓reduceIte, Nat.reduceBEq, hv.len, hw.len, hb, Bool.not_true]
    refine awp_loop (fun d e t => t = s ∧ ∃ i : Nat, i + d = l.length ∧ e.get 0 = v ∧ e.get 1 = w ∧ e.get 5 = .int .i64 i ∧ l.take i = m.take i) l.length ?_ ?_
    · refine ⟨rfl, 0, by omega, ?_, ?_, ?_, rfl⟩ <;> (try simp only [XX, CC, Nat.reduceAdd, Nat.reduceSub, Nat.reduceLeDiff, Nat.reduceLT, Nat.reduceEqDiff, reduceIte, ↓reduceIte, Nat.reduceBEq]) <;> rfl
    rintro d e t ⟨ht, i, hi, g0, g1, g5, hp⟩
    subst ht
    simp only [XX, CC, Nat.reduceAdd, Nat.reduceSub, Nat.reduceLeDiff, Nat.reduceLT, Nat.reduceEqDiff, reduceIte, ↓reduceIte, Nat.reduceBEq, g0, g1, g5, hv.len]
    by_cases h : i < l.length
    · obtain ⟨q, hq, hd⟩ := drop_get h
      obtain ⟨q2, hq2, hd2⟩ := drop_get (l := m) (i := i) (by omega)
      obtain ⟨b2, o2, h1, h2⟩ := rdR hv hq
      obtain ⟨b3, o3, h3, h4⟩ := rdR hw hq2
      simp only [dec_t (show (i : Int) < l.length by omega), XX, CC, Nat.reduceAdd, Nat.reduceSub, Nat.reduceLeDiff, Nat.reduceLT, Nat.reduceEqDiff, reduceIte, ↓reduceIte, Nat.reduceBEq, g0, g1, g5]
      refine drw_in [] rfl ?_
      simp only [List.append_nil, DD, CC, Nat.reduceAdd, Nat.reduceSub, Nat.reduceLeDiff, Nat.reduceLT, Nat.reduceEqDiff, reduceIte, ↓reduceIte, Nat.reduceBEq, g0, g1, g5, h1, h2, h3, h4, eq_R]
      cases c : decide (q = q2)
      · simp only [DD, CC, Nat.reduceAdd, Nat.reduceSub, Nat.reduceLeDiff, Nat.reduceLT, Nat.reduceEqDiff, reduceIte, ↓reduceIte, Nat.reduceBEq, Bool.not_false]
        refine ret_drop (.refl _) rfl ⟨?_, rfl⟩
        simp at c
        rw [dec_f (fun h => c (by subst h; exact Option.some.inj (hq.symm.trans hq2)))]
      · simp only [DD, CC, Nat.reduceAdd, Nat.reduceSub, Nat.reduceLeDiff, Nat.reduceLT, Nat.reduceEqDiff, reduceIte, ↓reduceIte, Nat.reduceBEq, Bool.not_true, g0, g1, g5]
        simp at c
        subst c
        refine loop_again ⟨d - 1, by omega, rfl, i + 1, by omega, ?_, ?_, ?_, ?_⟩ <;> (try simp only [XX, CC, Nat.reduceAdd, Nat.reduceSub, Nat.reduceLeDiff, Nat.reduceLT, Nat.reduceEqDiff, reduceIte, ↓reduceIte, Nat.reduceBEq, g0, g1, g5])
        · rw [w64_nat (by omega)]
        · rw [List.take_add_one, List.take_add_one, hp, hq, hq2]
    · simp only [dec_f (show ¬ (i : Int) < l.length by omega), XX, CC, Nat.reduceAdd, Nat.reduceSub, Nat.reduceLeDiff, Nat.reduceLT, Nat.reduceEqDiff, reduceIte, ↓reduceIte, Nat.reduceBEq]
      refine ret_drop (.refl _) rfl ⟨?_, rfl⟩
      rw [List.take_of_length_le (by omega), List.take_of_length_le (by omega)] at hp
      rw [dec_t hp]
  · have hb : ((l.length : Int) == (m.length : Int)) = false := by simp; omega
    simp only [r_w12_same, XX, CC, Nat.reduceAdd, Nat.reduceSub, Nat.reduceLeDiff, Nat.reduceLT, Nat.reduceEqDiff, reduceIte, ↓reduceIte, Nat.reduceBEq, hv.len, hw.len, hb, Bool.not_false]
    refine ret_drop (.refl _) rfl ⟨?_, rfl⟩
    rw [dec_f (fun h => hlm (by rw [h]))]
end Go.Ev
