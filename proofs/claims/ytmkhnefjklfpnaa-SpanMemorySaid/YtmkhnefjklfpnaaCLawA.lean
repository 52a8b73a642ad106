import Derived.Test.YtmkhnefjklfpnaaCRefH
/-! The span laws' awake. -/
namespace Go.Ev
set_option linter.unusedVariables false
set_option linter.unusedSimpArgs false
open Go.Ev.Sp

theorem Ans.yes {s t : St} {ok : Bool} {l m : List (Nat × Nat)} {r : AV} (h : Ans s ok l r t) (hok : ok = true) (hl : l = m) : ∃ v, r = .tup [v, .int .i64 0] ∧ Out 4 cR s m v t := by
  subst hok hl; exact h
def S0 : List (Nat × Nat) := [(1, 3), (7, 9)]
set_option maxHeartbeats 4000000 in
theorem awake_r (s : St) : RunD T f_w03_awake [] s (.bool true) s := by
  have hw : ∀ {l : List (Nat × Nat)}, l.all (fun r => decide (r.1 < 340282366920938463463374607431768211456 ∧ r.2 < 340282366920938463463374607431768211456)) = true → Wf l := fun h r hr => by simpa using List.all_eq_true.1 h r hr
  have l2 : ∀ p q : Nat × Nat, setL (setL [AV.int IntKind.u64 0, AV.int IntKind.u64 0, AV.int IntKind.u64 0, AV.int IntKind.u64 0, AV.int IntKind.u64 0, AV.int IntKind.u64 0, AV.int IntKind.u64 0, AV.int IntKind.u64 0] 0 (cR p)) 4 (cR q) = [p, q].flatMap cR := fun _ _ => rfl
  have hS : sndB 0 S0 = true := by decide
  have hw0 : Wf S0 := hw (by decide)
  refine run_body (F := r_w03_awake) rfl (by simp [r_w03_awake]) ?_
  simp only [r_w03_awake, XX, CC, Nat.reduceAdd, Nat.reduceSub, Nat.reduceLeDiff, Nat.reduceLT, Nat.reduceEqDiff, reduceIte, ↓reduceIte, Nat.reduceBEq]
  refine (small_r _ 1 3 (by decide) (by decide)).use ?_
  refine (small_r _ 7 9 (by decide) (by decide)).use ?_
  simp only [XX, CC, Nat.reduceAdd, Nat.reduceSub, Nat.reduceLeDiff, Nat.reduceLT, Nat.reduceEqDiff, reduceIte, ↓reduceIte, Nat.reduceBEq, l2]
  obtain ⟨t0, ht0⟩ : ∃ t, t = s ++ [Blk.cells true (S0.flatMap cR)] := ⟨_, rfl⟩
  have hx0 : Ext s t0 := ⟨_, ht0⟩
  have hs0 : Rd 4 cR t0 (.sl s.length 0 4 2 (some 2)) S0 := by rw [ht0]; exact rd_lit get_last cR_len rfl
  rw [show [(1, 3), (7, 9)] = S0 from rfl, ← ht0]
  generalize (AV.sl s.length 0 4 2 (some 2)) = v0 at hs0 ⊢
  clear ht0
  refine (small_r _ 4 5 (by decide) (by decide)).use ?_
  refine Run.mono _ _ _ _ _ ?_ (put_r _ _ S0 4 5 (by decide) hw0 (by decide) (by decide) hs0)
  intro r t1 ha
  obtain ⟨v1, rfl, o1⟩ := ha.yes (m := [(1, 5), (7, 9)]) (by decide) (by decide)
  have hw1 : Wf [(1, 5), (7, 9)] := hw (by decide)
  have r1 := o1.rd cR_len
  have hx1 := o1.ext
  simp only [XX, CC, Nat.reduceAdd, Nat.reduceSub, Nat.reduceLeDiff, Nat.reduceLT, Nat.reduceEqDiff, reduceIte, ↓reduceIte, Nat.reduceBEq]
  refine (small_r _ 2 8 (by decide) (by decide)).use ?_
  refine Run.mono _ _ _ _ _ ?_ (drop_r _ _ _ 2 8 (by decide) hw1 (by decide) (by decide) r1)
  intro r t2 ha
  obtain ⟨v2, rfl, o2⟩ := ha.yes (m := [(1, 1), (9, 9)]) (by decide) (by decide)
  have hw2 : Wf [(1, 1), (9, 9)] := hw (by decide)
  have r2 := o2.rd cR_len
  have hx2 := o2.ext
  simp only [XX, CC, Nat.reduceAdd, Nat.reduceSub, Nat.reduceLeDiff, Nat.reduceLT, Nat.reduceEqDiff, reduceIte, ↓reduceIte, Nat.reduceBEq]
  refine Run.mono _ _ _ _ _ ?_ (less_r _ _ _ S0 _ (by decide) hw0 hw2 (hs0.ext (hx1.trans hx2)) r2)
  intro r t3 ha
  obtain ⟨v3, rfl, o3⟩ := ha.yes (m := [(2, 3), (7, 8)]) (by decide) (by decide)
  have hw3 : Wf [(2, 3), (7, 8)] := hw (by decide)
  have r3 := o3.rd cR_len
  have hx3 := o3.ext
  have hx03 := hx1.trans (hx2.trans hx3)
  have hx13 := hx2.trans hx3
  simp only [XX, CC, Nat.reduceAdd, Nat.reduceSub, Nat.reduceLeDiff, Nat.reduceLT, Nat.reduceEqDiff, reduceIte, ↓reduceIte, Nat.reduceBEq]
  refine (count_r _ _ S0 (by decide) hw0 (hs0.ext hx03)).use ?_
  rw [show cntV S0 = .tup [aA 6, .bool false] by unfold cntV; rw [if_pos hS]; rfl]
  simp only [XX, CC, Nat.reduceAdd, Nat.reduceSub, Nat.reduceLeDiff, Nat.reduceLT, Nat.reduceEqDiff, reduceIte, ↓reduceIte, Nat.reduceBEq]
  refine (nth_r _ _ S0 3 (by decide) (by decide) hw0 ((hs0.ext hx03).ext ⟨_, rfl⟩)).use ?_
  rw [show nthV S0 3 = .tup [aA 7, .bool true] by unfold nthV; rw [if_pos hS]; rfl]
  have bz : ((0 : Int) == 0) = true := rfl
  have t1 : decide True = true := rfl
  have hsame : ∀ (t : St) (v w : AV) (l : List (Nat × Nat)), l.length < 100 → Rd 4 cR t v l → Rd 4 cR t w l → RunD T f_w03_same [v, w] t (.bool true) t := fun t v w l hl hv hw => by
    have := same_r t v w l l (by omega) hv hw
    rwa [dec_t rfl] at this
  simp only [XX, CC, Nat.reduceAdd, Nat.reduceSub, Nat.reduceLeDiff, Nat.reduceLT, Nat.reduceEqDiff, reduceIte, ↓reduceIte, Nat.reduceBEq, bz]
  refine (small_r _ 1 5 (by decide) (by decide)).use ?_
  refine (small_r _ 7 9 (by decide) (by decide)).use ?_
  simp only [XX, CC, Nat.reduceAdd, Nat.reduceSub, Nat.reduceLeDiff, Nat.reduceLT, Nat.reduceEqDiff, reduceIte, ↓reduceIte, Nat.reduceBEq, l2]
  refine (hsame _ _ _ _ (by decide) ((r1.ext hx13).ext ⟨_, rfl⟩) (rd_lit (by simp) cR_len rfl)).use ?_
  simp only [XX, CC, Nat.reduceAdd, Nat.reduceSub, Nat.reduceLeDiff, Nat.reduceLT, Nat.reduceEqDiff, reduceIte, ↓reduceIte, Nat.reduceBEq]
  refine (small_r _ 1 1 (by decide) (by decide)).use ?_
  refine (small_r _ 9 9 (by decide) (by decide)).use ?_
  simp only [XX, CC, Nat.reduceAdd, Nat.reduceSub, Nat.reduceLeDiff, Nat.reduceLT, Nat.reduceEqDiff, reduceIte, ↓reduceIte, Nat.reduceBEq, l2]
  refine (hsame _ _ _ _ (by decide) ((r2.ext hx3).ext ⟨_, rfl⟩) (rd_lit (by simp) cR_len rfl)).use ?_
  simp only [XX, CC, Nat.reduceAdd, Nat.reduceSub, Nat.reduceLeDiff, Nat.reduceLT, Nat.reduceEqDiff, reduceIte, ↓reduceIte, Nat.reduceBEq]
  refine (small_r _ 2 3 (by decide) (by decide)).use ?_
  refine (small_r _ 7 8 (by decide) (by decide)).use ?_
  simp only [XX, CC, Nat.reduceAdd, Nat.reduceSub, Nat.reduceLeDiff, Nat.reduceLT, Nat.reduceEqDiff, reduceIte, ↓reduceIte, Nat.reduceBEq, l2]
  refine (hsame _ _ _ _ (by decide) (r3.ext ⟨_, rfl⟩) (rd_lit (by simp) cR_len rfl)).use ?_
  have h6 : ∀ l, ldA (t3 ++ (Blk.cells true (cA 6) :: l)) (some 2) (.ptr t3.length 0) = some (aA 6) := fun l => (blkA (by simp)).1
  have h7 : ∀ b l, ldA (t3 ++ (b :: Blk.cells true (cA 7) :: l)) (some 2) (.ptr (t3.length + 1) 0) = some (aA 7) := fun b l => (blkA (by simp)).1
  have q6 : eqA (.st (.one 0 .i (.one 1 .i .nil))) (aA 6) (.agg [.int .u64 0, .int .u64 6]) = some true := eq_A 6 6
  have q7 : eqA (.st (.one 0 .i (.one 1 .i .nil))) (aA 7) (.agg [.int .u64 0, .int .u64 7]) = some true := eq_A 7 7
  have q4 : eqA (.st (.one 0 .i (.one 1 .i .nil))) (aA 4) (.agg [.int .u64 0, .int .u64 4]) = some true := eq_A 4 4
  simp only [XX, CC, Nat.reduceAdd, Nat.reduceSub, Nat.reduceLeDiff, Nat.reduceLT, Nat.reduceEqDiff, reduceIte, ↓reduceIte, Nat.reduceBEq, h6, h7, q6, q7, Bool.not_false]
  refine (rank_r _ _ S0 8 (by decide) (by decide) hw0 ((hs0.ext hx03).ext ⟨_, rfl⟩)).use ?_
  rw [show (if sndB 0 S0 = true then rankL 8 S0 % 340282366920938463463374607431768211456 else 0) = 4 by rw [if_pos hS]; rfl]
  simp only [XX, CC, Nat.reduceAdd, Nat.reduceSub, Nat.reduceLeDiff, Nat.reduceLT, Nat.reduceEqDiff, reduceIte, ↓reduceIte, Nat.reduceBEq, q4]
  refine (has_r _ _ S0 9 (by decide) hw0 ((hs0.ext hx03).ext ⟨_, rfl⟩)).use ?_
  rw [show (sndB 0 S0 && inL S0 9) = true by decide]
  simp only [XX, CC, Nat.reduceAdd, Nat.reduceSub, Nat.reduceLeDiff, Nat.reduceLT, Nat.reduceEqDiff, reduceIte, ↓reduceIte, Nat.reduceBEq]
  refine (sound_r _ _ S0 (by decide) hw0 ((hs0.ext hx03).ext ⟨_, rfl⟩)).use ?_
  simp only [hS, XX, CC, Nat.reduceAdd, Nat.reduceSub, Nat.reduceLeDiff, Nat.reduceLT, Nat.reduceEqDiff, reduceIte, ↓reduceIte, Nat.reduceBEq]
  exact ret_drop ((hx0.trans hx03).app _) rfl ⟨rfl, rfl⟩
end Go.Ev
