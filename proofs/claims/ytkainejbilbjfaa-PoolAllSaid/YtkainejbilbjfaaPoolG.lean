import Derived.Test.YtkainejbilbjfaaPoolF
/-! The pool laws' awake. -/
namespace Go.Ev
set_option linter.unusedVariables false
set_option linter.unusedSimpArgs false
open Go.Ev.Sp

def mkL (k : Int) (a : Nat) : Lse := ⟨k, a, .int .i64 0, .int .i64 0, .str (bts []), .int .u32 0, .int .i64 0⟩
set_option maxHeartbeats 4000000 in
theorem awake_r (s : St) : RunD T f_w12_awake [] s (.bool true) s := by
  have hwf : ∀ {l : List (Nat × Nat)}, l.all (fun r => decide (r.1 < 340282366920938463463374607431768211456 ∧ r.2 < 340282366920938463463374607431768211456)) = true → Wf l := fun h r hr => by simpa using List.all_eq_true.1 h r hr
  have hwu : ∀ {l : List Nat}, l.all (fun x => decide (x < 18446744073709551616)) = true → ∀ x ∈ l, x < 18446744073709551616 := fun h r hr => by simpa using List.all_eq_true.1 h r hr
  have hwa : ∀ {l : List Nat}, l.all (fun x => decide (x < 340282366920938463463374607431768211456)) = true → ∀ x ∈ l, x < 340282366920938463463374607431768211456 := fun h r hr => by simpa using List.all_eq_true.1 h r hr
  have l2 : ∀ p q : Nat × Nat, setL (setL [AV.int IntKind.u64 0, AV.int IntKind.u64 0, AV.int IntKind.u64 0, AV.int IntKind.u64 0, AV.int IntKind.u64 0, AV.int IntKind.u64 0, AV.int IntKind.u64 0, AV.int IntKind.u64 0] 0 (cR p)) 4 (cR q) = [p, q].flatMap cR := fun _ _ => rfl
  refine run_body (F := r_w12_awake) rfl (by simp [r_w12_awake]) ?_
  simp only [r_w12_awake, XX, CC, Nat.reduceAdd, Nat.reduceSub, Nat.reduceLeDiff, Nat.reduceLT, Nat.reduceEqDiff, reduceIte, ↓reduceIte, Nat.reduceBEq]
  refine (small_r _ 1 9 (by decide) (by decide)).use ?_
  refine (small_r _ 5 12 (by decide) (by decide)).use ?_
  simp only [XX, CC, Nat.reduceAdd, Nat.reduceSub, Nat.reduceLeDiff, Nat.reduceLT, Nat.reduceEqDiff, reduceIte, ↓reduceIte, Nat.reduceBEq, l2]
  have at1 : ∀ (t : St) (a b : Blk), (t ++ [a, b])[t.length + 1]? = some b := fun t a b => by simp
  have at0 : ∀ (t : St) (a b : Blk), (t ++ [a, b])[t.length]? = some a := fun t a b => by simp
  have bz : ((0 : Int) == 0) = true := rfl
  have hsame : ∀ (t : St) (v w : AV) (l : List (Nat × Nat)), l.length < 100 → Rd 4 cR t v l → Rd 4 cR t w l → RunD T f_w12_same [v, w] t (.bool true) t := fun t v w l hl hv hw => by
    have := same_r t v w l l (by omega) hv hw
    rwa [dec_t rfl] at this
  have l3 : ∀ p q r : Nat × Nat, setL (setL (setL [AV.int IntKind.u64 0, AV.int IntKind.u64 0, AV.int IntKind.u64 0, AV.int IntKind.u64 0, AV.int IntKind.u64 0, AV.int IntKind.u64 0, AV.int IntKind.u64 0, AV.int IntKind.u64 0, AV.int IntKind.u64 0, AV.int IntKind.u64 0, AV.int IntKind.u64 0, AV.int IntKind.u64 0] 0 (cR p)) 4 (cR q)) 8 (cR r) = [p, q, r].flatMap cR := fun _ _ _ => rfl
  refine Run.mono _ _ _ _ _ ?_ (few_r _ _ [3, 12, 40] (by decide) (hwu (by decide)) (rd_lit (at1 s _ _) cU_len rfl))
  intro w1 t1 o1
  have rP : Rd 4 cR t1 (.sl s.length 0 4 2 (some 2)) [(1, 9), (5, 12)] := Rd.ext (rd_lit (at0 s _ _) cR_len rfl) o1.ext
  have x1 : Ext s t1 := Ext.trans ⟨_, rfl⟩ o1.ext
  (try simp only [XX, CC, Nat.reduceAdd, Nat.reduceSub, Nat.reduceLeDiff, Nat.reduceLT, Nat.reduceEqDiff, reduceIte, ↓reduceIte, Nat.reduceBEq])
  refine Run.mono _ _ _ _ _ ?_ (build_r _ _ w1 _ [3, 12, 40] (by decide) (hwf (by decide)) rP (by decide) (hwa (by decide)) (o1.rd cA_len))
  intro r t2 h
  obtain ⟨vs, rfl, o2⟩ := h.yes (m := [(1, 2), (4, 11)]) (by decide) (by decide)
  have x2 := x1.trans o2.ext
  simp only [XX, CC, Nat.reduceAdd, Nat.reduceSub, Nat.reduceLeDiff, Nat.reduceLT, Nat.reduceEqDiff, reduceIte, ↓reduceIte, Nat.reduceBEq]
  refine Run.mono _ _ _ _ _ ?_ (few_r _ _ [5, 5, 99] (by decide) (hwu (by decide)) (rd_lit get_last cU_len rfl))
  intro w2 t3 o3
  have x23 : Ext t2 t3 := Ext.trans ⟨_, rfl⟩ o3.ext
  (try simp only [XX, CC, Nat.reduceAdd, Nat.reduceSub, Nat.reduceLeDiff, Nat.reduceLT, Nat.reduceEqDiff, reduceIte, ↓reduceIte, Nat.reduceBEq])
  refine Run.mono _ _ _ _ _ ?_ (free_r _ vs w2 [(1, 2), (4, 11)] [5, 5, 99] (by decide) (hwf (by decide)) ((o2.rd cR_len).ext x23) (by decide) (hwa (by decide)) (o3.rd cA_len))
  intro r t4 h
  obtain ⟨vf, rfl, o4⟩ := h.yes (m := [(1, 2), (4, 4), (6, 11)]) (by decide) (by decide)
  have x24 := x23.trans o4.ext
  simp only [XX, CC, Nat.reduceAdd, Nat.reduceSub, Nat.reduceLeDiff, Nat.reduceLT, Nat.reduceEqDiff, reduceIte, ↓reduceIte, Nat.reduceBEq]
  refine (pick_r _ vf [(1, 2), (4, 4), (6, 11)] 3 (by decide) (by decide) (hwf (by decide)) (o4.rd cR_len)).use ?_
  have hpk : pickV [(1, 2), (4, 4), (6, 11)] 3 = .tup [aA 6, .bool true] := by
    unfold pickV
    rw [if_pos (by decide), if_neg (by decide), if_neg (by decide)]
    unfold nthV
    rw [if_pos (by decide)]
    rfl
  rw [hpk]
  simp only [XX, CC, Nat.reduceAdd, Nat.reduceSub, Nat.reduceLeDiff, Nat.reduceLT, Nat.reduceEqDiff, reduceIte, ↓reduceIte, Nat.reduceBEq]
  refine Run.mono _ _ _ _ _ ?_ (own2_r _ _ [mkL 2 7, mkL 2 5, mkL 3 0] 2 7 5 (by decide) (by decide) (by intro q hq; simp only [List.mem_cons, List.not_mem_nil, or_false] at hq; rcases hq with h | h | h <;> subst h <;> rfl) (rd_lit (at1 t4 _ _) cL_len rfl) (by decide))
  intro vl t5 o5
  have x45 : Ext t4 t5 := Ext.trans ⟨_, rfl⟩ o5.ext
  have k6 := blkA (t := t5) (b := t4.length) (q := 6) (o5.ext.get_some (at0 t4 _ _))
  have rs := (o2.rd cR_len).ext (x24.trans x45)
  have rf := (o4.rd cR_len).ext x45
  simp only [XX, CC, Nat.reduceAdd, Nat.reduceSub, Nat.reduceLeDiff, Nat.reduceLT, Nat.reduceEqDiff, reduceIte, ↓reduceIte, Nat.reduceBEq, bz]
  refine (small_r _ 1 2 (by decide) (by decide)).use ?_
  refine (small_r _ 4 11 (by decide) (by decide)).use ?_
  simp only [XX, CC, Nat.reduceAdd, Nat.reduceSub, Nat.reduceLeDiff, Nat.reduceLT, Nat.reduceEqDiff, reduceIte, ↓reduceIte, Nat.reduceBEq, l2]
  refine (hsame _ _ _ _ (by decide) (rs.ext ⟨_, rfl⟩) (rd_lit get_last cR_len rfl)).use ?_
  simp only [XX, CC, Nat.reduceAdd, Nat.reduceSub, Nat.reduceLeDiff, Nat.reduceLT, Nat.reduceEqDiff, reduceIte, ↓reduceIte, Nat.reduceBEq]
  refine (small_r _ 1 2 (by decide) (by decide)).use ?_
  refine (small_r _ 4 4 (by decide) (by decide)).use ?_
  refine (small_r _ 6 11 (by decide) (by decide)).use ?_
  simp only [XX, CC, Nat.reduceAdd, Nat.reduceSub, Nat.reduceLeDiff, Nat.reduceLT, Nat.reduceEqDiff, reduceIte, ↓reduceIte, Nat.reduceBEq, l3]
  refine (hsame _ _ _ _ (by decide) (rf.ext ⟨_, rfl⟩) (rd_lit (at1 t5 _ _) cR_len rfl)).use ?_
  have q6 : eqA (.st (.one 0 .i (.one 1 .i .nil))) (aA 6) (.agg [.int .u64 0, .int .u64 6]) = some true := eq_A 6 6
  simp only [XX, CC, Nat.reduceAdd, Nat.reduceSub, Nat.reduceLeDiff, Nat.reduceLT, Nat.reduceEqDiff, reduceIte, ↓reduceIte, Nat.reduceBEq, k6, q6]
  refine Run.mono _ _ _ _ _ ?_ (few_r _ _ [5, 7] (by decide) (hwu (by decide)) (rd_lit (l := [5, 7]) (by simp; rfl) cU_len rfl))
  intro w3 t6 o6
  have x56 : Ext t5 t6 := Ext.trans ⟨_, rfl⟩ o6.ext
  have hl := list_r t6 vl w3 [5, 7] [5, 7] (by decide) ((o5.rd cA_len).ext x56) (o6.rd cA_len)
  rw [dec_t rfl] at hl
  (try simp only [XX, CC, Nat.reduceAdd, Nat.reduceSub, Nat.reduceLeDiff, Nat.reduceLT, Nat.reduceEqDiff, reduceIte, ↓reduceIte, Nat.reduceBEq])
  refine hl.use ?_
  (try simp only [XX, CC, Nat.reduceAdd, Nat.reduceSub, Nat.reduceLeDiff, Nat.reduceLT, Nat.reduceEqDiff, reduceIte, ↓reduceIte, Nat.reduceBEq])
  exact ret_drop (x2.trans (x24.trans (x45.trans x56))) rfl ⟨rfl, rfl⟩
end Go.Ev
