import Derived.Test.YtkainejbilbjfaaPoolS
/-! PoolExact, run. -/
namespace Go.Ev
set_option linter.unusedVariables false
set_option linter.unusedSimpArgs false
open Go.Ev.Sp

theorem pick_at (set : List (Nat × Nat)) (d : Nat) : ∃ (x : Nat) (b : Bool), pickV set d = .tup [aA x, .bool b] := by
  unfold pickV
  split
  · split
    · exact nthV_at _ _
    · split
      · exact ⟨_, _, rfl⟩
      · exact nthV_at _ _
  · exact ⟨_, _, rfl⟩
set_option maxHeartbeats 8000000 in
theorem exact_r (s : St) (v w : AV) (ps : List (Nat × Nat)) (tk : List Nat) (d : Nat) (hl : ps.length < 4611686018427387904) (hS : Wf ps) (hv : Rd 4 cR s v ps) (hl' : tk.length < 4611686018427387904) (hO : ∀ x ∈ tk, x < 340282366920938463463374607431768211456) (hw : Rd 2 cA s w tk) (hd : d < 18446744073709551616) :
    Run T f_w12_PoolExact [v, w, .int .u64 d] s (fun r _ => r = .bool true) := by
  refine run_body (F := r_w12_PoolExact) rfl (by simp [r_w12_PoolExact]) ?_
  by_cases g1 : ps.length > 100
  · simp only [r_w12_PoolExact, XX, CC, Nat.reduceAdd, Nat.reduceSub, Nat.reduceLeDiff, Nat.reduceLT, Nat.reduceEqDiff, reduceIte, ↓reduceIte, Nat.reduceBEq]
    refine (awake_r _).use ?_
    simp only [XX, CC, Nat.reduceAdd, Nat.reduceSub, Nat.reduceLeDiff, Nat.reduceLT, Nat.reduceEqDiff, reduceIte, ↓reduceIte, Nat.reduceBEq, Bool.not_true, hv.len, dec_t (show (ps.length : Int) > 100 by omega)]
    exact ret_drop (k := fun r _ => r = AV.bool true) (.refl _) rfl rfl
  by_cases g2 : tk.length > 100
  · simp only [r_w12_PoolExact, XX, CC, Nat.reduceAdd, Nat.reduceSub, Nat.reduceLeDiff, Nat.reduceLT, Nat.reduceEqDiff, reduceIte, ↓reduceIte, Nat.reduceBEq]
    refine (awake_r _).use ?_
    simp only [XX, CC, Nat.reduceAdd, Nat.reduceSub, Nat.reduceLeDiff, Nat.reduceLT, Nat.reduceEqDiff, reduceIte, ↓reduceIte, Nat.reduceBEq, Bool.not_true, hv.len, hw.len, dec_f (show ¬ (ps.length : Int) > 100 by omega), dec_t (show (tk.length : Int) > 100 by omega)]
    exact ret_drop (k := fun r _ => r = AV.bool true) (.refl _) rfl rfl
  have hB := builtL_snd (set := []) (l := ps) trivial hS
  have hP := builtL_snd (set := []) (l := pts tk) trivial (pts_wf hO)
  have n1 := builtL_len ps []
  have n2 := builtL_len (pts tk) []
  have n4 : (pts tk).length ≤ 100 := by simp [pts]; omega
  simp only [List.length_nil, Nat.zero_add] at n1 n2
  have nA := lessL_len hB hP
  have e1 := less_pts hB hO
  have hb1 := fun t v w (h1 : Rd 4 cR t v ps) (h2 : Rd 2 cA t w tk) => build_r t v w ps tk (by omega) hS h1 (by omega) hO h2
  have hb2 := fun t v w (h1 : Rd 4 cR t v ps) (h2 : Rd 2 cA t w tk) => rbuild_r t v w ps tk (by omega) hS h1 (by omega) hO h2
  have hf1 := fun t v w (h1 : Rd 4 cR t v ps) (h2 : Rd 2 cA t w tk) => free_r t v w ps tk (by omega) hS h1 (by omega) hO h2
  have hf2 := fun t v w (h1 : Rd 4 cR t v ps) (h2 : Rd 2 cA t w tk) => rfree_r t v w ps tk (by omega) hS h1 (by omega) hO h2
  unfold Ans at hb1 hf1
  unfold AnsR at hb2 hf2
  rw [e1] at hb2
  have eF : (if sndB 0 ps = true then lessL ps (pts tk) else []) = (if sndB 0 ps = true then lessL ps (builtL [] (pts tk)) else []) := by
    split
    · rename_i h; rw [less_pts ((sndB_iff hS).1 h) hO]
    · rfl
  rw [eF] at hf2
  have lA : (if (ps.all fun r => decide (r.1 ≤ r.2)) = true then lessL (builtL [] ps) (builtL [] (pts tk)) else []).length ≤ 1000 := by
    split
    · omega
    · simp
  have lF : (if sndB 0 ps = true then lessL ps (builtL [] (pts tk)) else []).length ≤ 1000 := by
    split
    · rename_i h
      have := lessL_len ((sndB_iff hS).1 h) hP
      omega
    · simp
  generalize (if (ps.all fun r => decide (r.1 ≤ r.2)) = true then lessL (builtL [] ps) (builtL [] (pts tk)) else []) = A at hb1 hb2 lA
  generalize (if sndB 0 ps = true then lessL ps (builtL [] (pts tk)) else []) = F at hf1 hf2 lF
  generalize (if (ps.all fun r => decide (r.1 ≤ r.2)) = true then (0 : Int) else 1) = c0 at hb1 hb2
  generalize (if sndB 0 ps = true then (0 : Int) else 1) = c1 at hf1 hf2
  have hsame : ∀ (t : St) (v w : AV) (l : List (Nat × Nat)), l.length ≤ 1000 → Rd 4 cR t v l → Rd 4 cR t w l → RunD T f_w12_same [v, w] t (.bool true) t := fun t v w l hl hv hw => by
    have := same_r t v w l l (by omega) hv hw
    rwa [dec_t rfl] at this
  obtain ⟨x, b, hpk⟩ := pick_at ps d
  have hq : eqA (.st (.one 0 .i (.one 1 .i .nil))) (aA x) (aA x) = some true := by rw [eq_A, dec_t rfl]
  simp only [r_w12_PoolExact, XX, CC, Nat.reduceAdd, Nat.reduceSub, Nat.reduceLeDiff, Nat.reduceLT, Nat.reduceEqDiff, reduceIte, ↓reduceIte, Nat.reduceBEq]
  refine (awake_r _).use ?_
  simp only [XX, CC, Nat.reduceAdd, Nat.reduceSub, Nat.reduceLeDiff, Nat.reduceLT, Nat.reduceEqDiff, reduceIte, ↓reduceIte, Nat.reduceBEq, Bool.not_true, hv.len, hw.len, dec_f (show ¬ (ps.length : Int) > 100 by omega), dec_f (show ¬ (tk.length : Int) > 100 by omega)]
  refine Run.mono _ _ _ _ _ ?_ (hb1 s v w hv hw)
  rintro _ t1 ⟨v1, rfl, o1⟩
  have x1 := o1.ext
  simp only [XX, CC, Nat.reduceAdd, Nat.reduceSub, Nat.reduceLeDiff, Nat.reduceLT, Nat.reduceEqDiff, reduceIte, ↓reduceIte, Nat.reduceBEq]
  refine Run.mono _ _ _ _ _ ?_ (hb2 t1 v w (hv.ext x1) (hw.ext x1))
  rintro _ t2 ⟨v2, rfl, x12, r2⟩
  have x2 := x1.trans x12
  simp only [XX, CC, Nat.reduceAdd, Nat.reduceSub, Nat.reduceLeDiff, Nat.reduceLT, Nat.reduceEqDiff, reduceIte, ↓reduceIte, Nat.reduceBEq]
  refine (hsame _ _ _ A lA ((o1.rd cR_len).ext x12) r2).use ?_
  simp only [XX, CC, Nat.reduceAdd, Nat.reduceSub, Nat.reduceLeDiff, Nat.reduceLT, Nat.reduceEqDiff, reduceIte, ↓reduceIte, Nat.reduceBEq, Bool.not_true, beq_self_eq_true]
  refine Run.mono _ _ _ _ _ ?_ (hf1 t2 v w (hv.ext x2) (hw.ext x2))
  rintro _ t3 ⟨v3, rfl, o3⟩
  have x3 := x2.trans o3.ext
  simp only [XX, CC, Nat.reduceAdd, Nat.reduceSub, Nat.reduceLeDiff, Nat.reduceLT, Nat.reduceEqDiff, reduceIte, ↓reduceIte, Nat.reduceBEq]
  refine Run.mono _ _ _ _ _ ?_ (hf2 t3 v w (hv.ext x3) (hw.ext x3))
  rintro _ t4 ⟨v4, rfl, x34, r4⟩
  have x4 := x3.trans x34
  simp only [XX, CC, Nat.reduceAdd, Nat.reduceSub, Nat.reduceLeDiff, Nat.reduceLT, Nat.reduceEqDiff, reduceIte, ↓reduceIte, Nat.reduceBEq]
  refine (hsame _ _ _ F lF ((o3.rd cR_len).ext x34) r4).use ?_
  simp only [XX, CC, Nat.reduceAdd, Nat.reduceSub, Nat.reduceLeDiff, Nat.reduceLT, Nat.reduceEqDiff, reduceIte, ↓reduceIte, Nat.reduceBEq, Bool.not_true, beq_self_eq_true]
  refine (pick_r _ v ps d hd (by omega) hS (hv.ext x4)).use ?_
  rw [hpk]
  simp only [XX, CC, Nat.reduceAdd, Nat.reduceSub, Nat.reduceLeDiff, Nat.reduceLT, Nat.reduceEqDiff, reduceIte, ↓reduceIte, Nat.reduceBEq]
  refine (rpick_r _ v ps d hd (by omega) hS (hv.ext (x4.app _))).use ?_
  rw [hpk]
  have k0 := fun (l : List Blk) => (blkA (t := t4 ++ (.cells true (cA x) :: l)) (b := t4.length) (q := x) (by simp)).1
  have k1 := fun (y : Blk) (l : List Blk) => (blkA (t := t4 ++ (y :: .cells true (cA x) :: l)) (b := t4.length + 1) (q := x) (by simp)).1
  simp only [XX, CC, Nat.reduceAdd, Nat.reduceSub, Nat.reduceLeDiff, Nat.reduceLT, Nat.reduceEqDiff, reduceIte, ↓reduceIte, Nat.reduceBEq, k0, k1, hq, beq_self_eq_true]
  exact ret_drop (k := fun r _ => r = AV.bool true) (x4.app _) rfl rfl
end Go.Ev
