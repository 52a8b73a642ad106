import Derived.Test.YtkainejbilbjfaaPoolP
/-! PoolPicks, run. -/
namespace Go.Ev
set_option linter.unusedVariables false
set_option linter.unusedSimpArgs false
open Go.Ev.Sp

set_option maxHeartbeats 8000000 in
theorem picks_r (s : St) (v w : AV) (ps : List (Nat × Nat)) (tk : List Nat) (d : Nat) (hl : ps.length < 4611686018427387904) (hS : Wf ps) (hv : Rd 4 cR s v ps) (hl' : tk.length < 4611686018427387904) (hO : ∀ x ∈ tk, x < 340282366920938463463374607431768211456) (hw : Rd 2 cA s w tk) (hd : d < 18446744073709551616) :
    Run T f_w12_PoolPicks [v, w, .int .u64 d] s (fun r _ => r = .bool true) := by
  refine run_body (F := r_w12_PoolPicks) rfl (by simp [r_w12_PoolPicks]) ?_
  by_cases g1 : ps.length > 100
  · simp only [r_w12_PoolPicks, XX, CC, Nat.reduceAdd, Nat.reduceSub, Nat.reduceLeDiff, Nat.reduceLT, Nat.reduceEqDiff, reduceIte, ↓reduceIte, Nat.reduceBEq]
    refine (awake_r _).use ?_
    simp only [XX, CC, Nat.reduceAdd, Nat.reduceSub, Nat.reduceLeDiff, Nat.reduceLT, Nat.reduceEqDiff, reduceIte, ↓reduceIte, Nat.reduceBEq, Bool.not_true, hv.len, dec_t (show (ps.length : Int) > 100 by omega)]
    exact ret_drop (k := fun r _ => r = AV.bool true) (.refl _) rfl rfl
  by_cases g2 : tk.length > 100
  · simp only [r_w12_PoolPicks, XX, CC, Nat.reduceAdd, Nat.reduceSub, Nat.reduceLeDiff, Nat.reduceLT, Nat.reduceEqDiff, reduceIte, ↓reduceIte, Nat.reduceBEq]
    refine (awake_r _).use ?_
    simp only [XX, CC, Nat.reduceAdd, Nat.reduceSub, Nat.reduceLeDiff, Nat.reduceLT, Nat.reduceEqDiff, reduceIte, ↓reduceIte, Nat.reduceBEq, Bool.not_true, hv.len, hw.len, dec_f (show ¬ (ps.length : Int) > 100 by omega), dec_t (show (tk.length : Int) > 100 by omega)]
    exact ret_drop (k := fun r _ => r = AV.bool true) (.refl _) rfl rfl
  have hh : tk.length / 2 ≤ tk.length := Nat.div_le_self _ _
  have qq := quo2 (n := tk.length) (by omega)
  generalize tk.length / 2 = h at hh qq
  obtain ⟨v1, hs1, r1⟩ := rd_take hw cA_len hh
  obtain ⟨v2, hs2, r2⟩ := rd_drop hw cA_len hh
  have hO1 : ∀ x ∈ tk.take h, x < 340282366920938463463374607431768211456 := fun x hx => hO x (List.mem_of_mem_take hx)
  have hO2 : ∀ x ∈ tk.drop h, x < 340282366920938463463374607431768211456 := fun x hx => hO x (List.mem_of_mem_drop hx)
  have b00 : ((0 : Int) == 0) = true := rfl
  have b10 : ((1 : Int) == 0) = false := rfl
  have b11 : ((1 : Int) == 1) = true := rfl
  have hbuild := build_r s v v1 ps (tk.take h) (by omega) hS hv (by simp; omega) hO1 r1
  obtain ⟨TAIL, hT⟩ : ∃ c, c = pkA := ⟨_, rfl⟩
  have htail := pk_tail s
  rw [← hT] at htail
  have hbody : r_w12_PoolPicks.body = (let b := r_w12_PoolPicks.body; .seq b.fst (.seq b.snd.fst (.seq b.snd.snd.fst (.seq b.snd.snd.snd.fst (.seq b.snd.snd.snd.snd.fst (.seq b.snd.snd.snd.snd.snd.fst (.seq b.snd.snd.snd.snd.snd.snd.fst
    (.seq b.snd.snd.snd.snd.snd.snd.snd.fst (.seq b.snd.snd.snd.snd.snd.snd.snd.snd.fst (.seq b.snd.snd.snd.snd.snd.snd.snd.snd.snd.fst (.seq b.snd.snd.snd.snd.snd.snd.snd.snd.snd.snd.fst TAIL))))))))))) := by rw [hT]; rfl
  rw [hbody]
  have hor : (ps.all fun r => decide (r.1 ≤ r.2)) = true ∨ (ps.all fun r => decide (r.1 ≤ r.2)) = false := by cases (ps.all fun r => decide (r.1 ≤ r.2)) <;> simp
  rcases hor with hall | hall
  · rw [hall] at hbuild
    have hB := builtL_snd (set := []) (l := ps) trivial hS
    have hP1 := builtL_snd (set := []) (l := pts (tk.take h)) trivial (pts_wf hO1)
    have hP2 := builtL_snd (set := []) (l := pts (tk.drop h)) trivial (pts_wf hO2)
    have n1 := builtL_len ps []
    have n2 := builtL_len (pts (tk.take h)) []
    have n3 := builtL_len (pts (tk.drop h)) []
    have n4 : (pts (tk.take h)).length ≤ 100 := by simp [pts]; omega
    have n5 : (pts (tk.drop h)).length ≤ 100 := by simp [pts]; omega
    simp only [List.length_nil, Nat.zero_add] at n1 n2 n3
    have hA := lessL_snd hB hP1
    have nA := lessL_len hB hP1
    have hF := lessL_snd hA hP2
    have nF := lessL_len hA hP2
    have memF : ∀ x, mem (lessL (lessL (builtL [] ps) (builtL [] (pts (tk.take h)))) (builtL [] (pts (tk.drop h)))) x → mem ps x ∧ x ∉ tk := fun x hx => by
      have h1 := (lessL_mem x hA hP2).1 hx
      have h2 := (lessL_mem x hB hP1).1 h1.1
      have h3 := (builtL_mem nilS hS).1 h2.1
      rw [mem_nil, false_or] at h3
      refine ⟨h3, fun hxt => ?_⟩
      rw [← List.take_append_drop h tk, List.mem_append] at hxt
      rcases hxt with hxt | hxt
      · exact h2.2 ((builtL_mem nilS (pts_wf hO1)).2 (.inr ((mem_pts _ x).2 hxt)))
      · exact h1.2 ((builtL_mem nilS (pts_wf hO2)).2 (.inr ((mem_pts _ x).2 hxt)))
    have hfree := fun t va (hr : Rd 4 cR t va (lessL (builtL [] ps) (builtL [] (pts (tk.take h))))) (hx : Ext s t) => free_r t va v2 _ (tk.drop h) (by omega) (Snd.toWf hA) hr (by simp; omega) hO2 (r2.ext hx)
    rw [(sndB_iff (Snd.toWf hA)).2 hA] at hfree
    generalize lessL (builtL [] ps) (builtL [] (pts (tk.take h))) = A at hbuild hA nA hF nF memF hfree
    generalize lessL A (builtL [] (pts (tk.drop h))) = F at hF nF memF hfree
    have wF := Snd.toWf hF
    have oF := (sndB_iff wF).2 hF
    have hpick := pick_spec hF d (by omega)
    rcases hpick with ⟨hF0, hpk⟩ | ⟨hF0, n, x, hpk, _, _, hxM, hxF⟩
    · have hlF : F.length = 0 := by rw [hF0]; rfl
      simp only [r_w12_PoolPicks, RC.fst, RC.snd, XX, CC, Nat.reduceAdd, Nat.reduceSub, Nat.reduceLeDiff, Nat.reduceLT, Nat.reduceEqDiff, reduceIte, ↓reduceIte, Nat.reduceBEq]
      refine (awake_r _).use ?_
      simp only [XX, CC, Nat.reduceAdd, Nat.reduceSub, Nat.reduceLeDiff, Nat.reduceLT, Nat.reduceEqDiff, reduceIte, ↓reduceIte, Nat.reduceBEq, Bool.not_true, hv.len, hw.len, dec_f (show ¬ (ps.length : Int) > 100 by omega), dec_f (show ¬ (tk.length : Int) > 100 by omega), qq, hs1]
      refine Run.mono _ _ _ _ _ ?_ hbuild
      intro r t1 hh1
      obtain ⟨va, rfl, o1⟩ := hh1.yes rfl rfl
      simp only [XX, CC, Nat.reduceAdd, Nat.reduceSub, Nat.reduceLeDiff, Nat.reduceLT, Nat.reduceEqDiff, reduceIte, ↓reduceIte, Nat.reduceBEq, b00, Bool.not_true, hs2]
      refine Run.mono _ _ _ _ _ ?_ (hfree t1 va (o1.rd cR_len) o1.ext)
      intro r t2 hh2
      obtain ⟨vf, rfl, o2⟩ := hh2.yes rfl rfl
      have x2 := o1.ext.trans o2.ext
      have rF := o2.rd cR_len
      simp only [XX, CC, Nat.reduceAdd, Nat.reduceSub, Nat.reduceLeDiff, Nat.reduceLT, Nat.reduceEqDiff, reduceIte, ↓reduceIte, Nat.reduceBEq, b00, Bool.not_true]
      refine (sound_r _ vf F (by omega) wF rF).use ?_
      rw [oF]
      simp only [XX, CC, Nat.reduceAdd, Nat.reduceSub, Nat.reduceLeDiff, Nat.reduceLT, Nat.reduceEqDiff, reduceIte, ↓reduceIte, Nat.reduceBEq, Bool.not_true]
      refine (pick_r _ vf F d hd (by omega) wF rF).use ?_
      rw [hpk]
      simp only [XX, CC, Nat.reduceAdd, Nat.reduceSub, Nat.reduceLeDiff, Nat.reduceLT, Nat.reduceEqDiff, reduceIte, ↓reduceIte, Nat.reduceBEq, rF.len, hlF, dec_f (show ¬ ((0 : Nat) : Int) > 0 by decide), show (false == false) = true from rfl, Bool.not_true, Bool.not_false, eq_A0, dec_t (rfl : 0 = 0)]
      exact ret_drop (k := fun r _ => r = AV.bool true) (x2.app _) rfl rfl
    · have hlF : 0 < F.length := List.length_pos_iff.2 hF0
      simp only [r_w12_PoolPicks, RC.fst, RC.snd, XX, CC, Nat.reduceAdd, Nat.reduceSub, Nat.reduceLeDiff, Nat.reduceLT, Nat.reduceEqDiff, reduceIte, ↓reduceIte, Nat.reduceBEq]
      refine (awake_r _).use ?_
      simp only [XX, CC, Nat.reduceAdd, Nat.reduceSub, Nat.reduceLeDiff, Nat.reduceLT, Nat.reduceEqDiff, reduceIte, ↓reduceIte, Nat.reduceBEq, Bool.not_true, hv.len, hw.len, dec_f (show ¬ (ps.length : Int) > 100 by omega), dec_f (show ¬ (tk.length : Int) > 100 by omega), qq, hs1]
      refine Run.mono _ _ _ _ _ ?_ hbuild
      intro r t1 hh1
      obtain ⟨va, rfl, o1⟩ := hh1.yes rfl rfl
      simp only [XX, CC, Nat.reduceAdd, Nat.reduceSub, Nat.reduceLeDiff, Nat.reduceLT, Nat.reduceEqDiff, reduceIte, ↓reduceIte, Nat.reduceBEq, b00, Bool.not_true, hs2]
      refine Run.mono _ _ _ _ _ ?_ (hfree t1 va (o1.rd cR_len) o1.ext)
      intro r t2 hh2
      obtain ⟨vf, rfl, o2⟩ := hh2.yes rfl rfl
      have x2 := o1.ext.trans o2.ext
      have rF := o2.rd cR_len
      simp only [XX, CC, Nat.reduceAdd, Nat.reduceSub, Nat.reduceLeDiff, Nat.reduceLT, Nat.reduceEqDiff, reduceIte, ↓reduceIte, Nat.reduceBEq, b00, Bool.not_true]
      refine (sound_r _ vf F (by omega) wF rF).use ?_
      rw [oF]
      simp only [XX, CC, Nat.reduceAdd, Nat.reduceSub, Nat.reduceLeDiff, Nat.reduceLT, Nat.reduceEqDiff, reduceIte, ↓reduceIte, Nat.reduceBEq, Bool.not_true]
      refine (pick_r _ vf F d hd (by omega) wF rF).use ?_
      rw [hpk]
      simp only [XX, CC, Nat.reduceAdd, Nat.reduceSub, Nat.reduceLeDiff, Nat.reduceLT, Nat.reduceEqDiff, reduceIte, ↓reduceIte, Nat.reduceBEq, rF.len, dec_t (show (F.length : Int) > 0 by omega), show (true == true) = true from rfl, Bool.not_true]
      refine htail _ v w vf ps F tk x t2.length _ (by omega) hS (hv.ext (x2.app _)) (by omega) hO (hw.ext (x2.app _)) hF (by omega) (rF.ext ⟨_, rfl⟩) (x2.app _) hxM ((inL_iff _ _).2 (memF x hxF).1) (memF x hxF).2 ((inL_iff _ _).2 hxF) (by simp) ?_ ?_ ?_ ?_ <;> simp only [XX, CC, Nat.reduceAdd, Nat.reduceSub, Nat.reduceLeDiff, Nat.reduceLT, Nat.reduceEqDiff, reduceIte, ↓reduceIte, Nat.reduceBEq]
  · rw [hall] at hbuild
    simp only [r_w12_PoolPicks, RC.fst, RC.snd, XX, CC, Nat.reduceAdd, Nat.reduceSub, Nat.reduceLeDiff, Nat.reduceLT, Nat.reduceEqDiff, reduceIte, ↓reduceIte, Nat.reduceBEq]
    refine (awake_r _).use ?_
    simp only [XX, CC, Nat.reduceAdd, Nat.reduceSub, Nat.reduceLeDiff, Nat.reduceLT, Nat.reduceEqDiff, reduceIte, ↓reduceIte, Nat.reduceBEq, Bool.not_true, hv.len, hw.len, dec_f (show ¬ (ps.length : Int) > 100 by omega), dec_f (show ¬ (tk.length : Int) > 100 by omega), qq, hs1]
    refine Run.mono _ _ _ _ _ ?_ hbuild
    intro r t1 hh1
    obtain ⟨va, rfl, o1⟩ := hh1.nope
    have e1 := (o1.rd cR_len).len
    simp only [XX, CC, Nat.reduceAdd, Nat.reduceSub, Nat.reduceLeDiff, Nat.reduceLT, Nat.reduceEqDiff, reduceIte, ↓reduceIte, Nat.reduceBEq, b10, b11, Bool.not_false, e1, List.length_nil, show (((0 : Nat) : Int) == 0) = true from rfl]
    exact ret_drop (k := fun r _ => r = AV.bool true) o1.ext rfl rfl
end Go.Ev
