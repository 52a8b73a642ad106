import Derived.Test.YtkainejbilbjfaaPoolG
/-! PoolMemory. -/
namespace Go.Ev
set_option linter.unusedVariables false
set_option linter.unusedSimpArgs false
open Go.Ev.Sp

def memL1 : RC := r_w12_PoolMemory.body.snd.snd.snd.snd.snd.snd.snd.snd.snd.snd.snd.snd.snd.snd.snd.snd.fst.snd
set_option maxHeartbeats 4000000 in
theorem mem_fill1 (t : St) (va : AV) (l : List (Nat × Nat)) (n : Nat) (e : Env) (Q : XE → Env → St → Prop) (ho : Own n 4 cR t va l) (hl : l.length < 1000000) (gv : e.get 13 = va) (gi : e.get 16 = .int .i64 0)
    (hK : ∀ e' t' l', Own n 4 cR t' va l' → l'.length = l.length → t'.length = t.length → (∀ i, (∀ o e' k c, va ≠ .sl i o e' k c) → t'[i]? = t[i]?) → (e'.get 9 = e.get 9 ∧ e'.get 11 = e.get 11 ∧ e'.get 13 = e.get 13 ∧ e'.get 15 = e.get 15) → Q .nrm e' t') : awp (Run T) memL1 Q e t := by
  simp only [memL1, r_w12_PoolMemory, RC.fst, RC.snd, XX, CC, Nat.reduceAdd, Nat.reduceSub, Nat.reduceLeDiff, Nat.reduceLT, Nat.reduceEqDiff, reduceIte, ↓reduceIte, Nat.reduceBEq]
  refine awp_rounds (fun d e1 t' => ∃ (i : Nat) (l' : List (Nat × Nat)), i + d = l.length ∧ e1.get 16 = .int .i64 i ∧ Own n 4 cR t' va l' ∧ l'.length = l.length ∧ t'.length = t.length ∧ (∀ i, (∀ o e' k c, va ≠ .sl i o e' k c) → t'[i]? = t[i]?) ∧ e1.get 9 = e.get 9 ∧ e1.get 11 = e.get 11 ∧ e1.get 13 = e.get 13 ∧ e1.get 15 = e.get 15) l.length ?_ ?_
  · exact ⟨0, l, by omega, gi, ho, rfl, rfl, fun _ _ => rfl, rfl, rfl, rfl, rfl⟩
  rintro J d e1 t1 hJ ⟨i, l', hi, gi, ho1, hl1, ht1, hf1, g9, g11, g13, g15⟩
  have hlen := (ho1.rd cR_len).len
  have gv1 : e1.get 13 = va := g13.trans gv
  simp only [XX, CC, Nat.reduceAdd, Nat.reduceSub, Nat.reduceLeDiff, Nat.reduceLT, Nat.reduceEqDiff, reduceIte, ↓reduceIte, Nat.reduceBEq, gi, gv1, hlen]
  by_cases h : i < l.length
  · obtain ⟨b, x, h1, ⟨bo, be, bk, bc, hb⟩, h2, h3, h4⟩ := own_at ho1 (i := i) (by omega) (9, 9)
    simp only [dec_t (show (i : Int) < l'.length by omega), XX, CC, Nat.reduceAdd, Nat.reduceSub, Nat.reduceLeDiff, Nat.reduceLT, Nat.reduceEqDiff, reduceIte, ↓reduceIte, Nat.reduceBEq, gi, gv1]
    refine (small_r _ 9 9 (by decide) (by decide)).use ?_
    simp only [XX, CC, Nat.reduceAdd, Nat.reduceSub, Nat.reduceLeDiff, Nat.reduceLT, Nat.reduceEqDiff, reduceIte, ↓reduceIte, Nat.reduceBEq, gi, gv1, h2, h3]
    refine hJ (d - 1) _ _ (by omega) ⟨i + 1, l'.set i (9, 9), by omega, ?_, h4, by simp; omega, by simp; omega, ?_, ?_, ?_, ?_, ?_⟩
    · simp only [XX, CC, Nat.reduceAdd, Nat.reduceSub, Nat.reduceLeDiff, Nat.reduceLT, Nat.reduceEqDiff, reduceIte, ↓reduceIte, Nat.reduceBEq]; rw [w64_nat (by omega)]
    · intro j hj
      rw [List.getElem?_set, if_neg (fun hbj => hj bo be bk bc (by rw [← hbj]; exact hb))]
      exact hf1 j hj
    all_goals simp only [XX, CC, Nat.reduceAdd, Nat.reduceSub, Nat.reduceLeDiff, Nat.reduceLT, Nat.reduceEqDiff, reduceIte, ↓reduceIte, Nat.reduceBEq]
    all_goals assumption
  · simp only [dec_f (show ¬ (i : Int) < l'.length by omega), XX, CC, Nat.reduceAdd, Nat.reduceSub, Nat.reduceLeDiff, Nat.reduceLT, Nat.reduceEqDiff, reduceIte, ↓reduceIte, Nat.reduceBEq]
    refine hK _ _ l' ho1 hl1 ht1 hf1 ⟨?_, ?_, ?_, ?_⟩ <;> simp only [XX, CC, Nat.reduceAdd, Nat.reduceSub, Nat.reduceLeDiff, Nat.reduceLT, Nat.reduceEqDiff, reduceIte, ↓reduceIte, Nat.reduceBEq]
    all_goals assumption

def memL2 : RC := r_w12_PoolMemory.body.snd.snd.snd.snd.snd.snd.snd.snd.snd.snd.snd.snd.snd.snd.snd.snd.snd.snd.fst.snd
set_option maxHeartbeats 4000000 in
theorem mem_fill2 (t : St) (va : AV) (l : List (Nat × Nat)) (n : Nat) (e : Env) (Q : XE → Env → St → Prop) (ho : Own n 4 cR t va l) (hl : l.length < 1000000) (gv : e.get 9 = va) (gi : e.get 17 = .int .i64 0)
    (hK : ∀ e' t' l', Own n 4 cR t' va l' → l'.length = l.length → t'.length = t.length → (∀ i, (∀ o e' k c, va ≠ .sl i o e' k c) → t'[i]? = t[i]?) → (e'.get 9 = e.get 9 ∧ e'.get 11 = e.get 11 ∧ e'.get 13 = e.get 13 ∧ e'.get 15 = e.get 15) → Q .nrm e' t') : awp (Run T) memL2 Q e t := by
  simp only [memL2, r_w12_PoolMemory, RC.fst, RC.snd, XX, CC, Nat.reduceAdd, Nat.reduceSub, Nat.reduceLeDiff, Nat.reduceLT, Nat.reduceEqDiff, reduceIte, ↓reduceIte, Nat.reduceBEq]
  refine awp_rounds (fun d e1 t' => ∃ (i : Nat) (l' : List (Nat × Nat)), i + d = l.length ∧ e1.get 17 = .int .i64 i ∧ Own n 4 cR t' va l' ∧ l'.length = l.length ∧ t'.length = t.length ∧ (∀ i, (∀ o e' k c, va ≠ .sl i o e' k c) → t'[i]? = t[i]?) ∧ e1.get 9 = e.get 9 ∧ e1.get 11 = e.get 11 ∧ e1.get 13 = e.get 13 ∧ e1.get 15 = e.get 15) l.length ?_ ?_
  · exact ⟨0, l, by omega, gi, ho, rfl, rfl, fun _ _ => rfl, rfl, rfl, rfl, rfl⟩
  rintro J d e1 t1 hJ ⟨i, l', hi, gi, ho1, hl1, ht1, hf1, g9, g11, g13, g15⟩
  have hlen := (ho1.rd cR_len).len
  have gv1 : e1.get 9 = va := g9.trans gv
  simp only [XX, CC, Nat.reduceAdd, Nat.reduceSub, Nat.reduceLeDiff, Nat.reduceLT, Nat.reduceEqDiff, reduceIte, ↓reduceIte, Nat.reduceBEq, gi, gv1, hlen]
  by_cases h : i < l.length
  · obtain ⟨b, x, h1, ⟨bo, be, bk, bc, hb⟩, h2, h3, h4⟩ := own_at ho1 (i := i) (by omega) (8, 8)
    simp only [dec_t (show (i : Int) < l'.length by omega), XX, CC, Nat.reduceAdd, Nat.reduceSub, Nat.reduceLeDiff, Nat.reduceLT, Nat.reduceEqDiff, reduceIte, ↓reduceIte, Nat.reduceBEq, gi, gv1]
    refine (small_r _ 8 8 (by decide) (by decide)).use ?_
    simp only [XX, CC, Nat.reduceAdd, Nat.reduceSub, Nat.reduceLeDiff, Nat.reduceLT, Nat.reduceEqDiff, reduceIte, ↓reduceIte, Nat.reduceBEq, gi, gv1, h2, h3]
    refine hJ (d - 1) _ _ (by omega) ⟨i + 1, l'.set i (8, 8), by omega, ?_, h4, by simp; omega, by simp; omega, ?_, ?_, ?_, ?_, ?_⟩
    · simp only [XX, CC, Nat.reduceAdd, Nat.reduceSub, Nat.reduceLeDiff, Nat.reduceLT, Nat.reduceEqDiff, reduceIte, ↓reduceIte, Nat.reduceBEq]; rw [w64_nat (by omega)]
    · intro j hj
      rw [List.getElem?_set, if_neg (fun hbj => hj bo be bk bc (by rw [← hbj]; exact hb))]
      exact hf1 j hj
    all_goals simp only [XX, CC, Nat.reduceAdd, Nat.reduceSub, Nat.reduceLeDiff, Nat.reduceLT, Nat.reduceEqDiff, reduceIte, ↓reduceIte, Nat.reduceBEq]
    all_goals assumption
  · simp only [dec_f (show ¬ (i : Int) < l'.length by omega), XX, CC, Nat.reduceAdd, Nat.reduceSub, Nat.reduceLeDiff, Nat.reduceLT, Nat.reduceEqDiff, reduceIte, ↓reduceIte, Nat.reduceBEq]
    refine hK _ _ l' ho1 hl1 ht1 hf1 ⟨?_, ?_, ?_, ?_⟩ <;> simp only [XX, CC, Nat.reduceAdd, Nat.reduceSub, Nat.reduceLeDiff, Nat.reduceLT, Nat.reduceEqDiff, reduceIte, ↓reduceIte, Nat.reduceBEq]
    all_goals assumption

def memB (L1 L2 : RC) : RC :=
  let b := r_w12_PoolMemory.body
  let c := b.snd.snd.snd.snd.snd.snd
  let d := c.snd.snd.snd.snd.snd.snd
  let f := d.snd.snd.snd.snd
  .seq b.fst (.seq b.snd.fst (.seq b.snd.snd.fst (.seq b.snd.snd.snd.fst (.seq b.snd.snd.snd.snd.fst (.seq b.snd.snd.snd.snd.snd.fst
    (.seq c.fst (.seq c.snd.fst (.seq c.snd.snd.fst (.seq c.snd.snd.snd.fst (.seq c.snd.snd.snd.snd.fst (.seq c.snd.snd.snd.snd.snd.fst
      (.seq d.fst (.seq d.snd.fst (.seq d.snd.snd.fst (.seq d.snd.snd.snd.fst
        (.seq (.seq f.fst.fst L1) (.seq f.snd.fst (.seq (.seq f.snd.snd.fst.fst L2) f.snd.snd.snd))))))))))))))))))

set_option maxHeartbeats 8000000 in
theorem memory_r (s : St) (v w : AV) (ps : List (Nat × Nat)) (tk : List Nat) (hl : ps.length < 4611686018427387904) (hS : Wf ps) (hv : Rd 4 cR s v ps) (hl' : tk.length < 4611686018427387904) (hO : ∀ x ∈ tk, x < 340282366920938463463374607431768211456) (hw : Rd 2 cA s w tk) :
    Run T f_w12_PoolMemory [v, w] s (fun r _ => r = .bool true) := by
  refine run_body (F := r_w12_PoolMemory) rfl (by simp [r_w12_PoolMemory]) ?_
  by_cases g1 : ps.length > 100
  · simp only [r_w12_PoolMemory, XX, CC, Nat.reduceAdd, Nat.reduceSub, Nat.reduceLeDiff, Nat.reduceLT, Nat.reduceEqDiff, reduceIte, ↓reduceIte, Nat.reduceBEq]
    refine (awake_r _).use ?_
    simp only [XX, CC, Nat.reduceAdd, Nat.reduceSub, Nat.reduceLeDiff, Nat.reduceLT, Nat.reduceEqDiff, reduceIte, ↓reduceIte, Nat.reduceBEq, Bool.not_true, hv.len, dec_t (show (ps.length : Int) > 100 by omega)]
    exact ret_drop (k := fun r _ => r = AV.bool true) (.refl _) rfl rfl
  by_cases g2 : tk.length > 100
  · simp only [r_w12_PoolMemory, XX, CC, Nat.reduceAdd, Nat.reduceSub, Nat.reduceLeDiff, Nat.reduceLT, Nat.reduceEqDiff, reduceIte, ↓reduceIte, Nat.reduceBEq]
    refine (awake_r _).use ?_
    simp only [XX, CC, Nat.reduceAdd, Nat.reduceSub, Nat.reduceLeDiff, Nat.reduceLT, Nat.reduceEqDiff, reduceIte, ↓reduceIte, Nat.reduceBEq, Bool.not_true, hv.len, hw.len, dec_f (show ¬ (ps.length : Int) > 100 by omega), dec_t (show (tk.length : Int) > 100 by omega)]
    exact ret_drop (k := fun r _ => r = AV.bool true) (.refl _) rfl rfl
  have hbuild := fun t v w (h1 : Rd 4 cR t v ps) (h2 : Rd 2 cA t w tk) => build_r t v w ps tk (by omega) hS h1 (by omega) hO h2
  unfold Ans at hbuild
  have hSA : Snd 340282366920938463463374607431768211456 0 (if (ps.all fun r => decide (r.1 ≤ r.2)) then (lessL (builtL [] ps) (builtL [] (pts tk))) else []) := by
    split
    · exact lessL_snd (builtL_snd trivial hS) (builtL_snd (set := []) trivial (pts_wf hO))
    · trivial
  have lenA : (if (ps.all fun r => decide (r.1 ≤ r.2)) then (lessL (builtL [] ps) (builtL [] (pts tk))) else []).length ≤ 200 := by
    have h1 := builtL_len ps []
    have h2 := builtL_len (pts tk) []
    have h3 : (pts tk).length = tk.length := by simp [pts]
    have h4 := lessL_len (s := builtL [] ps) (t := builtL [] (pts tk)) (lo := 0) (lo' := 0) (builtL_snd trivial hS) (builtL_snd (set := []) trivial (pts_wf hO))
    split
    · simp at h1 h2; omega
    · simp
  generalize (if (ps.all fun r => decide (r.1 ≤ r.2)) then (lessL (builtL [] ps) (builtL [] (pts tk))) else []) = A at hbuild hSA lenA
  generalize (if (ps.all fun r => decide (r.1 ≤ r.2)) then (0 : Int) else 1) = c0 at hbuild
  have wA := Snd.toWf hSA
  have hfree := fun t v => free_r t v .nils A [] (by omega) wA
  rw [(sndB_iff wA).2 hSA] at hfree
  have b00 : ((0 : Int) == 0) = true := rfl
  have hsame : ∀ (t : St) (v w : AV) (l : List (Nat × Nat)), l.length < 4611686018427387904 → Rd 4 cR t v l → Rd 4 cR t w l → RunD T f_w12_same [v, w] t (.bool true) t := fun t v w l hl hv hw => by
    have := same_r t v w l l hl hv hw
    rwa [dec_t rfl] at this
  have hlist : ∀ (t : St) (v w : AV) (l : List Nat), l.length < 4611686018427387904 → Rd 2 cA t v l → Rd 2 cA t w l → RunD T f_w12_list [v, w] t (.bool true) t := fun t v w l hl hv hw => by
    have := list_r t v w l l hl hv hw
    rwa [dec_t rfl] at this
  have hq : ∀ q : Nat × Nat, eqA (.st (.sub 0 2 (.st (.one 0 .i (.one 1 .i .nil))) (.sub 2 2 (.st (.one 0 .i (.one 1 .i .nil))) .nil))) (aR q) (aR q) = some true := fun q => by rw [eq_R, dec_t rfl]
  have q72 : eqA (.st (.one 0 .i (.one 1 .i .nil))) (aA 72) (.agg [.int .u64 0, .int .u64 72]) = some true := eq_A 72 72
  obtain ⟨L1, hT1⟩ : ∃ c, c = memL1 := ⟨_, rfl⟩
  obtain ⟨L2, hT2⟩ : ∃ c, c = memL2 := ⟨_, rfl⟩
  have f1 := mem_fill1
  have f2 := mem_fill2
  rw [← hT1] at f1
  rw [← hT2] at f2
  have hbody : r_w12_PoolMemory.body = memB L1 L2 := by rw [hT1, hT2]; rfl
  rw [hbody]
  have hmk := mks_0 (s := s) (e := 4) (by_ := 32) (z := [AV.int .u64 0, AV.int .u64 0, AV.int .u64 0, AV.int .u64 0]) (k := .i64) (n := ps.length + 1) (by omega)
  have hZ : unders 0 (List.replicate (ps.length + 1) [AV.int .u64 0, AV.int .u64 0, AV.int .u64 0, AV.int .u64 0]).flatten = true := unders_rep rfl _
  generalize (List.replicate (ps.length + 1) [AV.int .u64 0, AV.int .u64 0, AV.int .u64 0, AV.int .u64 0]).flatten = Z at hmk hZ
  obtain ⟨v2, t2, a1, a2, a3, a4, a5, a6⟩ := own_app (by_ := 32) (n := s.length) (t := s ++ [.cells true Z]) (v := .sl s.length 0 4 0 none) (l := []) (y := v)
    (.inr ⟨s.length, none, Z, Nat.le_refl _, .inl rfl, rfl, by simp, hZ⟩) (by simp) (hv.ext ⟨_, rfl⟩) cR_len cR_cell (by simp; omega)
  have x2 : Ext s t2 := a5 s (Nat.le_refl _) ⟨_, rfl⟩
  rw [List.nil_append] at a2
  obtain ⟨v3, t3, c1, c2, c3, c4, c5, c6⟩ := own_app (by_ := 32) (y := .sl t2.length 0 4 1 (some 1)) (l2 := [(71, 71)]) (a2.app [.cells true (cR (71, 71))]) (by have := x2.len; simp; omega) (rd_lit (by simp) cR_len rfl) cR_len cR_cell (by simp; omega)
  have x3 : Ext s t3 := c5 s (Nat.le_refl _) (x2.app _)
  have hmk2 := mks_0 (s := t3) (e := 2) (by_ := 16) (z := [AV.int .u64 0, AV.int .u64 0]) (k := .i64) (n := tk.length + 1) (by omega)
  have hY : unders 0 (List.replicate (tk.length + 1) [AV.int .u64 0, AV.int .u64 0]).flatten = true := unders_rep rfl _
  generalize (List.replicate (tk.length + 1) [AV.int .u64 0, AV.int .u64 0]).flatten = Y at hmk2 hY
  obtain ⟨v5, t5, e1, e2, e3, e4, e5, e6⟩ := own_app (by_ := 16) (n := t3.length) (t := t3 ++ [.cells true Y]) (v := .sl t3.length 0 2 0 none) (l := []) (y := w)
    (.inr ⟨t3.length, none, Y, Nat.le_refl _, .inl rfl, rfl, by simp, hY⟩) (by simp) (hw.ext (x3.app _)) cA_len cA_cell (by simp; omega)
  have x5 : Ext t3 t5 := e5 t3 (Nat.le_refl _) ⟨_, rfl⟩
  rw [List.nil_append] at e2
  obtain ⟨v6, t6, i1, i2, i3, i4, i5, i6⟩ := own_app (by_ := 16) (y := .sl t5.length 0 2 1 (some 1)) (l2 := [72]) (e2.app [.cells true (cA 72)]) (by have := x5.len; simp; omega) (rd_lit (by simp) cA_len rfl) cA_len cA_cell (by simp; omega)
  have x6 : Ext t3 t6 := i5 t3 (Nat.le_refl _) (x5.app _)
  have wn : IntKind.i64.wrap ((ps.length : Int) + 1) = ((ps.length + 1 : Nat) : Int) := w64_nat (by omega)
  have wk : IntKind.i64.wrap ((tk.length : Int) + 1) = ((tk.length + 1 : Nat) : Int) := w64_nat (by omega)
  have rM := (c2.rd cR_len).ext x6
  have rT := i2.rd cA_len
  have hv6 := hv.ext (x3.trans x6)
  have hw6 := hw.ext (x3.trans x6)
  obtain ⟨v7, hs7, r7⟩ := rd_take rM cR_len (n := ps.length) (by simp)
  obtain ⟨v8, hs8, r8⟩ := rd_take rT cA_len (n := tk.length) (by simp)
  rw [List.take_left' rfl] at r7 r8
  simp only [memB, r_w12_PoolMemory, RC.fst, RC.snd, XX, CC, Nat.reduceAdd, Nat.reduceSub, Nat.reduceLeDiff, Nat.reduceLT, Nat.reduceEqDiff, reduceIte, ↓reduceIte, Nat.reduceBEq]
  refine (awake_r _).use ?_
  simp only [XX, CC, Nat.reduceAdd, Nat.reduceSub, Nat.reduceLeDiff, Nat.reduceLT, Nat.reduceEqDiff, reduceIte, ↓reduceIte, Nat.reduceBEq, Bool.not_true, hv.len, hw.len, dec_f (show ¬ (ps.length : Int) > 100 by omega), dec_f (show ¬ (tk.length : Int) > 100 by omega), wn, hmk, a1]
  refine (small_r _ 71 71 (by decide) (by decide)).use ?_
  simp only [XX, CC, Nat.reduceAdd, Nat.reduceSub, Nat.reduceLeDiff, Nat.reduceLT, Nat.reduceEqDiff, reduceIte, ↓reduceIte, Nat.reduceBEq, c1, wk, hmk2, e1, cA_small (show 72 < 18446744073709551616 by decide), show [AV.int .u64 0, AV.int .u64 72] = cA 72 from rfl, i1]
  refine drw_in [] rfl ?_
  simp only [List.append_nil, DD, CC, Nat.reduceAdd, Nat.reduceSub, Nat.reduceLeDiff, Nat.reduceLT, Nat.reduceEqDiff, reduceIte, ↓reduceIte, Nat.reduceBEq, hs7, hs8]
  refine dr_calln (hbuild _ v7 v8 r7 r8) (fun v t h => by obtain ⟨_, _, o⟩ := h; exact o.ext) (by simp) (by simp) ?_
  rintro _ t7 ⟨va, rfl, o7⟩
  simp only [DD, CC, Nat.reduceAdd, Nat.reduceSub, Nat.reduceLeDiff, Nat.reduceLT, Nat.reduceEqDiff, reduceIte, ↓reduceIte, Nat.reduceBEq]
  refine drw_in [] rfl ?_
  simp only [List.append_nil, DD, CC, Nat.reduceAdd, Nat.reduceSub, Nat.reduceLeDiff, Nat.reduceLT, Nat.reduceEqDiff, reduceIte, ↓reduceIte, Nat.reduceBEq, hs7, hs8]
  refine dr_calln (hbuild _ v7 v8 (r7.ext o7.ext) (r8.ext o7.ext)) (fun v t h => by obtain ⟨_, _, o⟩ := h; exact o.ext) (by simp) (by simp) ?_
  rintro _ t8 ⟨vb, rfl, o8⟩
  have x68 := o7.ext.trans o8.ext
  have rA := (o7.rd cR_len).ext o8.ext
  have rB := o8.rd cR_len
  have r78 := r7.ext x68
  have r88 := r8.ext x68
  have hv8 := hv6.ext x68
  have hw8 := hw6.ext x68
  obtain ⟨b5, p5, j5, k5⟩ := rdR (rM.ext x68) (i := ps.length) (q := (71, 71)) (by simp)
  obtain ⟨b6, p6, j6, k6⟩ := rdA (rT.ext x68) (i := tk.length) (q := 72) (by simp)
  simp only [DD, CC, Nat.reduceAdd, Nat.reduceSub, Nat.reduceLeDiff, Nat.reduceLT, Nat.reduceEqDiff, reduceIte, ↓reduceIte, Nat.reduceBEq]
  refine drw_in [] rfl ?_
  simp only [List.append_nil, DD, CC, Nat.reduceAdd, Nat.reduceSub, Nat.reduceLeDiff, Nat.reduceLT, Nat.reduceEqDiff, reduceIte, ↓reduceIte, Nat.reduceBEq, beq_self_eq_true, Bool.not_true]
  refine dr_call (hsame _ _ _ A (by omega) rA rB) ?_
  simp only [DD, CC, Nat.reduceAdd, Nat.reduceSub, Nat.reduceLeDiff, Nat.reduceLT, Nat.reduceEqDiff, reduceIte, ↓reduceIte, Nat.reduceBEq, Bool.not_true, hs7]
  refine dr_call (hsame _ _ _ ps (by omega) r78 hv8) ?_
  simp only [DD, CC, Nat.reduceAdd, Nat.reduceSub, Nat.reduceLeDiff, Nat.reduceLT, Nat.reduceEqDiff, reduceIte, ↓reduceIte, Nat.reduceBEq, Bool.not_true, hs8]
  refine dr_call (hlist _ _ _ tk (by omega) r88 hw8) ?_
  simp only [DD, CC, Nat.reduceAdd, Nat.reduceSub, Nat.reduceLeDiff, Nat.reduceLT, Nat.reduceEqDiff, reduceIte, ↓reduceIte, Nat.reduceBEq, Bool.not_true, j5, k5]
  refine dr_call (small_r _ 71 71 (by decide) (by decide)) ?_
  simp only [DD, CC, Nat.reduceAdd, Nat.reduceSub, Nat.reduceLeDiff, Nat.reduceLT, Nat.reduceEqDiff, reduceIte, ↓reduceIte, Nat.reduceBEq, hq, Bool.not_true, j6, k6, q72]
  refine Run.mono _ _ _ _ _ ?_ (hfree _ va rA (by decide) (fun x hx => by cases hx) Rd.nil)
  intro r t9 h
  obtain ⟨vc, rfl, o9⟩ := h.yes rfl rfl
  have o9 : Out 4 cR t8 A vc t9 := o9
  obtain ⟨vw, t10, d1, d2, d3, d4, d5, d6⟩ := own_app (by_ := 32) (n := t9.length) (t := t9 ++ [.cells true []]) (v := .sl t9.length 0 4 0 (some 0)) (l := []) (.inr ⟨t9.length, some 0, [], Nat.le_refl _, .inr rfl, rfl, get_last, rfl⟩) (by simp) ((rB.ext o9.ext).ext ⟨_, rfl⟩) cR_len cR_cell (by simp; omega)
  have x10 : Ext t9 t10 := d5 t9 (Nat.le_refl _) ⟨_, rfl⟩
  rw [List.nil_append] at d2
  have n67 := o7.ext.len
  have n78 := o8.ext.len
  have n89 := o9.ext.len
  have n910 := x10.len
  have n06 := (x3.trans x6).len
  have ra7 := o7.rd cR_len
  have rc9 := o9.rd cR_len
  have hva : ∀ {i o e' k : Nat} {c : Option Nat}, va = .sl i o e' k c → t6.length ≤ i ∧ i < t7.length := fun h => ⟨o7.own.ge h, ra7.lt h⟩
  have hvc : ∀ {i o e' k : Nat} {c : Option Nat}, vc = .sl i o e' k c → t8.length ≤ i ∧ i < t9.length := fun h => ⟨o9.own.ge h, rc9.lt h⟩
  have ownx : ∀ {n : Nat} {t t' : St} {v : AV} {l : List (Nat × Nat)}, Own n 4 cR t v l → Ext t t' → Own n 4 cR t' v l := fun h x => by obtain ⟨z, rfl⟩ := x; exact h.app z
  simp only [XX, CC, Nat.reduceAdd, Nat.reduceSub, Nat.reduceLeDiff, Nat.reduceLT, Nat.reduceEqDiff, reduceIte, ↓reduceIte, Nat.reduceBEq, d1]
  refine f1 t10 vc A t8.length _ _ (ownx o9.own x10) (by omega) ?_ ?_ ?_
  · simp only [XX, CC, Nat.reduceAdd, Nat.reduceSub, Nat.reduceLeDiff, Nat.reduceLT, Nat.reduceEqDiff, reduceIte, ↓reduceIte, Nat.reduceBEq]
  · simp only [XX, CC, Nat.reduceAdd, Nat.reduceSub, Nat.reduceLeDiff, Nat.reduceLT, Nat.reduceEqDiff, reduceIte, ↓reduceIte, Nat.reduceBEq]
  rintro e11 t11 l11 h11 hl11 ht11 hf11 ⟨g9, g11, g13, g15⟩
  simp only [XX, CC, Nat.reduceAdd, Nat.reduceSub, Nat.reduceLeDiff, Nat.reduceLT, Nat.reduceEqDiff, reduceIte, ↓reduceIte, Nat.reduceBEq] at g9 g11 g13 g15
  have rA11 : Rd 4 cR t11 va A := ((ra7.ext (o8.ext.trans (o9.ext.trans x10)))).keep (fun i o e' k c h => hf11 i fun _ _ _ _ h2 => by have := (hva h).2; have := (hvc h2).1; omega) (by omega)
  have rW11 : Rd 4 cR t11 vw A := (d2.rd cR_len).keep (fun i o e' k c h => hf11 i fun _ _ _ _ h2 => by have := d2.ge h; have := (hvc h2).2; omega) (by omega)
  simp only [XX, CC, Nat.reduceAdd, Nat.reduceSub, Nat.reduceLeDiff, Nat.reduceLT, Nat.reduceEqDiff, reduceIte, ↓reduceIte, Nat.reduceBEq, g9, g11, g13, g15]
  refine (hsame _ _ _ A (by omega) rA11 rW11).use ?_
  simp only [XX, CC, Nat.reduceAdd, Nat.reduceSub, Nat.reduceLeDiff, Nat.reduceLT, Nat.reduceEqDiff, reduceIte, ↓reduceIte, Nat.reduceBEq, Bool.not_true]
  refine f2 t11 va A t6.length _ _ ((ownx o7.own (o8.ext.trans (o9.ext.trans x10))).keep fun b hb ⟨_, _, _, _, hv⟩ => hf11 b fun _ _ _ _ h2 => by have := (hva hv).2; have := (hvc h2).1; omega) (by omega) ?_ ?_ ?_
  · simp only [XX, CC, Nat.reduceAdd, Nat.reduceSub, Nat.reduceLeDiff, Nat.reduceLT, Nat.reduceEqDiff, reduceIte, ↓reduceIte, Nat.reduceBEq, g9]
  · simp only [XX, CC, Nat.reduceAdd, Nat.reduceSub, Nat.reduceLeDiff, Nat.reduceLT, Nat.reduceEqDiff, reduceIte, ↓reduceIte, Nat.reduceBEq]
  rintro e12 t12 l12 h12 hl12 ht12 hf12 ⟨k9, k11, k13, k15⟩
  simp only [XX, CC, Nat.reduceAdd, Nat.reduceSub, Nat.reduceLeDiff, Nat.reduceLT, Nat.reduceEqDiff, reduceIte, ↓reduceIte, Nat.reduceBEq, g9, g11, g13, g15] at k9 k11 k13 k15
  have rB12 : Rd 4 cR t12 vb A := (rB.ext (o9.ext.trans x10)).keep (fun i o e' k c h => by
    have h1 := o8.own.ge h
    have h2 := rB.lt h
    rw [hf12 i fun _ _ _ _ h3 => by have := (hva h3).2; omega]
    exact hf11 i fun _ _ _ _ h3 => by have := (hvc h3).1; omega) (by omega)
  have rW12 : Rd 4 cR t12 vw A := rW11.keep (fun i o e' k c h => hf12 i fun _ _ _ _ h3 => by have := d2.ge h; have := (hva h3).2; omega) (by omega)
  simp only [XX, CC, Nat.reduceAdd, Nat.reduceSub, Nat.reduceLeDiff, Nat.reduceLT, Nat.reduceEqDiff, reduceIte, ↓reduceIte, Nat.reduceBEq, k11, k15]
  refine (hsame _ _ _ A (by omega) rB12 rW12).use ?_
  (try simp only [XX, CC, Nat.reduceAdd, Nat.reduceSub, Nat.reduceLeDiff, Nat.reduceLT, Nat.reduceEqDiff, reduceIte, ↓reduceIte, Nat.reduceBEq])
  have xs10 : Ext s t10 := x3.trans (x6.trans (x68.trans (o9.ext.trans x10)))
  refine ret_drop (k := fun r _ => r = AV.bool true) (ext_get fun i hi => ?_) rfl rfl
  rw [hf12 i fun _ _ _ _ h => by have := (hva h).1; omega, hf11 i fun _ _ _ _ h => by have := (hvc h).1; omega]
  exact xs10.get hi
end Go.Ev
