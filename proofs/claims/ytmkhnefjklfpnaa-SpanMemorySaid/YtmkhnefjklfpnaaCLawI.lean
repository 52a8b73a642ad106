import Derived.Test.YtmkhnefjklfpnaaCLawH
import Derived.Test.YtmkhnefjklfpnaaEvU
/-! SpanMemory. -/
namespace Go.Ev
set_option linter.unusedVariables false
set_option linter.unusedSimpArgs false
open Go.Ev.Sp

theorem ext_get {s t : St} (h : ∀ i, i < s.length → t[i]? = s[i]?) : Ext s t := by
  refine ⟨t.drop s.length, ?_⟩
  have : t.take s.length = s := by
    apply List.ext_getElem?
    intro i
    rw [List.getElem?_take]
    split
    · rename_i hi; exact h i hi
    · rename_i hi; rw [List.getElem?_eq_none (by omega)]
  conv => lhs; rw [← List.take_append_drop s.length t, this]
section
variable {α : Type} {e n : Nat} {enc : α → List AV} {s t : St} {v : AV} {l : List α}
theorem Rd.keep {t' : St} (h : Rd e enc t v l) (hk : ∀ i o e' k c, v = .sl i o e' k c → t'[i]? = t[i]?) (hl : t.length ≤ t'.length) : Rd e enc t' v l := by
  refine ⟨h.len, ?_, under_mono hl v h.under⟩
  have h2 := h.cells
  cases v with
  | sl b o es m c =>
    simp only [cellsA, rdB] at h2 ⊢
    rw [hk b o es m c rfl]; exact h2
  | nils => exact h2
  | _ => simp [cellsA] at h2
theorem Rd.lt (h : Rd e enc t v l) {i o e' k : Nat} {c : Option Nat} (hv : v = .sl i o e' k c) : i < t.length := by
  subst hv
  have := h.under
  simpa [AV.under] using this
theorem Own.ge (h : Own n e enc t v l) {i o e' k : Nat} {c : Option Nat} (hv : v = .sl i o e' k c) : n ≤ i := by
  rcases h with ⟨rfl, _⟩ | ⟨b, c2, cs, h1, _, rfl, _⟩
  · cases hv
  · cases hv; exact h1
/-- An element of an own slice is written. -/
theorem own_at {l : List (Nat × Nat)} (h : Own n 4 cR t v l) {i : Nat} (hi : i < l.length) (q : Nat × Nat) : ∃ b x, n ≤ b ∧ (∃ o e' k c, v = .sl b o e' k c) ∧ (∀ k : IntKind, ixaA 4 v (.int k (i : Int)) = some (.ptr b (i * 4))) ∧
    stA t (some 4) (.ptr b (i * 4)) (aR q) = some (t.set b x) ∧ Own n 4 cR (t.set b x) v (l.set i q) := by
  rcases h with ⟨_, h⟩ | ⟨b, c, cs, h3, h4, rfl, h5, h6⟩
  · rw [h] at hi; simp at hi
  · have hb := (List.getElem?_eq_some_iff.1 h5).1
    refine ⟨b, .cells true ((l.set i q).flatMap cR ++ cs), h3, ⟨_, _, _, _, rfl⟩, fun k => by rw [ixa_nat hi, Nat.zero_add], ?_, .inr ⟨b, c, cs, h3, by simpa using h4, by simp, key_set hb, h6⟩⟩
    rw [st_in0 h5 (cR_len q) (cR_cell q) (by rw [List.length_append, flat_len cR_len]; omega), set_flat cR_len q cs l i hi]
end


def memL1 : RC := r_w03_SpanMemory.body.snd.snd.snd.snd.snd.snd.snd.snd.snd.snd.snd.snd.snd.fst.snd
set_option maxHeartbeats 4000000 in
theorem mem_fill1 (t : St) (va : AV) (l : List (Nat × Nat)) (n : Nat) (e : Env) (Q : XE → Env → St → Prop) (ho : Own n 4 cR t va l) (hl : l.length < 1000000) (gv : e.get 8 = va) (gi : e.get 17 = .int .i64 0)
    (hK : ∀ e' t' l', Own n 4 cR t' va l' → l'.length = l.length → t'.length = t.length → (∀ i, (∀ o e' k c, va ≠ .sl i o e' k c) → t'[i]? = t[i]?) → (e'.get 5 = e.get 5 ∧ e'.get 6 = e.get 6 ∧ e'.get 7 = e.get 7 ∧ e'.get 8 = e.get 8 ∧ e'.get 10 = e.get 10 ∧ e'.get 12 = e.get 12 ∧ e'.get 14 = e.get 14 ∧ e'.get 16 = e.get 16) → Q .nrm e' t') : awp (Run T) memL1 Q e t := by
  simp only [memL1, r_w03_SpanMemory, RC.fst, RC.snd, XX, CC, Nat.reduceAdd, Nat.reduceSub, Nat.reduceLeDiff, Nat.reduceLT, Nat.reduceEqDiff, reduceIte, ↓reduceIte, Nat.reduceBEq]
  refine awp_rounds (fun d e1 t' => ∃ (i : Nat) (l' : List (Nat × Nat)), i + d = l.length ∧ e1.get 17 = .int .i64 i ∧ Own n 4 cR t' va l' ∧ l'.length = l.length ∧ t'.length = t.length ∧ (∀ i, (∀ o e' k c, va ≠ .sl i o e' k c) → t'[i]? = t[i]?) ∧ e1.get 5 = e.get 5 ∧ e1.get 6 = e.get 6 ∧ e1.get 7 = e.get 7 ∧ e1.get 8 = e.get 8 ∧ e1.get 10 = e.get 10 ∧ e1.get 12 = e.get 12 ∧ e1.get 14 = e.get 14 ∧ e1.get 16 = e.get 16) l.length ?_ ?_
  · exact ⟨0, l, by omega, gi, ho, rfl, rfl, fun _ _ => rfl, rfl, rfl, rfl, rfl, rfl, rfl, rfl, rfl⟩
  rintro J d e1 t1 hJ ⟨i, l', hi, gi, ho1, hl1, ht1, hf1, g5, g6, g7, g8, g10, g12, g14, g16⟩
  have hlen := (ho1.rd cR_len).len
  have gv1 : e1.get 8 = va := g8.trans gv
  simp only [XX, CC, Nat.reduceAdd, Nat.reduceSub, Nat.reduceLeDiff, Nat.reduceLT, Nat.reduceEqDiff, reduceIte, ↓reduceIte, Nat.reduceBEq, gi, gv1, hlen]
  by_cases h : i < l.length
  · obtain ⟨b, x, h1, ⟨bo, be, bk, bc, hb⟩, h2, h3, h4⟩ := own_at ho1 (i := i) (by omega) (9, 9)
    simp only [dec_t (show (i : Int) < l'.length by omega), XX, CC, Nat.reduceAdd, Nat.reduceSub, Nat.reduceLeDiff, Nat.reduceLT, Nat.reduceEqDiff, reduceIte, ↓reduceIte, Nat.reduceBEq, gi, gv1]
    refine (small_r _ 9 9 (by decide) (by decide)).use ?_
    simp only [XX, CC, Nat.reduceAdd, Nat.reduceSub, Nat.reduceLeDiff, Nat.reduceLT, Nat.reduceEqDiff, reduceIte, ↓reduceIte, Nat.reduceBEq, gi, gv1, h2, h3]
    refine hJ (d - 1) _ _ (by omega) ⟨i + 1, l'.set i (9, 9), by omega, ?_, h4, by simp; omega, by simp; omega, ?_, ?_, ?_, ?_, ?_, ?_, ?_, ?_, ?_⟩
    · simp only [XX, CC, Nat.reduceAdd, Nat.reduceSub, Nat.reduceLeDiff, Nat.reduceLT, Nat.reduceEqDiff, reduceIte, ↓reduceIte, Nat.reduceBEq]; rw [w64_nat (by omega)]
    · intro j hj
      rw [List.getElem?_set, if_neg (fun hbj => hj bo be bk bc (by rw [← hbj]; exact hb))]
      exact hf1 j hj
    all_goals simp only [XX, CC, Nat.reduceAdd, Nat.reduceSub, Nat.reduceLeDiff, Nat.reduceLT, Nat.reduceEqDiff, reduceIte, ↓reduceIte, Nat.reduceBEq]
    all_goals assumption
  · simp only [dec_f (show ¬ (i : Int) < l'.length by omega), XX, CC, Nat.reduceAdd, Nat.reduceSub, Nat.reduceLeDiff, Nat.reduceLT, Nat.reduceEqDiff, reduceIte, ↓reduceIte, Nat.reduceBEq]
    refine hK _ _ l' ho1 hl1 ht1 hf1 ⟨?_, ?_, ?_, ?_, ?_, ?_, ?_, ?_⟩ <;> simp only [XX, CC, Nat.reduceAdd, Nat.reduceSub, Nat.reduceLeDiff, Nat.reduceLT, Nat.reduceEqDiff, reduceIte, ↓reduceIte, Nat.reduceBEq]
    all_goals assumption

def memL2 : RC := r_w03_SpanMemory.body.snd.snd.snd.snd.snd.snd.snd.snd.snd.snd.snd.snd.snd.snd.fst.snd
set_option maxHeartbeats 4000000 in
theorem mem_fill2 (t : St) (va : AV) (l : List (Nat × Nat)) (n : Nat) (e : Env) (Q : XE → Env → St → Prop) (ho : Own n 4 cR t va l) (hl : l.length < 1000000) (gv : e.get 12 = va) (gi : e.get 18 = .int .i64 0)
    (hK : ∀ e' t' l', Own n 4 cR t' va l' → l'.length = l.length → t'.length = t.length → (∀ i, (∀ o e' k c, va ≠ .sl i o e' k c) → t'[i]? = t[i]?) → (e'.get 5 = e.get 5 ∧ e'.get 6 = e.get 6 ∧ e'.get 7 = e.get 7 ∧ e'.get 8 = e.get 8 ∧ e'.get 10 = e.get 10 ∧ e'.get 12 = e.get 12 ∧ e'.get 14 = e.get 14 ∧ e'.get 16 = e.get 16) → Q .nrm e' t') : awp (Run T) memL2 Q e t := by
  simp only [memL2, r_w03_SpanMemory, RC.fst, RC.snd, XX, CC, Nat.reduceAdd, Nat.reduceSub, Nat.reduceLeDiff, Nat.reduceLT, Nat.reduceEqDiff, reduceIte, ↓reduceIte, Nat.reduceBEq]
  refine awp_rounds (fun d e1 t' => ∃ (i : Nat) (l' : List (Nat × Nat)), i + d = l.length ∧ e1.get 18 = .int .i64 i ∧ Own n 4 cR t' va l' ∧ l'.length = l.length ∧ t'.length = t.length ∧ (∀ i, (∀ o e' k c, va ≠ .sl i o e' k c) → t'[i]? = t[i]?) ∧ e1.get 5 = e.get 5 ∧ e1.get 6 = e.get 6 ∧ e1.get 7 = e.get 7 ∧ e1.get 8 = e.get 8 ∧ e1.get 10 = e.get 10 ∧ e1.get 12 = e.get 12 ∧ e1.get 14 = e.get 14 ∧ e1.get 16 = e.get 16) l.length ?_ ?_
  · exact ⟨0, l, by omega, gi, ho, rfl, rfl, fun _ _ => rfl, rfl, rfl, rfl, rfl, rfl, rfl, rfl, rfl⟩
  rintro J d e1 t1 hJ ⟨i, l', hi, gi, ho1, hl1, ht1, hf1, g5, g6, g7, g8, g10, g12, g14, g16⟩
  have hlen := (ho1.rd cR_len).len
  have gv1 : e1.get 12 = va := g12.trans gv
  simp only [XX, CC, Nat.reduceAdd, Nat.reduceSub, Nat.reduceLeDiff, Nat.reduceLT, Nat.reduceEqDiff, reduceIte, ↓reduceIte, Nat.reduceBEq, gi, gv1, hlen]
  by_cases h : i < l.length
  · obtain ⟨b, x, h1, ⟨bo, be, bk, bc, hb⟩, h2, h3, h4⟩ := own_at ho1 (i := i) (by omega) (9, 9)
    simp only [dec_t (show (i : Int) < l'.length by omega), XX, CC, Nat.reduceAdd, Nat.reduceSub, Nat.reduceLeDiff, Nat.reduceLT, Nat.reduceEqDiff, reduceIte, ↓reduceIte, Nat.reduceBEq, gi, gv1]
    refine (small_r _ 9 9 (by decide) (by decide)).use ?_
    simp only [XX, CC, Nat.reduceAdd, Nat.reduceSub, Nat.reduceLeDiff, Nat.reduceLT, Nat.reduceEqDiff, reduceIte, ↓reduceIte, Nat.reduceBEq, gi, gv1, h2, h3]
    refine hJ (d - 1) _ _ (by omega) ⟨i + 1, l'.set i (9, 9), by omega, ?_, h4, by simp; omega, by simp; omega, ?_, ?_, ?_, ?_, ?_, ?_, ?_, ?_, ?_⟩
    · simp only [XX, CC, Nat.reduceAdd, Nat.reduceSub, Nat.reduceLeDiff, Nat.reduceLT, Nat.reduceEqDiff, reduceIte, ↓reduceIte, Nat.reduceBEq]; rw [w64_nat (by omega)]
    · intro j hj
      rw [List.getElem?_set, if_neg (fun hbj => hj bo be bk bc (by rw [← hbj]; exact hb))]
      exact hf1 j hj
    all_goals simp only [XX, CC, Nat.reduceAdd, Nat.reduceSub, Nat.reduceLeDiff, Nat.reduceLT, Nat.reduceEqDiff, reduceIte, ↓reduceIte, Nat.reduceBEq]
    all_goals assumption
  · simp only [dec_f (show ¬ (i : Int) < l'.length by omega), XX, CC, Nat.reduceAdd, Nat.reduceSub, Nat.reduceLeDiff, Nat.reduceLT, Nat.reduceEqDiff, reduceIte, ↓reduceIte, Nat.reduceBEq]
    refine hK _ _ l' ho1 hl1 ht1 hf1 ⟨?_, ?_, ?_, ?_, ?_, ?_, ?_, ?_⟩ <;> simp only [XX, CC, Nat.reduceAdd, Nat.reduceSub, Nat.reduceLeDiff, Nat.reduceLT, Nat.reduceEqDiff, reduceIte, ↓reduceIte, Nat.reduceBEq]
    all_goals assumption

def memL3 : RC := r_w03_SpanMemory.body.snd.snd.snd.snd.snd.snd.snd.snd.snd.snd.snd.snd.snd.snd.snd.fst.snd
set_option maxHeartbeats 4000000 in
theorem mem_fill3 (t : St) (va : AV) (l : List (Nat × Nat)) (n : Nat) (e : Env) (Q : XE → Env → St → Prop) (ho : Own n 4 cR t va l) (hl : l.length < 1000000) (gv : e.get 14 = va) (gi : e.get 19 = .int .i64 0)
    (hK : ∀ e' t' l', Own n 4 cR t' va l' → l'.length = l.length → t'.length = t.length → (∀ i, (∀ o e' k c, va ≠ .sl i o e' k c) → t'[i]? = t[i]?) → (e'.get 5 = e.get 5 ∧ e'.get 6 = e.get 6 ∧ e'.get 7 = e.get 7 ∧ e'.get 8 = e.get 8 ∧ e'.get 10 = e.get 10 ∧ e'.get 12 = e.get 12 ∧ e'.get 14 = e.get 14 ∧ e'.get 16 = e.get 16) → Q .nrm e' t') : awp (Run T) memL3 Q e t := by
  simp only [memL3, r_w03_SpanMemory, RC.fst, RC.snd, XX, CC, Nat.reduceAdd, Nat.reduceSub, Nat.reduceLeDiff, Nat.reduceLT, Nat.reduceEqDiff, reduceIte, ↓reduceIte, Nat.reduceBEq]
  refine awp_rounds (fun d e1 t' => ∃ (i : Nat) (l' : List (Nat × Nat)), i + d = l.length ∧ e1.get 19 = .int .i64 i ∧ Own n 4 cR t' va l' ∧ l'.length = l.length ∧ t'.length = t.length ∧ (∀ i, (∀ o e' k c, va ≠ .sl i o e' k c) → t'[i]? = t[i]?) ∧ e1.get 5 = e.get 5 ∧ e1.get 6 = e.get 6 ∧ e1.get 7 = e.get 7 ∧ e1.get 8 = e.get 8 ∧ e1.get 10 = e.get 10 ∧ e1.get 12 = e.get 12 ∧ e1.get 14 = e.get 14 ∧ e1.get 16 = e.get 16) l.length ?_ ?_
  · exact ⟨0, l, by omega, gi, ho, rfl, rfl, fun _ _ => rfl, rfl, rfl, rfl, rfl, rfl, rfl, rfl, rfl⟩
  rintro J d e1 t1 hJ ⟨i, l', hi, gi, ho1, hl1, ht1, hf1, g5, g6, g7, g8, g10, g12, g14, g16⟩
  have hlen := (ho1.rd cR_len).len
  have gv1 : e1.get 14 = va := g14.trans gv
  simp only [XX, CC, Nat.reduceAdd, Nat.reduceSub, Nat.reduceLeDiff, Nat.reduceLT, Nat.reduceEqDiff, reduceIte, ↓reduceIte, Nat.reduceBEq, gi, gv1, hlen]
  by_cases h : i < l.length
  · obtain ⟨b, x, h1, ⟨bo, be, bk, bc, hb⟩, h2, h3, h4⟩ := own_at ho1 (i := i) (by omega) (9, 9)
    simp only [dec_t (show (i : Int) < l'.length by omega), XX, CC, Nat.reduceAdd, Nat.reduceSub, Nat.reduceLeDiff, Nat.reduceLT, Nat.reduceEqDiff, reduceIte, ↓reduceIte, Nat.reduceBEq, gi, gv1]
    refine (small_r _ 9 9 (by decide) (by decide)).use ?_
    simp only [XX, CC, Nat.reduceAdd, Nat.reduceSub, Nat.reduceLeDiff, Nat.reduceLT, Nat.reduceEqDiff, reduceIte, ↓reduceIte, Nat.reduceBEq, gi, gv1, h2, h3]
    refine hJ (d - 1) _ _ (by omega) ⟨i + 1, l'.set i (9, 9), by omega, ?_, h4, by simp; omega, by simp; omega, ?_, ?_, ?_, ?_, ?_, ?_, ?_, ?_, ?_⟩
    · simp only [XX, CC, Nat.reduceAdd, Nat.reduceSub, Nat.reduceLeDiff, Nat.reduceLT, Nat.reduceEqDiff, reduceIte, ↓reduceIte, Nat.reduceBEq]; rw [w64_nat (by omega)]
    · intro j hj
      rw [List.getElem?_set, if_neg (fun hbj => hj bo be bk bc (by rw [← hbj]; exact hb))]
      exact hf1 j hj
    all_goals simp only [XX, CC, Nat.reduceAdd, Nat.reduceSub, Nat.reduceLeDiff, Nat.reduceLT, Nat.reduceEqDiff, reduceIte, ↓reduceIte, Nat.reduceBEq]
    all_goals assumption
  · simp only [dec_f (show ¬ (i : Int) < l'.length by omega), XX, CC, Nat.reduceAdd, Nat.reduceSub, Nat.reduceLeDiff, Nat.reduceLT, Nat.reduceEqDiff, reduceIte, ↓reduceIte, Nat.reduceBEq]
    refine hK _ _ l' ho1 hl1 ht1 hf1 ⟨?_, ?_, ?_, ?_, ?_, ?_, ?_, ?_⟩ <;> simp only [XX, CC, Nat.reduceAdd, Nat.reduceSub, Nat.reduceLeDiff, Nat.reduceLT, Nat.reduceEqDiff, reduceIte, ↓reduceIte, Nat.reduceBEq]
    all_goals assumption

def memB (L1 L2 L3 : RC) : RC :=
  let b := r_w03_SpanMemory.body
  let c := b.snd.snd.snd.snd.snd.snd
  let d := c.snd.snd.snd.snd.snd.snd
  .seq b.fst (.seq b.snd.fst (.seq b.snd.snd.fst (.seq b.snd.snd.snd.fst (.seq b.snd.snd.snd.snd.fst (.seq b.snd.snd.snd.snd.snd.fst
    (.seq c.fst (.seq c.snd.fst (.seq c.snd.snd.fst (.seq c.snd.snd.snd.fst (.seq c.snd.snd.snd.snd.fst (.seq c.snd.snd.snd.snd.snd.fst
      (.seq d.fst (.seq (.seq d.snd.fst.fst L1) (.seq (.seq d.snd.snd.fst.fst L2) (.seq (.seq d.snd.snd.snd.fst.fst L3) d.snd.snd.snd.snd)))))))))))))))

set_option maxHeartbeats 8000000 in
theorem memory_r (s : St) (v : AV) (l : List (Nat × Nat)) (r1 r2 : Nat) (hl : l.length < 4611686018427387904) (hw : Wf l) (hv : Rd 4 cR s v l) (h1 : r1 < 340282366920938463463374607431768211456) (h2 : r2 < 340282366920938463463374607431768211456) :
    Run T f_w03_SpanMemory [v, aR (r1, r2)] s (fun r _ => r = .bool true) := by
  have hS : Snd 340282366920938463463374607431768211456 0 (builtL [] (l.take 200)) := builtL_snd trivial fun r hr => hw r (List.mem_of_mem_take hr)
  have hlen : (builtL [] (l.take 200)).length ≤ 200 := by
    have := builtL_len (l.take 200) []
    simp at this; omega
  have hb := built_r (s ++ [.cells true (cR (r1, r2))]) v l hl hw (hv.ext ⟨_, rfl⟩)
  generalize builtL [] (l.take 200) = S at hS hlen hb
  have wS := Snd.toWf hS
  have oS := (sndB_iff wS).2 hS
  have hput := fun t vs => put_r t vs S r1 r2 (by omega) wS h1 h2
  have hdrop := fun t vs => drop_r t vs S r1 r2 (by omega) wS h1 h2
  have hless := fun t vs => less_r t vs .nils S [] (by simp; omega) wS (fun r hr => by simp at hr)
  have lA := if_len (put_len (a := r1) (b := r2) wS)
  have lD := if_len (c := sndB 0 S && decide (r1 ≤ r2)) fun _ => dropL_length r1 r2 S
  unfold Ans at hput hdrop
  generalize (if (sndB 0 S && decide (r1 ≤ r2)) then (putL [] [] r1 r2 S) else []) = A at hput lA
  generalize (if (sndB 0 S && decide (r1 ≤ r2)) then (dropL r1 r2 S) else []) = D at hdrop lD
  generalize (if (sndB 0 S && decide (r1 ≤ r2)) then (0 : Int) else 1) = c0 at hput hdrop
  have b00 : ((0 : Int) == 0) = true := rfl
  have hsame : ∀ (t : St) (v w : AV) (l : List (Nat × Nat)), l.length < 4611686018427387904 → Rd 4 cR t v l → Rd 4 cR t w l → RunD T f_w03_same [v, w] t (.bool true) t := fun t v w l hl hv hw => by
    have := same_r t v w l l hl hv hw
    rwa [dec_t rfl] at this
  have l2 : ∀ p q : Nat × Nat, setL (setL [AV.int IntKind.u64 0, AV.int IntKind.u64 0, AV.int IntKind.u64 0, AV.int IntKind.u64 0, AV.int IntKind.u64 0, AV.int IntKind.u64 0, AV.int IntKind.u64 0, AV.int IntKind.u64 0] 0 (cR p)) 4 (cR q) = [p, q].flatMap cR := fun _ _ => rfl
  have hq : ∀ q : Nat × Nat, eqA (.st (.sub 0 2 (.st (.one 0 .i (.one 1 .i .nil))) (.sub 2 2 (.st (.one 0 .i (.one 1 .i .nil))) .nil))) (aR q) (aR q) = some true := fun q => by rw [eq_R, dec_t rfl]
  refine run_body (F := r_w03_SpanMemory) rfl (by simp [r_w03_SpanMemory]) ?_
  obtain ⟨L1, hT1⟩ : ∃ c, c = memL1 := ⟨_, rfl⟩
  obtain ⟨L2, hT2⟩ : ∃ c, c = memL2 := ⟨_, rfl⟩
  obtain ⟨L3, hT3⟩ : ∃ c, c = memL3 := ⟨_, rfl⟩
  have f1 := mem_fill1
  have f2 := mem_fill2
  have f3 := mem_fill3
  rw [← hT1] at f1
  rw [← hT2] at f2
  rw [← hT3] at f3
  have hbody : r_w03_SpanMemory.body = memB L1 L2 L3 := by rw [hT1, hT2, hT3]; rfl
  rw [hbody]
  simp only [memB, r_w03_SpanMemory, RC.fst, RC.snd, XX, CC, Nat.reduceAdd, Nat.reduceSub, Nat.reduceLeDiff, Nat.reduceLT, Nat.reduceEqDiff, reduceIte, ↓reduceIte, Nat.reduceBEq]
  refine (awake_r _).use ?_
  simp only [XX, CC, Nat.reduceAdd, Nat.reduceSub, Nat.reduceLeDiff, Nat.reduceLT, Nat.reduceEqDiff, reduceIte, ↓reduceIte, Nat.reduceBEq, Bool.not_true]
  refine Run.mono _ _ _ _ _ ?_ hb
  intro vs t1 o1
  have x1 : Ext s t1 := Ext.trans ⟨_, rfl⟩ o1.ext
  have q1 : t1[s.length]? = some (.cells true (cR (r1, r2))) := o1.ext.get_some (by simp)
  have rS := o1.rd cR_len
  have lS := rS.len
  have hmk := mks_0 (s := t1) (e := 4) (by_ := 32) (z := [AV.int .u64 0, AV.int .u64 0, AV.int .u64 0, AV.int .u64 0]) (k := .i64) (n := S.length + 2) (by omega)
  have hZ : unders 0 (List.replicate (S.length + 2) [AV.int .u64 0, AV.int .u64 0, AV.int .u64 0, AV.int .u64 0]).flatten = true := unders_rep rfl _
  have hw2 : IntKind.i64.wrap ((S.length : Int) + 2) = ((S.length + 2 : Nat) : Int) := by rw [w64_in (by omega) (by omega)]; omega
  generalize (List.replicate (S.length + 2) [AV.int .u64 0, AV.int .u64 0, AV.int .u64 0, AV.int .u64 0]).flatten = Z at hmk hZ
  obtain ⟨v2, t2, a1, a2, a3, a4, a5, a6⟩ := own_app (by_ := 32) (n := t1.length) (t := t1 ++ [.cells true Z]) (v := .sl t1.length 0 4 0 none) (l := [])
    (.inr ⟨t1.length, none, Z, Nat.le_refl _, .inl rfl, rfl, by simp, hZ⟩) (by simp) (rS.ext ⟨_, rfl⟩) cR_len cR_cell (by simp; omega)
  have x2 : Ext t1 t2 := a5 t1 (Nat.le_refl _) ⟨_, rfl⟩
  rw [List.nil_append] at a2
  obtain ⟨v3, t3, c1, c2, c3, c4, c5, c6⟩ := own_app (by_ := 32) (y := .sl t2.length 0 4 2 (some 2)) (l2 := [(71, 71), (73, 73)]) (a2.app [.cells true ([(71, 71), (73, 73)].flatMap cR)]) (by have := x2.len; simp; omega) (rd_lit get_last cR_len rfl) cR_len cR_cell (by simp; omega)
  have x3 : Ext t1 t3 := c5 t1 (Nat.le_refl _) (x2.app _)
  simp only [XX, CC, Nat.reduceAdd, Nat.reduceSub, Nat.reduceLeDiff, Nat.reduceLT, Nat.reduceEqDiff, reduceIte, ↓reduceIte, Nat.reduceBEq, lS, hw2, hmk, a1]
  refine (small_r _ 71 71 (by decide) (by decide)).use ?_
  refine (small_r _ 73 73 (by decide) (by decide)).use ?_
  simp only [XX, CC, Nat.reduceAdd, Nat.reduceSub, Nat.reduceLeDiff, Nat.reduceLT, Nat.reduceEqDiff, reduceIte, ↓reduceIte, Nat.reduceBEq, l2, c1]
  have rM := c2.rd cR_len
  obtain ⟨v4, hs4, r4⟩ := rd_take rM cR_len (n := S.length) (by simp)
  rw [List.take_left'  rfl] at r4
  have q3 := x3.get_some q1
  have k3 := blkR q3
  refine drw_in [] rfl ?_
  simp only [List.append_nil, DD, CC, Nat.reduceAdd, Nat.reduceSub, Nat.reduceLeDiff, Nat.reduceLT, Nat.reduceEqDiff, reduceIte, ↓reduceIte, Nat.reduceBEq, hs4, k3]
  refine dr_calln (hput _ v4 r4) (fun v t h => by obtain ⟨_, _, o⟩ := h; exact o.ext) (by simp) (by simp) ?_
  rintro _ t4 ⟨va, rfl, o4⟩
  have k4 := blkR (o4.ext.get_some q3)
  simp only [DD, CC, Nat.reduceAdd, Nat.reduceSub, Nat.reduceLeDiff, Nat.reduceLT, Nat.reduceEqDiff, reduceIte, ↓reduceIte, Nat.reduceBEq]
  refine drw_in [] rfl ?_
  simp only [List.append_nil, DD, CC, Nat.reduceAdd, Nat.reduceSub, Nat.reduceLeDiff, Nat.reduceLT, Nat.reduceEqDiff, reduceIte, ↓reduceIte, Nat.reduceBEq, hs4, k4]
  refine dr_calln (hput _ v4 (r4.ext o4.ext)) (fun v t h => by obtain ⟨_, _, o⟩ := h; exact o.ext) (by simp) (by simp) ?_
  rintro _ t5 ⟨vb, rfl, o5⟩
  have k5 := blkR ((o4.ext.trans o5.ext).get_some q3)
  simp only [DD, CC, Nat.reduceAdd, Nat.reduceSub, Nat.reduceLeDiff, Nat.reduceLT, Nat.reduceEqDiff, reduceIte, ↓reduceIte, Nat.reduceBEq, XX, CC, Nat.reduceAdd, Nat.reduceSub, Nat.reduceLeDiff, Nat.reduceLT, Nat.reduceEqDiff, reduceIte, ↓reduceIte, Nat.reduceBEq, hs4]
  refine Run.mono _ _ _ _ _ ?_ (hless _ v4 (r4.ext (o4.ext.trans o5.ext)) Rd.nil)
  intro r t6 h
  obtain ⟨vc, rfl, o6⟩ := h.yes (by rw [oS]; rfl) rfl
  have o6 : Out 4 cR t5 S vc t6 := o6
  have k6 := blkR ((o4.ext.trans (o5.ext.trans o6.ext)).get_some q3)
  simp only [XX, CC, Nat.reduceAdd, Nat.reduceSub, Nat.reduceLeDiff, Nat.reduceLT, Nat.reduceEqDiff, reduceIte, ↓reduceIte, Nat.reduceBEq]
  refine drw_in [] rfl ?_
  simp only [List.append_nil, DD, CC, Nat.reduceAdd, Nat.reduceSub, Nat.reduceLeDiff, Nat.reduceLT, Nat.reduceEqDiff, reduceIte, ↓reduceIte, Nat.reduceBEq, hs4, k6]
  refine dr_calln (hdrop _ v4 (r4.ext (o4.ext.trans (o5.ext.trans o6.ext)))) (fun v t h => by obtain ⟨_, _, o⟩ := h; exact o.ext) (by simp) (by simp) ?_
  rintro _ t7 ⟨vd, rfl, o7⟩
  have x37 := o4.ext.trans (o5.ext.trans (o6.ext.trans o7.ext))
  have rA := (o4.rd cR_len).ext (o5.ext.trans (o6.ext.trans o7.ext))
  have rB := (o5.rd cR_len).ext (o6.ext.trans o7.ext)
  have rC := (o6.rd cR_len).ext o7.ext
  have rS7 := rS.ext (x3.trans x37)
  have r47 := r4.ext x37
  have rM7 := rM.ext x37
  obtain ⟨b5, p5, i5, e5⟩ := rdR rM7 (i := S.length) (q := (71, 71)) (by simp)
  obtain ⟨b6, p6, i6, e6⟩ := rdR rM7 (i := S.length + 1) (q := (73, 73)) (by simp)
  simp only [DD, CC, Nat.reduceAdd, Nat.reduceSub, Nat.reduceLeDiff, Nat.reduceLT, Nat.reduceEqDiff, reduceIte, ↓reduceIte, Nat.reduceBEq]
  refine drw_in [] rfl ?_
  simp only [List.append_nil, DD, CC, Nat.reduceAdd, Nat.reduceSub, Nat.reduceLeDiff, Nat.reduceLT, Nat.reduceEqDiff, reduceIte, ↓reduceIte, Nat.reduceBEq, beq_self_eq_true, b00, Bool.not_true]
  refine dr_call (hsame _ _ _ A (by omega) rA rB) ?_
  simp only [DD, CC, Nat.reduceAdd, Nat.reduceSub, Nat.reduceLeDiff, Nat.reduceLT, Nat.reduceEqDiff, reduceIte, ↓reduceIte, Nat.reduceBEq, Bool.not_true]
  refine dr_call (hsame _ _ _ S (by omega) rC rS7) ?_
  simp only [DD, CC, Nat.reduceAdd, Nat.reduceSub, Nat.reduceLeDiff, Nat.reduceLT, Nat.reduceEqDiff, reduceIte, ↓reduceIte, Nat.reduceBEq, Bool.not_true, hs4]
  refine dr_call (hsame _ _ _ S (by omega) r47 rS7) ?_
  simp only [DD, CC, Nat.reduceAdd, Nat.reduceSub, Nat.reduceLeDiff, Nat.reduceLT, Nat.reduceEqDiff, reduceIte, ↓reduceIte, Nat.reduceBEq, Bool.not_true, i5, e5]
  refine dr_call (small_r _ 71 71 (by decide) (by decide)) ?_
  simp only [DD, CC, Nat.reduceAdd, Nat.reduceSub, Nat.reduceLeDiff, Nat.reduceLT, Nat.reduceEqDiff, reduceIte, ↓reduceIte, Nat.reduceBEq, hq, Bool.not_true, w64_nat (show S.length < 4611686018427387904 by omega), i6, e6]
  refine dr_call (small_r _ 73 73 (by decide) (by decide)) ?_
  simp only [DD, CC, Nat.reduceAdd, Nat.reduceSub, Nat.reduceLeDiff, Nat.reduceLT, Nat.reduceEqDiff, reduceIte, ↓reduceIte, Nat.reduceBEq, hq, Bool.not_true]
  obtain ⟨vw, t8, d1, d2, d3, d4, d5, d6⟩ := own_app (by_ := 32) (n := t7.length) (t := t7 ++ [.cells true []]) (v := .sl t7.length 0 4 0 (some 0)) (l := []) (.inr ⟨t7.length, some 0, [], Nat.le_refl _, .inr rfl, rfl, get_last, rfl⟩) (by simp) (rB.ext ⟨_, rfl⟩) cR_len cR_cell (by simp; omega)
  have x8 : Ext t7 t8 := d5 t7 (Nat.le_refl _) ⟨_, rfl⟩
  rw [List.nil_append] at d2
  have n13 := x3.len
  have n34 := o4.ext.len
  have n45 := o5.ext.len
  have n56 := o6.ext.len
  have n67 := o7.ext.len
  have n78 := x8.len
  have ra4 := o4.rd cR_len
  have rc6 := o6.rd cR_len
  have rd7 := o7.rd cR_len
  have hva : ∀ {i o e' k : Nat} {c : Option Nat}, va = .sl i o e' k c → t3.length ≤ i ∧ i < t4.length := fun h => ⟨o4.own.ge h, ra4.lt h⟩
  have hvc : ∀ {i o e' k : Nat} {c : Option Nat}, vc = .sl i o e' k c → t5.length ≤ i ∧ i < t6.length := fun h => ⟨o6.own.ge h, rc6.lt h⟩
  have hvd : ∀ {i o e' k : Nat} {c : Option Nat}, vd = .sl i o e' k c → t6.length ≤ i ∧ i < t7.length := fun h => ⟨o7.own.ge h, rd7.lt h⟩
  have ownx : ∀ {n : Nat} {t t' : St} {v : AV} {l : List (Nat × Nat)}, Own n 4 cR t v l → Ext t t' → Own n 4 cR t' v l := fun h x => by obtain ⟨z, rfl⟩ := x; exact h.app z
  simp only [XX, CC, Nat.reduceAdd, Nat.reduceSub, Nat.reduceLeDiff, Nat.reduceLT, Nat.reduceEqDiff, reduceIte, ↓reduceIte, Nat.reduceBEq, d1]
  refine f1 t8 va A t3.length _ _ (ownx o4.own (o5.ext.trans (o6.ext.trans (o7.ext.trans x8)))) (by omega) ?_ ?_ ?_
  · simp only [XX, CC, Nat.reduceAdd, Nat.reduceSub, Nat.reduceLeDiff, Nat.reduceLT, Nat.reduceEqDiff, reduceIte, ↓reduceIte, Nat.reduceBEq]
  · simp only [XX, CC, Nat.reduceAdd, Nat.reduceSub, Nat.reduceLeDiff, Nat.reduceLT, Nat.reduceEqDiff, reduceIte, ↓reduceIte, Nat.reduceBEq]
  rintro e9 t9 l9 h9 hl9 ht9 hf9 ⟨g5, g6, g7, g8, g10, g12, g14, g16⟩
  simp only [XX, CC, Nat.reduceAdd, Nat.reduceSub, Nat.reduceLeDiff, Nat.reduceLT, Nat.reduceEqDiff, reduceIte, ↓reduceIte, Nat.reduceBEq] at g5 g6 g7 g8 g10 g12 g14 g16
  (try simp only [XX, CC, Nat.reduceAdd, Nat.reduceSub, Nat.reduceLeDiff, Nat.reduceLT, Nat.reduceEqDiff, reduceIte, ↓reduceIte, Nat.reduceBEq])
  refine f2 t9 vc S t5.length _ _ ((ownx o6.own (o7.ext.trans x8)).keep fun b hb ⟨_, _, _, _, hv⟩ => hf9 b fun _ _ _ _ h => by have := (hva h).2; omega) (by omega) ?_ ?_ ?_
  · simp only [XX, CC, Nat.reduceAdd, Nat.reduceSub, Nat.reduceLeDiff, Nat.reduceLT, Nat.reduceEqDiff, reduceIte, ↓reduceIte, Nat.reduceBEq, g12]
  · simp only [XX, CC, Nat.reduceAdd, Nat.reduceSub, Nat.reduceLeDiff, Nat.reduceLT, Nat.reduceEqDiff, reduceIte, ↓reduceIte, Nat.reduceBEq]
  rintro e10 t10 l10 h10 hl10 ht10 hf10 ⟨g5', g6', g7', g8', g10', g12', g14', g16'⟩
  simp only [XX, CC, Nat.reduceAdd, Nat.reduceSub, Nat.reduceLeDiff, Nat.reduceLT, Nat.reduceEqDiff, reduceIte, ↓reduceIte, Nat.reduceBEq, g5, g6, g7, g8, g10, g12, g14, g16] at g5' g6' g7' g8' g10' g12' g14' g16'
  (try simp only [XX, CC, Nat.reduceAdd, Nat.reduceSub, Nat.reduceLeDiff, Nat.reduceLT, Nat.reduceEqDiff, reduceIte, ↓reduceIte, Nat.reduceBEq])
  refine f3 t10 vd D t6.length _ _ ((ownx o7.own x8).keep fun b hb ⟨_, _, _, _, hv⟩ => by
    rw [hf10 b fun _ _ _ _ h => by have := (hvc h).2; omega]
    exact hf9 b fun _ _ _ _ h => by have := (hva h).2; omega) (by omega) ?_ ?_ ?_
  · simp only [XX, CC, Nat.reduceAdd, Nat.reduceSub, Nat.reduceLeDiff, Nat.reduceLT, Nat.reduceEqDiff, reduceIte, ↓reduceIte, Nat.reduceBEq, g14']
  · simp only [XX, CC, Nat.reduceAdd, Nat.reduceSub, Nat.reduceLeDiff, Nat.reduceLT, Nat.reduceEqDiff, reduceIte, ↓reduceIte, Nat.reduceBEq]
  rintro e11 t11 l11 h11 hl11 ht11 hf11 ⟨k5, k6, k7, k8, k10, k12, k14, k16⟩
  simp only [XX, CC, Nat.reduceAdd, Nat.reduceSub, Nat.reduceLeDiff, Nat.reduceLT, Nat.reduceEqDiff, reduceIte, ↓reduceIte, Nat.reduceBEq, g5', g6', g7', g8', g10', g12', g14', g16'] at k5 k6 k7 k8 k10 k12 k14 k16
  have ha11 : Own t3.length 4 cR t11 va l9 := h9.keep fun b hb ⟨_, _, _, _, hv⟩ => by
    have := (hva hv).2
    rw [hf11 b fun _ _ _ _ h => by have := (hvd h).1; omega]
    exact hf10 b fun _ _ _ _ h => by have := (hvc h).1; omega
  obtain ⟨vz, t12, m1, m2, m3, m4, m5, m6⟩ := own_app (by_ := 32) (y := .sl t11.length 0 4 2 (some 2)) (l2 := [(8, 8), (8, 8)]) (ha11.app [.cells true ([(8, 8), (8, 8)].flatMap cR)]) (by simp; omega) (rd_lit get_last cR_len rfl) cR_len cR_cell (by simp; omega)
  have hkeep : ∀ (w : AV) (l : List (Nat × Nat)), Rd 4 cR t8 w l → (∀ i o e' k c, w = .sl i o e' k c → (∀ o e' k c, va ≠ .sl i o e' k c) ∧ (∀ o e' k c, vc ≠ .sl i o e' k c) ∧ (∀ o e' k c, vd ≠ .sl i o e' k c)) → Rd 4 cR t12 w l := by
    intro w l hr hok
    refine hr.keep (fun i o e' k c hw => ?_) (by simp only [List.length_append, List.length_singleton] at m3; omega)
    obtain ⟨q1, q2, q3⟩ := hok i o e' k c hw
    have hi := hr.lt hw
    rw [m4 i (by simp; omega) q1, List.getElem?_append_left (by omega), hf11 i q3, hf10 i q2, hf9 i q1]
  have rB12 := hkeep vb A (rB.ext x8) fun i o e' k c hw => by
    have h1 := o5.own.ge hw
    have h2 := (o5.rd cR_len).lt hw
    refine ⟨fun _ _ _ _ h => ?_, fun _ _ _ _ h => ?_, fun _ _ _ _ h => ?_⟩
    · have := (hva h).2; omega
    · have := (hvc h).1; omega
    · have := (hvd h).1; omega
  have rW12 := hkeep vw A (d2.rd cR_len) fun i o e' k c hw => by
    have h1 := d2.ge hw
    refine ⟨fun _ _ _ _ h => ?_, fun _ _ _ _ h => ?_, fun _ _ _ _ h => ?_⟩
    · have := (hva h).2; omega
    · have := (hvc h).2; omega
    · have := (hvd h).2; omega
  have low : ∀ {w : AV} {l : List (Nat × Nat)} (t : St), Rd 4 cR t w l → Ext t t8 → t.length ≤ t3.length → Rd 4 cR t12 w l := fun {w l} t hr hx hlt => hkeep w l (hr.ext hx) fun i o e' k c hw => by
    have h2 := hr.lt hw
    refine ⟨fun _ _ _ _ h => ?_, fun _ _ _ _ h => ?_, fun _ _ _ _ h => ?_⟩
    · have := (hva h).1; omega
    · have := (hvc h).1; omega
    · have := (hvd h).1; omega
  have rS12 := low t1 rS (x3.trans (x37.trans x8)) n13
  have r412 := low t3 r4 (x37.trans x8) (Nat.le_refl _)
  have lz := (m2.rd cR_len).len
  have lb := rB12.len
  have hA2 : IntKind.i64.wrap ((A.length : Int) + 2) = ((l9.length + 2 : Nat) : Int) := by rw [hl9, w64_in (by omega) (by omega)]; omega
  simp only [XX, CC, Nat.reduceAdd, Nat.reduceSub, Nat.reduceLeDiff, Nat.reduceLT, Nat.reduceEqDiff, reduceIte, ↓reduceIte, Nat.reduceBEq, k8]
  refine (small_r _ 8 8 (by decide) (by decide)).use ?_
  refine (small_r _ 8 8 (by decide) (by decide)).use ?_
  simp only [XX, CC, Nat.reduceAdd, Nat.reduceSub, Nat.reduceLeDiff, Nat.reduceLT, Nat.reduceEqDiff, reduceIte, ↓reduceIte, Nat.reduceBEq, l2, m1, k10, k16]
  refine (hsame _ _ _ A (by omega) rB12 rW12).use ?_
  simp only [XX, CC, Nat.reduceAdd, Nat.reduceSub, Nat.reduceLeDiff, Nat.reduceLT, Nat.reduceEqDiff, reduceIte, ↓reduceIte, Nat.reduceBEq, k7, k6, k5, hs4]
  refine (hsame _ _ _ S (by omega) r412 rS12).use ?_
  simp only [XX, CC, Nat.reduceAdd, Nat.reduceSub, Nat.reduceLeDiff, Nat.reduceLT, Nat.reduceEqDiff, reduceIte, ↓reduceIte, Nat.reduceBEq, k10, lz, lb, hA2, beq_self_eq_true]
  have xs8 : Ext s t8 := x1.trans (x3.trans (x37.trans x8))
  have ns := x1.len
  refine ret_drop (k := fun r _ => r = AV.bool true) (m5 s (by omega) (Ext.app (ext_get fun i hi => ?_) _)) rfl rfl
  rw [hf11 i fun _ _ _ _ h => by have := (hvd h).1; omega, hf10 i fun _ _ _ _ h => by have := (hvc h).1; omega, hf9 i fun _ _ _ _ h => by have := (hva h).1; omega]
  exact xs8.get hi
end Go.Ev
