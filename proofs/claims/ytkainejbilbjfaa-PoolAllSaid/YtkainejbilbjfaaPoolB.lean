import Derived.Test.YtkainejbilbjfaaPoolA
/-! pool's laws: few; a small sort; Own of three leases. -/
namespace Go.Ev
set_option linter.unusedVariables false
set_option linter.unusedSimpArgs false
open Go.Ev.Sp

def cU (n : Nat) : List AV := [.int .u64 n]
theorem cU_len (n : Nat) : (cU n).length = 1 := rfl
theorem aA_small {n : Nat} (h : n < 18446744073709551616) : AV.agg [.int .u64 0, .int .u64 n] = aA n := by
  have : H n = 0 ∧ L n = n := by unfold H L; omega
  show _ = AV.agg [.int .u64 (H n), .int .u64 (L n)]
  rw [this.1, this.2]
theorem cA_small {n : Nat} (h : n < 18446744073709551616) : [AV.int .u64 0, AV.int .u64 n] = cA n := by
  have : H n = 0 ∧ L n = n := by unfold H L; omega
  show _ = [AV.int .u64 (H n), AV.int .u64 (L n)]
  rw [this.1, this.2]

set_option maxHeartbeats 4000000 in
/-- few -/
theorem few_r (s : St) (v : AV) (l : List Nat) (hl : l.length < 1000000) (hw : ∀ x ∈ l, x < 18446744073709551616) (hv : Rd 1 cU s v l) : Run T f_w12_few [v] s (Out 2 cA s l) := by
  refine run_body (F := r_w12_few) rfl (by simp [r_w12_few]) ?_
  have hmk := mks_0 (s := s) (e := 2) (by_ := 16) (z := [AV.int .u64 0, AV.int .u64 0]) (k := .i64) (n := l.length) (by omega)
  have hZ : unders 0 (List.replicate l.length [AV.int .u64 0, AV.int .u64 0]).flatten = true := unders_rep rfl _
  generalize (List.replicate l.length [AV.int .u64 0, AV.int .u64 0]).flatten = Z at hmk hZ
  simp only [r_w12_few, XX, CC, Nat.reduceAdd, Nat.reduceSub, Nat.reduceLeDiff, Nat.reduceLT, Nat.reduceEqDiff, reduceIte, ↓reduceIte, Nat.reduceBEq, hv.len, hmk]
  refine awp_rounds (fun d e t => Ext s t ∧ ∃ (i : Nat) (vo : AV), i + d = l.length ∧ e.get 0 = v ∧ e.get 3 = vo ∧ e.get 4 = .int .i64 i ∧ Own s.length 2 cA t vo (l.take i)) l.length ?_ ?_
  · refine ⟨⟨_, rfl⟩, 0, .sl s.length 0 2 0 none, by omega, ?_, ?_, ?_, ?_⟩ <;> (try simp only [XX, CC, Nat.reduceAdd, Nat.reduceSub, Nat.reduceLeDiff, Nat.reduceLT, Nat.reduceEqDiff, reduceIte, ↓reduceIte, Nat.reduceBEq]) <;> (try rfl)
    exact .inr ⟨s.length, none, Z, Nat.le_refl _, .inl rfl, rfl, by simp, hZ⟩
  rintro J d e t hJ ⟨hx, i, vo, hi, g0, g3, g4, ho⟩
  have hvt := hv.ext hx
  simp only [XX, CC, Nat.reduceAdd, Nat.reduceSub, Nat.reduceLeDiff, Nat.reduceLT, Nat.reduceEqDiff, reduceIte, ↓reduceIte, Nat.reduceBEq, g0, g3, g4, hvt.len]
  by_cases h : i < l.length
  · obtain ⟨n, hn, hd⟩ := drop_get h
    have hnw := hw n (List.mem_of_getElem? hn)
    obtain ⟨b2, o2, h1, h2⟩ := hvt.get cU_len hn
    have h3 := h2 none 0 (.int .u64 n) rfl
    rw [Nat.add_zero] at h3
    obtain ⟨v', t', e1, e2, e3, e4, e5, e6⟩ := own_app (by_ := 16) (y := .sl t.length 0 2 1 (some 1)) (l2 := [n]) (ho.app [.cells true (cA n)]) (by have := hx.len; simp; omega) (rd_lit (by simp) cA_len rfl) cA_len cA_cell (by simp; omega)
    simp only [dec_t (show (i : Int) < l.length by omega), XX, CC, Nat.reduceAdd, Nat.reduceSub, Nat.reduceLeDiff, Nat.reduceLT, Nat.reduceEqDiff, reduceIte, ↓reduceIte, Nat.reduceBEq, g0, g3, g4, h1, h3, cA_small hnw, e1]
    refine hJ (d - 1) _ _ (by omega) ⟨e5 s (Nat.le_refl _) (hx.app _), i + 1, v', by omega, ?_, ?_, ?_, ?_⟩ <;> (try simp only [XX, CC, Nat.reduceAdd, Nat.reduceSub, Nat.reduceLeDiff, Nat.reduceLT, Nat.reduceEqDiff, reduceIte, ↓reduceIte, Nat.reduceBEq, g0, g3, g4])
    · rw [w64_nat (by omega)]
    · rw [List.take_add_one, hn]; exact e2
  · simp only [dec_f (show ¬ (i : Int) < l.length by omega), XX, CC, Nat.reduceAdd, Nat.reduceSub, Nat.reduceLeDiff, Nat.reduceLT, Nat.reduceEqDiff, reduceIte, ↓reduceIte, Nat.reduceBEq, g3]
    rw [List.take_of_length_le (by omega)] at ho
    exact ret_own1 ho (Nat.le_refl _) hx cA_un fun v' s' h => h
end Go.Ev
