import Derived.Test.YtkainejbilbjfaaPoolC
/-! A sort of two addresses; what is the same beside one another is taken out. -/
namespace Go.Ev
set_option linter.unusedVariables false
set_option linter.unusedSimpArgs false
open Go.Ev.Sp

def drCalld (T : Nat → Option RF) (n0 : Nat) (d : Option Nat) (v : AV) (xs : List AV) (cl fr : List Nat) (i : Nat) (H : List (Nat × St × St)) (L : List (Nat × Nat)) (e : Env) (s : St) (next : DrK) : Prop := match v with
  | .fn f cs => drCall T n0 d f (xs ++ cs) cl fr i H L e s next
  | _ => False
theorem dr_calldX {T : Nat → Option RF} {n0 : Nat} {bs : List Blk} {d : Option Nat} {g : Option (Nat × Bool)} {x : RX} {xs : List RX} {cl fr : List Nat} {i : Nat} {H : List (Nat × St × St)} {L : List (Nat × Nat)} {e : Env} {s : St} {next : DrK} :
    drStep (Run T) n0 bs ⟨⟨d, g, .calld x xs⟩, .eff, cl, fr⟩ i H L e s next = drCalld T n0 d (x.ev e) (evs e xs) cl fr i H L e s next := by
  simp only [drStep, opA, drCalld]
  cases x.ev e <;> simp <;> rfl
theorem drCalld_fn {T : Nat → Option RF} {n0 : Nat} {d : Option Nat} {f : Nat} {cs xs : List AV} {cl fr : List Nat} {i : Nat} {H : List (Nat × St × St)} {L : List (Nat × Nat)} {e : Env} {s : St} {next : DrK} : drCalld T n0 d (.fn f cs) xs cl fr i H L e s next = drCall T n0 d f (xs ++ cs) cl fr i H L e s next := rfl

set_option maxHeartbeats 4000000 in
/-- An insertion sort of two, the second being the lower. -/
theorem ins2_r (t : St) (v : AV) (x y : Nat) (b : Nat) (t1 t2 : St) (hxy : y < x) (hb : b < t.length)
    (ix0 : ixaA 2 v (.int .i64 0) = some (.ptr b 0)) (ix1 : ixaA 2 v (.int .i64 1) = some (.ptr b 2)) (l0 : ldA t (some 2) (.ptr b 0) = some (aA x)) (l1 : ldA t (some 2) (.ptr b 2) = some (aA y))
    (w1 : wrA t b 2 (cA x) = some t1) (w2 : wrA t1 b 0 (cA y) = some t2) :
    Run T f_slices_insertionSortCmpFunc_Addr [v, .int .i64 0, .int .i64 2, .fn f_addr_Cmp []] t fun r t' => t' = t2 := by
  refine run_body (F := r_slices_insertionSortCmpFunc_Addr) rfl (by simp [r_slices_insertionSortCmpFunc_Addr]) ?_
  have k1 : IntKind.i64.wrap (0 + 1) = 1 := by decide
  have k2 : IntKind.i64.wrap (1 - 1) = 0 := by decide
  have k3 : IntKind.i64.wrap (1 + 1) = 2 := by decide
  have d1 : decide ((1 : Int) < 2) = true := by decide
  have d2 : decide ((1 : Int) > 0) = true := by decide
  have d3 : decide ((0 : Int) > 0) = false := by decide
  have d4 : decide ((2 : Int) < 2) = false := by decide
  simp only [r_slices_insertionSortCmpFunc_Addr, XX, CC, Nat.reduceAdd, Nat.reduceSub, Nat.reduceLeDiff, Nat.reduceLT, Nat.reduceEqDiff, reduceIte, ↓reduceIte, Nat.reduceBEq, k1]
  refine awp_unroll ?_
  simp only [XX, CC, Nat.reduceAdd, Nat.reduceSub, Nat.reduceLeDiff, Nat.reduceLT, Nat.reduceEqDiff, reduceIte, ↓reduceIte, Nat.reduceBEq, d1]
  refine awp_unroll ?_
  simp only [XX, CC, Nat.reduceAdd, Nat.reduceSub, Nat.reduceLeDiff, Nat.reduceLT, Nat.reduceEqDiff, reduceIte, ↓reduceIte, Nat.reduceBEq]
  refine drw_in [] rfl ?_
  simp only [List.append_nil, DD, CC, Nat.reduceAdd, Nat.reduceSub, Nat.reduceLeDiff, Nat.reduceLT, Nat.reduceEqDiff, reduceIte, ↓reduceIte, Nat.reduceBEq, d2, ix0, ix1, l0, l1, k2, dr_calldX, drCalld_fn]
  refine dr_call (cmp_r _ y x) ?_
  simp only [DD, CC, Nat.reduceAdd, Nat.reduceSub, Nat.reduceLeDiff, Nat.reduceLT, Nat.reduceEqDiff, reduceIte, ↓reduceIte, Nat.reduceBEq, cmpN_dlt, dec_t hxy]
  refine drw_in [] rfl ?_
  simp only [List.append_nil, DD, CC, Nat.reduceAdd, Nat.reduceSub, Nat.reduceLeDiff, Nat.reduceLT, Nat.reduceEqDiff, reduceIte, ↓reduceIte, Nat.reduceBEq, k2, ix0, ix1, l0, l1, w1, w2, dr_stX, loopK_nrm]
  refine awp_unroll ?_
  simp only [XX, CC, Nat.reduceAdd, Nat.reduceSub, Nat.reduceLeDiff, Nat.reduceLT, Nat.reduceEqDiff, reduceIte, ↓reduceIte, Nat.reduceBEq]
  refine drw_in [] rfl ?_
  simp only [List.append_nil, DD, CC, Nat.reduceAdd, Nat.reduceSub, Nat.reduceLeDiff, Nat.reduceLT, Nat.reduceEqDiff, reduceIte, ↓reduceIte, Nat.reduceBEq, d3, k3, loopK_nrm]
  refine awp_unroll ?_
  simp only [XX, CC, Nat.reduceAdd, Nat.reduceSub, Nat.reduceLeDiff, Nat.reduceLT, Nat.reduceEqDiff, reduceIte, ↓reduceIte, Nat.reduceBEq, d4]
  exact .inl rfl

set_option maxHeartbeats 4000000 in
theorem sort2_r (t : St) (v : AV) (x y : Nat) (b : Nat) (t1 t2 : St) (hxy : y < x) (hb : b < t.length) (hlen : lenlA v = some (.int .i64 2))
    (ix0 : ixaA 2 v (.int .i64 0) = some (.ptr b 0)) (ix1 : ixaA 2 v (.int .i64 1) = some (.ptr b 2)) (l0 : ldA t (some 2) (.ptr b 0) = some (aA x)) (l1 : ldA t (some 2) (.ptr b 2) = some (aA y))
    (w1 : wrA t b 2 (cA x) = some t1) (w2 : wrA t1 b 0 (cA y) = some t2) :
    Run T f_slices_SortFunc_Addr [v, .fn f_addr_Cmp []] t fun r t' => t' = t2 := by
  refine run_body (F := r_slices_SortFunc_Addr) rfl (by simp [r_slices_SortFunc_Addr]) ?_
  have hw : IntKind.u64.wrap 2 = 2 := by decide
  simp only [r_slices_SortFunc_Addr, XX, CC, Nat.reduceAdd, Nat.reduceSub, Nat.reduceLeDiff, Nat.reduceLT, Nat.reduceEqDiff, reduceIte, ↓reduceIte, Nat.reduceBEq, hlen, op_cvi, cvi_int, hw]
  refine Run.mono _ _ _ _ _ ?_ (bitslen_r t 2 (by decide))
  rintro a t' ⟨k, rfl, rfl⟩
  (try simp only [XX, CC, Nat.reduceAdd, Nat.reduceSub, Nat.reduceLeDiff, Nat.reduceLT, Nat.reduceEqDiff, reduceIte, ↓reduceIte, Nat.reduceBEq])
  refine Run.mono _ _ _ _ _ ?_ (?_ : Run T f_slices_pdqsortCmpFunc_Addr [v, .int .i64 0, .int .i64 2, .int .i64 k, .fn f_addr_Cmp []] t' fun r t => t = t2)
  · rintro a t rfl
    (try simp only [XX, CC, Nat.reduceAdd, Nat.reduceSub, Nat.reduceLeDiff, Nat.reduceLT, Nat.reduceEqDiff, reduceIte, ↓reduceIte, Nat.reduceBEq])
    exact .inl rfl
  refine run_body (F := r_slices_pdqsortCmpFunc_Addr) rfl (by simp [r_slices_pdqsortCmpFunc_Addr]) ?_
  have k2 : IntKind.i64.wrap (2 - 0) = 2 := by decide
  have d1 : decide ((2 : Int) ≤ 12) = true := by decide
  simp only [r_slices_pdqsortCmpFunc_Addr, XX, CC, Nat.reduceAdd, Nat.reduceSub, Nat.reduceLeDiff, Nat.reduceLT, Nat.reduceEqDiff, reduceIte, ↓reduceIte, Nat.reduceBEq]
  refine awp_unroll ?_
  simp only [XX, CC, Nat.reduceAdd, Nat.reduceSub, Nat.reduceLeDiff, Nat.reduceLT, Nat.reduceEqDiff, reduceIte, ↓reduceIte, Nat.reduceBEq, k2, d1]
  refine Run.mono _ _ _ _ _ ?_ (ins2_r t' v x y b t1 t2 hxy hb ix0 ix1 l0 l1 w1 w2)
  rintro a t rfl
  (try simp only [XX, CC, Nat.reduceAdd, Nat.reduceSub, Nat.reduceLeDiff, Nat.reduceLT, Nat.reduceEqDiff, reduceIte, ↓reduceIte, Nat.reduceBEq])
  exact .inl rfl

set_option maxHeartbeats 4000000 in
/-- Compact of two that are not the same. -/
theorem comp2_r (t : St) (v : AV) (x y : Nat) (b : Nat) (hxy : y ≠ x) (hlen : lenlA v = some (.int .i64 2))
    (ix0 : ixaA 2 v (.int .i64 0) = some (.ptr b 0)) (ix1 : ixaA 2 v (.int .i64 1) = some (.ptr b 2)) (l0 : ldA t (some 2) (.ptr b 0) = some (aA x)) (l1 : ldA t (some 2) (.ptr b 2) = some (aA y)) :
    Run T f_slices_Compact_Addr [v] t fun r t' => r = v ∧ t' = t := by
  refine run_body (F := r_slices_Compact_Addr) rfl (by simp [r_slices_Compact_Addr]) ?_
  have k2 : IntKind.i64.wrap (1 - 1) = 0 := by decide
  have k3 : IntKind.i64.wrap (1 + 1) = 2 := by decide
  have d0 : decide ((2 : Int) < 2) = false := by decide
  have d1 : decide ((1 : Int) < 2) = true := by decide
  simp only [r_slices_Compact_Addr, XX, CC, Nat.reduceAdd, Nat.reduceSub, Nat.reduceLeDiff, Nat.reduceLT, Nat.reduceEqDiff, reduceIte, ↓reduceIte, Nat.reduceBEq, hlen, d0]
  refine awp_unroll ?_
  simp only [XX, CC, Nat.reduceAdd, Nat.reduceSub, Nat.reduceLeDiff, Nat.reduceLT, Nat.reduceEqDiff, reduceIte, ↓reduceIte, Nat.reduceBEq, hlen, d1]
  refine drw_in [] rfl ?_
  simp only [List.append_nil, DD, CC, Nat.reduceAdd, Nat.reduceSub, Nat.reduceLeDiff, Nat.reduceLT, Nat.reduceEqDiff, reduceIte, ↓reduceIte, Nat.reduceBEq, k2, ix0, ix1, l0, l1, eq_A, dec_f hxy, k3, loopK_nrm]
  refine awp_unroll ?_
  simp only [XX, CC, Nat.reduceAdd, Nat.reduceSub, Nat.reduceLeDiff, Nat.reduceLT, Nat.reduceEqDiff, reduceIte, ↓reduceIte, Nat.reduceBEq, hlen, d0]
  exact .inl ⟨rfl, rfl⟩
end Go.Ev
