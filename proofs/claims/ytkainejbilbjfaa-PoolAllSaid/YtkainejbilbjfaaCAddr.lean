import Derived.Test.YtkainejbilbjfaaEvNum
import Derived.Test.YtkainejbilbjfaaEvS
import Derived.Test.YtkainejbilbjfaaFs
/-! The functions of the package addr, and of cmp. -/
namespace Go.Ev
set_option linter.unusedVariables false
set_option linter.unusedSimpArgs false

theorem isNaN_r (s : St) (k : IntKind) (x : Int) : RunD T f_cmp_isNaN_uint64 [.int k x] s (.bool false) s := by
  refine run_body (F := r_cmp_isNaN_uint64) rfl (by simp [r_cmp_isNaN_uint64]) ?_
  simp only [r_cmp_isNaN_uint64, XX, Nat.reduceAdd, Nat.reduceSub, Nat.reduceLeDiff, Nat.reduceLT, Nat.reduceEqDiff, reduceIte, ↓reduceIte, Nat.reduceBEq]
  exact ret_drop (.refl _) rfl (by simp)

theorem compare_r (s : St) (a b : Int) : RunD T f_cmp_Compare_uint64 [.int .u64 a, .int .u64 b] s (.int .i64 (if a < b then -1 else if a = b then 0 else 1)) s := by
  refine run_body (F := r_cmp_Compare_uint64) rfl (by simp [r_cmp_Compare_uint64]) ?_
  simp only [r_cmp_Compare_uint64, XX, Nat.reduceAdd, Nat.reduceSub, Nat.reduceLeDiff, Nat.reduceLT, Nat.reduceEqDiff, reduceIte, ↓reduceIte, Nat.reduceBEq]
  refine (isNaN_r _ _ _).use ((isNaN_r _ _ _).use ?_)
  simp only [XX, Nat.reduceAdd, Nat.reduceSub, Nat.reduceLeDiff, Nat.reduceLT, Nat.reduceEqDiff, reduceIte, ↓reduceIte, Nat.reduceBEq]
  refine awp_cond (t := decide (a < b)) (by simp only [XX, Nat.reduceAdd, Nat.reduceSub, Nat.reduceLeDiff, Nat.reduceLT, Nat.reduceEqDiff, reduceIte, ↓reduceIte, Nat.reduceBEq]) (fun h => ?_) (fun h => ?_)
  · simp only [XX, Nat.reduceAdd, Nat.reduceSub, Nat.reduceLeDiff, Nat.reduceLT, Nat.reduceEqDiff, reduceIte, ↓reduceIte, Nat.reduceBEq]
    simp at h
    exact ret_drop (.refl _) rfl (by simp [h])
  · simp only [XX, Nat.reduceAdd, Nat.reduceSub, Nat.reduceLeDiff, Nat.reduceLT, Nat.reduceEqDiff, reduceIte, ↓reduceIte, Nat.reduceBEq]
    simp at h
    refine awp_cond (t := decide (a > b)) (by simp only [XX, Nat.reduceAdd, Nat.reduceSub, Nat.reduceLeDiff, Nat.reduceLT, Nat.reduceEqDiff, reduceIte, ↓reduceIte, Nat.reduceBEq]) (fun h' => ?_) (fun h' => ?_)
    · simp only [XX, Nat.reduceAdd, Nat.reduceSub, Nat.reduceLeDiff, Nat.reduceLT, Nat.reduceEqDiff, reduceIte, ↓reduceIte, Nat.reduceBEq]
      simp at h'
      exact ret_drop (.refl _) rfl (by rw [if_neg (by omega), if_neg (by omega)]; simp)
    · simp only [XX, Nat.reduceAdd, Nat.reduceSub, Nat.reduceLeDiff, Nat.reduceLT, Nat.reduceEqDiff, reduceIte, ↓reduceIte, Nat.reduceBEq]
      simp at h'
      exact ret_drop (.refl _) rfl (by rw [if_neg (by omega), if_pos (by omega)]; simp)

/-- the first that is not 0 -/
def orI : List Int → Int
  | [] => 0
  | x :: l => if x = 0 then orI l else x

theorem cmpOr_r (s : St) (v : AV) (l : List Int) (hl : l.length < 4611686018427387904) (hv : Rd 1 (fun x => [AV.int .i64 x]) s v l) : RunD T f_cmp_Or_int [v] s (.int .i64 (orI l)) s := by
  refine run_body (F := r_cmp_Or_int) rfl (by simp [r_cmp_Or_int]) ?_
  simp only [r_cmp_Or_int, XX, Nat.reduceAdd, Nat.reduceSub, Nat.reduceLeDiff, Nat.reduceLT, Nat.reduceEqDiff, reduceIte, ↓reduceIte, Nat.reduceBEq, hv.len]
  refine awp_loop (fun d e t => t = s ∧ ∃ i : Nat, i + d = l.length ∧ e.get 3 = .int .i64 0 ∧ e.get 6 = v ∧ e.get 7 = .int .i64 l.length ∧ e.get 8 = .int .i64 i ∧ orI l = orI (l.drop i)) l.length ?_ ?_
  · exact ⟨rfl, 0, by omega, by simp [get_put], by simp [get_put], by simp [get_put], by simp [get_put], by simp⟩
  · rintro d e _ ⟨rfl, i, hi, h3, h6, h7, h8, ho⟩
    simp only [XX, Nat.reduceAdd, Nat.reduceSub, Nat.reduceLeDiff, Nat.reduceLT, Nat.reduceEqDiff, reduceIte, ↓reduceIte, Nat.reduceBEq, h3, h6, h7, h8]
    refine awp_cond (t := decide ((i : Int) < l.length)) (by simp only [XX, Nat.reduceAdd, Nat.reduceSub, Nat.reduceLeDiff, Nat.reduceLT, Nat.reduceEqDiff, reduceIte, ↓reduceIte, Nat.reduceBEq]) (fun h => ?_) (fun h => ?_)
    · have h : (i : Int) < l.length := by simpa using h
      have hil : i < l.length := by omega
      obtain ⟨b, o, h1, h2⟩ := hv.get (by simp) (i := i) (List.getElem?_eq_getElem hil)
      have h2' : ldA _ none (.ptr b o) = some (.int .i64 l[i]) := h2 none 0 (.int .i64 l[i]) rfl
      have hd : l.drop i = l[i] :: l.drop (i + 1) := List.drop_eq_getElem_cons hil
      simp only [XX, Nat.reduceAdd, Nat.reduceSub, Nat.reduceLeDiff, Nat.reduceLT, Nat.reduceEqDiff, reduceIte, ↓reduceIte, Nat.reduceBEq, h3, h6, h7, h8, h1, h2']
      refine awp_cond (t := !(l[i] == 0)) (by simp only [XX, Nat.reduceAdd, Nat.reduceSub, Nat.reduceLeDiff, Nat.reduceLT, Nat.reduceEqDiff, reduceIte, ↓reduceIte, Nat.reduceBEq]) (fun h => ?_) (fun h => ?_)
      · simp only [XX, Nat.reduceAdd, Nat.reduceSub, Nat.reduceLeDiff, Nat.reduceLT, Nat.reduceEqDiff, reduceIte, ↓reduceIte, Nat.reduceBEq]
        refine ret_drop (.refl _) rfl ⟨?_, rfl⟩
        rw [ho, hd]
        simp at h
        simp [orI, h]
      · simp only [XX, Nat.reduceAdd, Nat.reduceSub, Nat.reduceLeDiff, Nat.reduceLT, Nat.reduceEqDiff, reduceIte, ↓reduceIte, Nat.reduceBEq, h8]
        refine loop_again ?_
        refine ⟨d - 1, by omega, rfl, i + 1, by omega, by simp [get_put, h3], by simp [get_put, h6], by simp [get_put, h7], ?_, ?_⟩
        · simp only [get_put, XX, Nat.reduceAdd, Nat.reduceSub, Nat.reduceLeDiff, Nat.reduceLT, Nat.reduceEqDiff, reduceIte, ↓reduceIte, Nat.reduceBEq, h8]; rw [w64_nat (by omega)]
        · rw [ho, hd]; simp at h; simp [orI, h]
    · have h : ¬ (i : Int) < l.length := by simpa using h
      simp only [XX, Nat.reduceAdd, Nat.reduceSub, Nat.reduceLeDiff, Nat.reduceLT, Nat.reduceEqDiff, reduceIte, ↓reduceIte, Nat.reduceBEq, h3]
      refine ret_drop (.refl _) rfl ⟨?_, rfl⟩
      rw [ho, List.drop_of_length_le (by omega)]; rfl

/-- addr.Cmp -/
theorem cmp_r (s : St) (a b : Nat) : RunD T f_addr_Cmp [aA a, aA b] s (.int .i64 (cmpN a b)) s := by
  refine run_body (F := r_addr_Cmp) rfl (by simp [r_addr_Cmp]) ?_
  simp only [r_addr_Cmp, XX, Nat.reduceAdd, Nat.reduceSub, Nat.reduceLeDiff, Nat.reduceLT, Nat.reduceEqDiff, reduceIte, ↓reduceIte, Nat.reduceBEq, cA, awp_drw]
  refine drw_in [.cells true [.int .i64 (if H a < H b then -1 else if H a = H b then 0 else 1), .int .i64 (if L a < L b then -1 else if L a = L b then 0 else 1)]] rfl ?_
  simp only [DD, Nat.reduceAdd, Nat.reduceSub, Nat.reduceLeDiff, Nat.reduceLT, Nat.reduceEqDiff, reduceIte, ↓reduceIte, Nat.reduceBEq]
  refine dr_call (compare_r _ _ _) ?_
  simp only [DD, Nat.reduceAdd, Nat.reduceSub, Nat.reduceLeDiff, Nat.reduceLT, Nat.reduceEqDiff, reduceIte, ↓reduceIte, Nat.reduceBEq]
  refine dr_call (compare_r _ _ _) ?_
  simp only [DD, Nat.reduceAdd, Nat.reduceSub, Nat.reduceLeDiff, Nat.reduceLT, Nat.reduceEqDiff, reduceIte, ↓reduceIte, Nat.reduceBEq]
  refine dr_call (cmpOr_r _ _ [if H a < H b then -1 else if H a = H b then 0 else 1, if L a < L b then -1 else if L a = L b then 0 else 1] (by simp) ?_) ?_
  · refine rd_lit ?_ ?_ rfl
    · simp
    · simp
  simp only [DD, Nat.reduceAdd, Nat.reduceSub, Nat.reduceLeDiff, Nat.reduceLT, Nat.reduceEqDiff, reduceIte, ↓reduceIte, Nat.reduceBEq]
  refine ret_drop ⟨_, rfl⟩ rfl ⟨?_, rfl⟩
  congr 1
  simp only [orI]
  unfold cmpN H L
  split <;> (try split) <;> (try split) <;> (try split) <;> omega

theorem add_lo (a b : Nat) : add64A (.int .u64 (L a)) (.int .u64 (L b)) (.int .u64 0) = some (.tup [.int .u64 (L ((a + b) % 340282366920938463463374607431768211456)), .int .u64 ((L a + L b) / 18446744073709551616)]) := by
  have h1 := L_ge a; have h2 := L_ge b
  simp only [add64A]
  rw [if_pos (by omega)]
  have : (L a + L b + 0) % 18446744073709551616 = L ((a + b) % 340282366920938463463374607431768211456) := by unfold L; omega
  rw [this, Int.add_zero]
theorem add_hi (a b : Nat) (ha : a < 340282366920938463463374607431768211456) (hb : b < 340282366920938463463374607431768211456) : add64A (.int .u64 (H a)) (.int .u64 (H b)) (.int .u64 ((L a + L b) / 18446744073709551616)) = some (.tup [.int .u64 (H ((a + b) % 340282366920938463463374607431768211456)), .int .u64 (if 340282366920938463463374607431768211456 ≤ a + b then 1 else 0)]) := by
  have h1 := L_ge a; have h2 := L_ge b; have h3 := H_ge a; have h4 := H_ge b; have h5 := L_lt a; have h6 := L_lt b
  simp only [add64A]
  rw [if_pos (by omega)]
  have e1 : (H a + H b + (L a + L b) / 18446744073709551616) % 18446744073709551616 = H ((a + b) % 340282366920938463463374607431768211456) := by unfold H L; omega
  have e2 : (H a + H b + (L a + L b) / 18446744073709551616) / 18446744073709551616 = if 340282366920938463463374607431768211456 ≤ a + b then 1 else 0 := by
    split <;> unfold H L <;> omega
  rw [e1, e2]
/-- addr.Add -/
theorem add_r (s : St) (a b : Nat) (ha : a < 340282366920938463463374607431768211456) (hb : b < 340282366920938463463374607431768211456) : RunD T f_addr_Add [aA a, aA b] s (.tup [aA ((a + b) % 340282366920938463463374607431768211456), .bool (ovr a b)]) s := by
  refine run_body (F := r_addr_Add) rfl (by simp [r_addr_Add]) ?_
  simp only [r_addr_Add, XX, Nat.reduceAdd, Nat.reduceSub, Nat.reduceLeDiff, Nat.reduceLT, Nat.reduceEqDiff, reduceIte, ↓reduceIte, Nat.reduceBEq, cA, add_lo, add_hi a b ha hb]
  refine ret_drop ⟨_, rfl⟩ rfl ⟨?_, rfl⟩
  congr 4
  split
  · rw [ovr_t (by assumption)]; rfl
  · rw [ovr_f (by assumption)]; rfl

theorem sub_lo (a b : Nat) (ha : a < 340282366920938463463374607431768211456) (hb : b < 340282366920938463463374607431768211456) : sub64A (.int .u64 (L a)) (.int .u64 (L b)) (.int .u64 0) = some (.tup [.int .u64 (L ((a + 340282366920938463463374607431768211456 - b) % 340282366920938463463374607431768211456)), .int .u64 (if L a < L b then 1 else 0)]) := by
  have h1 := L_ge a; have h2 := L_ge b; have h6 := L_lt b
  simp only [sub64A]
  rw [if_pos (by omega)]
  have : (L a - L b - 0) % 18446744073709551616 = L ((a + 340282366920938463463374607431768211456 - b) % 340282366920938463463374607431768211456) := by unfold L; omega
  rw [this, Int.add_zero]
theorem sub_hi (a b : Nat) (ha : a < 340282366920938463463374607431768211456) (hb : b < 340282366920938463463374607431768211456) : sub64A (.int .u64 (H a)) (.int .u64 (H b)) (.int .u64 (if L a < L b then 1 else 0)) = some (.tup [.int .u64 (H ((a + 340282366920938463463374607431768211456 - b) % 340282366920938463463374607431768211456)), .int .u64 (if a < b then 1 else 0)]) := by
  have h3 := H_ge a; have h4 := H_ge b; have h5 := H_lt hb
  have hc : (0 : Int) ≤ (if L a < L b then 1 else 0) ∧ (if L a < L b then 1 else 0 : Int) ≤ 1 := by split <;> omega
  simp only [sub64A]
  rw [if_pos ⟨h3, h4, hc.1, hc.2, h5⟩]
  have e1 : (H a - H b - (if L a < L b then 1 else 0)) % 18446744073709551616 = H ((a + 340282366920938463463374607431768211456 - b) % 340282366920938463463374607431768211456) := by
    split <;> rename_i h <;> unfold H L at * <;> omega
  have e2 : (if H a < H b + (if L a < L b then 1 else 0) then 1 else 0 : Int) = if a < b then 1 else 0 := by
    by_cases h : L a < L b
    · rw [if_pos h]; by_cases h' : a < b
      · rw [if_pos h', if_pos]; unfold H L at *; omega
      · rw [if_neg h', if_neg]; unfold H L at *; omega
    · rw [if_neg h]; by_cases h' : a < b
      · rw [if_pos h', if_pos]; unfold H L at *; omega
      · rw [if_neg h', if_neg]; unfold H L at *; omega
  rw [e1, e2]
/-- addr.Sub -/
theorem sub_r (s : St) (a b : Nat) (ha : a < 340282366920938463463374607431768211456) (hb : b < 340282366920938463463374607431768211456) : RunD T f_addr_Sub [aA a, aA b] s (.tup [aA ((a + 340282366920938463463374607431768211456 - b) % 340282366920938463463374607431768211456), .bool (decide (a < b))]) s := by
  refine run_body (F := r_addr_Sub) rfl (by simp [r_addr_Sub]) ?_
  simp only [r_addr_Sub, XX, Nat.reduceAdd, Nat.reduceSub, Nat.reduceLeDiff, Nat.reduceLT, Nat.reduceEqDiff, reduceIte, ↓reduceIte, Nat.reduceBEq, cA, sub_lo a b ha hb, sub_hi a b ha hb]
  refine ret_drop ⟨_, rfl⟩ rfl ⟨?_, rfl⟩
  congr 4
  split <;> simp [*]
end Go.Ev
