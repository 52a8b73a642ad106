import Derived.Test.YtkainejbilbjfaaCSpanG
import Derived.Laws.BitsLemmas
/-! The reference's numbers, bit by bit. -/
namespace Go.Ev
set_option linter.unusedVariables false
set_option linter.unusedSimpArgs false

theorem wu64_in {x : Int} (h1 : 0 ≤ x) (h2 : x < 18446744073709551616) : IntKind.u64.wrap x = x := by rw [wu64]; omega
theorem or_nat (a b : Nat) (ha : a < 18446744073709551616) (hb : b < 18446744073709551616) : bitsA .or .u64 a b = ((a ||| b : Nat) : Int) :=
  (bits_nat .u64 64 (by decide) (fun n h0 h1 => wu64_in h0 (by simpa using h1)) a b (by simpa using ha) (by simpa using hb)).2
theorem and_nat (a b : Nat) (ha : a < 18446744073709551616) (hb : b < 18446744073709551616) : bitsA .and .u64 a b = ((a &&& b : Nat) : Int) :=
  (bits_nat .u64 64 (by decide) (fun n h0 h1 => wu64_in h0 (by simpa using h1)) a b (by simpa using ha) (by simpa using hb)).1
/-- 2^64 in two factors -/
theorem pow_split {n : Nat} (h : n ≤ 64) : 2 ^ n * 2 ^ (64 - n) = 18446744073709551616 := by
  rw [← Nat.pow_add, Nat.add_sub_cancel' h]
theorem or_new (x t : Nat) (h : x / t % 2 = 0) (ht : ∃ j, t = 2 ^ j) : x ||| t = x + t := by
  obtain ⟨j, rfl⟩ := ht
  apply Nat.eq_of_testBit_eq
  intro i
  have key : x.testBit j = false := by rw [Nat.testBit_eq_decide_div_mod_eq, h]; rfl
  rw [Nat.testBit_or, Nat.testBit_two_pow]
  have e : x + 2 ^ j = 2 ^ j * (x / 2 ^ j + 1) + x % 2 ^ j := by
    have := Nat.div_add_mod x (2 ^ j)
    rw [Nat.mul_add, Nat.mul_one]; omega
  have e0 : x = 2 ^ j * (x / 2 ^ j) + x % 2 ^ j := (Nat.div_add_mod x (2 ^ j)).symm
  have hlt : x % 2 ^ j < 2 ^ j := Nat.mod_lt _ (Nat.two_pow_pos j)
  rw [e]
  conv => lhs; rw [e0]
  rw [Nat.testBit_two_pow_mul_add _ hlt, Nat.testBit_two_pow_mul_add _ hlt]
  by_cases c : i < j
  · rw [if_pos c, if_pos c, decide_eq_false (by omega), Bool.or_false]
  · rw [if_neg c, if_neg c]
    obtain ⟨m, rfl⟩ : ∃ m, i = j + m := ⟨i - j, by omega⟩
    rw [show j + m - j = m by omega]
    have hq : x / 2 ^ j % 2 = 0 := h
    cases m with
    | zero =>
      rw [decide_eq_true (by omega), Bool.or_true, Nat.testBit_zero]
      exact (decide_eq_true (by omega)).symm
    | succ m =>
      rw [decide_eq_false (by omega), Bool.or_false, Nat.testBit_succ, Nat.testBit_succ, show (x / 2 ^ j + 1) / 2 = x / 2 ^ j / 2 by omega]
theorem mod_next (a j : Nat) : a % 2 ^ (j + 1) = a % 2 ^ j + a / 2 ^ j % 2 * 2 ^ j := by rw [Nat.mod_pow_succ, Nat.mul_comm (2 ^ j)]

def bitN (a : Nat) (i : Nat) : Nat := a / 2 ^ (127 - i) % 2
theorem bitN_lt (a i : Nat) : bitN a i < 2 := Nat.mod_lt _ (by decide)
theorem bin_shr {x n : Nat} (hn : n ≤ 64) : binA .shr (.int .u64 (x : Int)) (.int .u64 (n : Int)) = some (.int .u64 ((x / 2 ^ n : Nat) : Int)) := by
  simp only [binA]
  rw [if_neg (by omega), show IntKind.u64.bits = 64 from rfl, Int.toNat_natCast, Nat.min_eq_left hn, Int.natCast_ediv, Int.natCast_pow, Int.fdiv_eq_ediv_of_nonneg _ (by exact Int.le_of_lt (Int.pow_pos (by decide)))]
  rfl
theorem bin_shl {n : Nat} (hn : n < 64) : binA .shl (.int .u64 1) (.int .u64 (n : Int)) = some (.int .u64 ((2 ^ n : Nat) : Int)) := by
  have hp : 2 ^ n < 18446744073709551616 := by rw [show (18446744073709551616 : Nat) = 2 ^ 64 from rfl]; exact Nat.pow_lt_pow_right (by decide) (by omega)
  simp only [binA]
  rw [if_neg (by omega), show IntKind.u64.bits = 64 from rfl, Int.toNat_natCast, Nat.min_eq_left (by omega), Int.one_mul, show (2 : Int) ^ n = ((2 ^ n : Nat) : Int) by rw [Int.natCast_pow]; rfl]
  generalize 2 ^ n = m at hp ⊢
  rw [wu64_in (by omega) (by omega)]
theorem bin_and1 {x : Nat} (h : x < 18446744073709551616) : binA .and (.int .u64 (x : Int)) (.int .u64 1) = some (.int .u64 ((x % 2 : Nat) : Int)) := by
  have := and_nat x 1 h (by decide)
  rw [show ((1 : Nat) : Int) = 1 from rfl] at this
  simp only [binA, if_true, this]
  rw [show (1 : Nat) = 2 ^ 1 - 1 from rfl, Nat.and_two_pow_sub_one_eq_mod]
theorem bin_or {x y : Nat} (hx : x < 18446744073709551616) (hy : y < 18446744073709551616) : binA .or (.int .u64 (x : Int)) (.int .u64 (y : Int)) = some (.int .u64 ((x ||| y : Nat) : Int)) := by
  simp only [binA, if_true, or_nat x y hx hy]
theorem bin_rem2 {x : Nat} : binA .rem (.int .u64 (x : Int)) (.int .u64 2) = some (.int .u64 ((x % 2 : Nat) : Int)) := by
  simp only [binA]
  rw [if_pos ⟨trivial, by decide⟩, Int.tmod_eq_emod_of_nonneg (by omega)]; rfl
theorem bin_quo2 {x : Nat} (h : x < 18446744073709551616) : binA .quo (.int .u64 (x : Int)) (.int .u64 2) = some (.int .u64 ((x / 2 : Nat) : Int)) := by
  simp only [binA]
  rw [if_pos ⟨trivial, by decide⟩, Int.tdiv_eq_ediv_of_nonneg (by omega), wu64_in (by omega) (by omega)]; rfl
def cviA (k : IntKind) : AV → Option AV
  | .int _ n => some (.int k (k.wrap n))
  | _ => none
theorem op_cvi {X : Oracle} {e : Env} {s : St} {q : AV → St → Prop} {k : IntKind} {x : RX} : opA X (.cvi k x) e s q = ob (cviA k (x.ev e)) fun v => q v s := rfl
theorem cvi_int {k k' : IntKind} {n : Int} : cviA k (.int k' n) = some (.int k (k.wrap n)) := rfl

theorem bit_r (s : St) (a i : Nat) (hi : i < 128) (ha : a < 340282366920938463463374607431768211456) : RunD T f_r01_bit [aA a, .int .i64 i] s (.int .u64 (bitN a i)) s := by
  refine run_body (F := r_r01_bit) rfl (by simp [r_r01_bit]) ?_
  by_cases c : (i : Int) < 64
  · have e0 : IntKind.u64.wrap (IntKind.i64.wrap (63 - (i : Int))) = ((63 - i : Nat) : Int) := by rw [w64_in (by omega) (by omega), wu64_in (by omega) (by omega)]; omega
    have e : a / 18446744073709551616 / 2 ^ (63 - i) = a / 2 ^ (127 - i) := by
      rw [show (18446744073709551616 : Nat) = 2 ^ 64 from rfl, Nat.div_div_eq_div_mul, ← Nat.pow_add, show 64 + (63 - i) = 127 - i by omega]
    have hh : a / 18446744073709551616 < 18446744073709551616 := by omega
    have hh2 : a / 2 ^ (127 - i) < 18446744073709551616 := by rw [← e]; exact Nat.lt_of_le_of_lt (Nat.div_le_self _ _) hh
    simp only [r_r01_bit, XX, CC, Nat.reduceAdd, Nat.reduceSub, Nat.reduceLeDiff, Nat.reduceLT, Nat.reduceEqDiff, reduceIte, ↓reduceIte, Nat.reduceBEq, cA, dec_t c, op_cvi, cvi_int, e0, H, bin_shr (show 63 - i ≤ 64 by omega), e, bin_and1 hh2]
    exact ret_drop ⟨_, rfl⟩ rfl ⟨rfl, rfl⟩
  · have e0 : IntKind.u64.wrap (IntKind.i64.wrap (127 - (i : Int))) = ((127 - i : Nat) : Int) := by rw [w64_in (by omega) (by omega), wu64_in (by omega) (by omega)]; omega
    have e : a % 18446744073709551616 / 2 ^ (127 - i) % 2 = a / 2 ^ (127 - i) % 2 := by
      have hp : 2 ^ (127 - i) * 2 ^ (64 - (127 - i)) = 18446744073709551616 := pow_split (by omega)
      have hs : 2 ^ (64 - (127 - i)) = 2 * 2 ^ (63 - (127 - i)) := by rw [show 64 - (127 - i) = 63 - (127 - i) + 1 by omega, Nat.pow_succ, Nat.mul_comm]
      rw [← hp, Nat.mod_mul_right_div_self, hs, Nat.mod_mul_right_mod]
    have hh2 : a % 18446744073709551616 / 2 ^ (127 - i) < 18446744073709551616 := Nat.lt_of_le_of_lt (Nat.div_le_self _ _) (Nat.mod_lt _ (by decide))
    simp only [r_r01_bit, XX, CC, Nat.reduceAdd, Nat.reduceSub, Nat.reduceLeDiff, Nat.reduceLT, Nat.reduceEqDiff, reduceIte, ↓reduceIte, Nat.reduceBEq, cA, dec_f c, op_cvi, cvi_int, e0, L, bin_shr (show 127 - i ≤ 64 by omega), bin_and1 hh2, e]
    exact ret_drop ⟨_, rfl⟩ rfl ⟨rfl, rfl⟩

/-- Setting a bit that isn't set: a sum. -/
theorem with_r (s : St) (a i : Nat) (hi : i < 128) (ha : a < 340282366920938463463374607431768211456) (h : bitN a i = 0) : RunD T f_r01_with [aA a, .int .i64 i] s (aA (a + 2 ^ (127 - i))) s := by
  refine run_body (F := r_r01_with) rfl (by simp [r_r01_with]) ?_
  have hor : a ||| 2 ^ (127 - i) = a + 2 ^ (127 - i) := or_new a _ h ⟨_, rfl⟩
  rw [← hor]
  by_cases c : (i : Int) < 64
  · have e0 : IntKind.u64.wrap (IntKind.i64.wrap (63 - (i : Int))) = ((63 - i : Nat) : Int) := by rw [w64_in (by omega) (by omega), wu64_in (by omega) (by omega)]; omega
    have hp : 2 ^ (63 - i) < 18446744073709551616 := by rw [show (18446744073709551616 : Nat) = 2 ^ 64 from rfl]; exact Nat.pow_lt_pow_right (by decide) (by omega)
    simp only [r_r01_with, XX, CC, Nat.reduceAdd, Nat.reduceSub, Nat.reduceLeDiff, Nat.reduceLT, Nat.reduceEqDiff, reduceIte, ↓reduceIte, Nat.reduceBEq, cA, dec_t c, op_cvi, cvi_int, e0, H, bin_shl (show 63 - i < 64 by omega), bin_or (show a / 18446744073709551616 < 18446744073709551616 by omega) hp]
    refine ret_drop ⟨_, rfl⟩ rfl ⟨?_, rfl⟩
    have e2 : 2 ^ (127 - i) = 2 ^ (63 - i) * 18446744073709551616 := by rw [show (18446744073709551616 : Nat) = 2 ^ 64 from rfl, ← Nat.pow_add, show 63 - i + 64 = 127 - i by omega]
    have e3 : (a ||| 2 ^ (127 - i)) / 18446744073709551616 = a / 18446744073709551616 ||| 2 ^ (63 - i) := by
      rw [show (18446744073709551616 : Nat) = 2 ^ 64 from rfl, Nat.or_div_two_pow]
      rw [show (2 : Nat) ^ 64 = 18446744073709551616 from rfl, e2, Nat.mul_div_cancel _ (by decide)]
    have e4 : (a ||| 2 ^ (127 - i)) % 18446744073709551616 = a % 18446744073709551616 := by
      rw [show (18446744073709551616 : Nat) = 2 ^ 64 from rfl, Nat.or_mod_two_pow]
      rw [show (2 : Nat) ^ 64 = 18446744073709551616 from rfl, e2, Nat.mul_mod_left, Nat.or_zero]
    show _ = AV.agg [AV.int .u64 (H (a ||| 2 ^ (127 - i))), AV.int .u64 (L (a ||| 2 ^ (127 - i)))]
    simp only [H, L, e3, e4]
  · have e0 : IntKind.u64.wrap (IntKind.i64.wrap (127 - (i : Int))) = ((127 - i : Nat) : Int) := by rw [w64_in (by omega) (by omega), wu64_in (by omega) (by omega)]; omega
    have hp : 2 ^ (127 - i) < 18446744073709551616 := by rw [show (18446744073709551616 : Nat) = 2 ^ 64 from rfl]; exact Nat.pow_lt_pow_right (by decide) (by omega)
    simp only [r_r01_with, XX, CC, Nat.reduceAdd, Nat.reduceSub, Nat.reduceLeDiff, Nat.reduceLT, Nat.reduceEqDiff, reduceIte, ↓reduceIte, Nat.reduceBEq, cA, dec_f c, op_cvi, cvi_int, e0, L, bin_shl (show 127 - i < 64 by omega), bin_or (Nat.mod_lt a (show 0 < 18446744073709551616 by decide)) hp]
    refine ret_drop ⟨_, rfl⟩ rfl ⟨?_, rfl⟩
    have e3 : (a ||| 2 ^ (127 - i)) / 18446744073709551616 = a / 18446744073709551616 := by
      rw [show (18446744073709551616 : Nat) = 2 ^ 64 from rfl, Nat.or_div_two_pow]
      rw [show (2 : Nat) ^ 64 = 18446744073709551616 from rfl, Nat.div_eq_of_lt hp, Nat.or_zero]
    have e4 : (a ||| 2 ^ (127 - i)) % 18446744073709551616 = a % 18446744073709551616 ||| 2 ^ (127 - i) := by
      rw [show (18446744073709551616 : Nat) = 2 ^ 64 from rfl, Nat.or_mod_two_pow]
      rw [show (2 : Nat) ^ 64 = 18446744073709551616 from rfl, Nat.mod_eq_of_lt hp]
    show _ = AV.agg [AV.int .u64 (H (a ||| 2 ^ (127 - i))), AV.int .u64 (L (a ||| 2 ^ (127 - i)))]
    simp only [H, L, e3, e4]

/-- tenancyref01.Cmp -/
theorem rcmp_r (s : St) (a b : Nat) (ha : a < 340282366920938463463374607431768211456) (hb : b < 340282366920938463463374607431768211456) : RunD T f_r01_Cmp [aA a, aA b] s (.int .i64 (cmpN a b)) s := by
  refine run_body (F := r_r01_Cmp) rfl (by simp [r_r01_Cmp]) ?_
  simp only [r_r01_Cmp, XX, CC, Nat.reduceAdd, Nat.reduceSub, Nat.reduceLeDiff, Nat.reduceLT, Nat.reduceEqDiff, reduceIte, ↓reduceIte, Nat.reduceBEq]
  refine awp_loop (fun d e t => t = s ++ [.cells true (cA a), .cells true (cA b)] ∧ ∃ i : Nat, i + d = 128 ∧ e.get 2 = .ptr s.length 0 ∧ e.get 3 = .ptr (s.length + 1) 0 ∧ e.get 5 = .int .i64 i ∧ a / 2 ^ (128 - i) = b / 2 ^ (128 - i)) 128 ?_ ?_
  · refine ⟨rfl, 0, by omega, ?_, ?_, ?_, by rw [Nat.div_eq_of_lt (by simpa using ha), Nat.div_eq_of_lt (by simpa using hb)]⟩ <;> (try simp only [XX, CC, Nat.reduceAdd, Nat.reduceSub, Nat.reduceLeDiff, Nat.reduceLT, Nat.reduceEqDiff, reduceIte, ↓reduceIte, Nat.reduceBEq]) <;> rfl
  rintro d e t ⟨rfl, i, hi, g2, g3, g5, he⟩
  simp only [XX, CC, Nat.reduceAdd, Nat.reduceSub, Nat.reduceLeDiff, Nat.reduceLT, Nat.reduceEqDiff, reduceIte, ↓reduceIte, Nat.reduceBEq, g2, g3, g5]
  by_cases h : i < 128
  · rw [show 128 - i = 127 - i + 1 by omega, Nat.pow_succ, ← Nat.div_div_eq_div_mul, ← Nat.div_div_eq_div_mul] at he
    have ea : bitN a i = a / 2 ^ (127 - i) % 2 := rfl
    have eb : bitN b i = b / 2 ^ (127 - i) % 2 := rfl
    simp only [dec_t (show (i : Int) < 128 by omega), XX, CC, Nat.reduceAdd, Nat.reduceSub, Nat.reduceLeDiff, Nat.reduceLT, Nat.reduceEqDiff, reduceIte, ↓reduceIte, Nat.reduceBEq, g2, g3, g5]
    refine drw_in [] rfl ?_
    simp only [DD, CC, Nat.reduceAdd, Nat.reduceSub, Nat.reduceLeDiff, Nat.reduceLT, Nat.reduceEqDiff, reduceIte, ↓reduceIte, Nat.reduceBEq, g2, g3, g5]
    refine dr_call (bit_r _ a i h ha) ?_
    simp only [DD, CC, Nat.reduceAdd, Nat.reduceSub, Nat.reduceLeDiff, Nat.reduceLT, Nat.reduceEqDiff, reduceIte, ↓reduceIte, Nat.reduceBEq, g2, g3, g5]
    refine dr_call (bit_r _ b i h hb) ?_
    cases c1 : decide ((bitN a i : Int) < bitN b i)
    · simp only [DD, CC, Nat.reduceAdd, Nat.reduceSub, Nat.reduceLeDiff, Nat.reduceLT, Nat.reduceEqDiff, reduceIte, ↓reduceIte, Nat.reduceBEq, g2, g3, g5, c1]
      refine drw_in [] rfl ?_
      simp only [DD, CC, Nat.reduceAdd, Nat.reduceSub, Nat.reduceLeDiff, Nat.reduceLT, Nat.reduceEqDiff, reduceIte, ↓reduceIte, Nat.reduceBEq, g2, g3, g5]
      refine dr_call (bit_r _ a i h ha) ?_
      simp only [DD, CC, Nat.reduceAdd, Nat.reduceSub, Nat.reduceLeDiff, Nat.reduceLT, Nat.reduceEqDiff, reduceIte, ↓reduceIte, Nat.reduceBEq, g2, g3, g5]
      refine dr_call (bit_r _ b i h hb) ?_
      simp at c1
      cases c2 : decide ((bitN a i : Int) > bitN b i)
      · simp only [DD, CC, Nat.reduceAdd, Nat.reduceSub, Nat.reduceLeDiff, Nat.reduceLT, Nat.reduceEqDiff, reduceIte, ↓reduceIte, Nat.reduceBEq, g2, g3, g5, c2]
        simp at c2
        refine loop_again ⟨d - 1, by omega, by simp, i + 1, by omega, ?_, ?_, ?_, ?_⟩ <;> (try simp only [XX, CC, Nat.reduceAdd, Nat.reduceSub, Nat.reduceLeDiff, Nat.reduceLT, Nat.reduceEqDiff, reduceIte, ↓reduceIte, Nat.reduceBEq, g2, g3, g5])
        · rw [w64_nat (by omega)]
        · rw [show 128 - (i + 1) = 127 - i by omega]; omega
      · simp only [DD, CC, Nat.reduceAdd, Nat.reduceSub, Nat.reduceLeDiff, Nat.reduceLT, Nat.reduceEqDiff, reduceIte, ↓reduceIte, Nat.reduceBEq, g2, g3, g5, c2]
        simp at c2
        refine ret_drop ⟨_, rfl⟩ rfl ⟨?_, rfl⟩
        have : b / 2 ^ (127 - i) < a / 2 ^ (127 - i) := by omega
        have : b < a := Nat.lt_of_div_lt_div this
        unfold cmpN
        rw [if_neg (by omega), if_neg (by omega)]
    · simp only [DD, CC, Nat.reduceAdd, Nat.reduceSub, Nat.reduceLeDiff, Nat.reduceLT, Nat.reduceEqDiff, reduceIte, ↓reduceIte, Nat.reduceBEq, g2, g3, g5, c1]
      simp at c1
      refine ret_drop ⟨_, rfl⟩ rfl ⟨?_, rfl⟩
      have : a / 2 ^ (127 - i) < b / 2 ^ (127 - i) := by omega
      have : a < b := Nat.lt_of_div_lt_div this
      unfold cmpN
      rw [if_pos this]
  · simp only [dec_f (show ¬ (i : Int) < 128 by omega), XX, CC, Nat.reduceAdd, Nat.reduceSub, Nat.reduceLeDiff, Nat.reduceLT, Nat.reduceEqDiff, reduceIte, ↓reduceIte, Nat.reduceBEq, g2, g3]
    refine ret_drop ⟨_, rfl⟩ rfl ⟨?_, rfl⟩
    have : a = b := by rw [show 128 - i = 0 by omega] at he; simpa using he
    unfold cmpN
    rw [if_neg (by omega), if_pos this]

theorem bin_addn {x y : Nat} (h : x + y < 18446744073709551616) : binA .add (.int .u64 (x : Int)) (.int .u64 (y : Int)) = some (.int .u64 ((x + y : Nat) : Int)) := by
  rw [bin_add, wu64_in (by omega) (by omega)]; rfl
theorem bin_subn {x y : Nat} (h : x < 18446744073709551616) (h' : y ≤ x) : binA .sub (.int .u64 (x : Int)) (.int .u64 (y : Int)) = some (.int .u64 ((x - y : Nat) : Int)) := by
  rw [bin_sub, wu64_in (by omega) (by omega)]
  rw [show (x : Int) - y = ((x - y : Nat) : Int) by omega]
theorem wr_A {t : St} {b x y : Nat} (h : t[b]? = some (.cells true (cA x))) : wrA t b 0 (cA y) = some (t.set b (.cells true (cA y))) := by
  rw [wr_own h, if_pos ⟨Nat.le_refl _, cA_cell y⟩]; rfl
theorem set_at {t : St} {i j : Nat} {x : Blk} {y : Option Blk} (h : t[i]? = y) (hn : j ≠ i) : (t.set j x)[i]? = y := by rw [List.getElem?_set, if_neg hn]; exact h
set_option maxHeartbeats 1000000 in
/-- tenancyref01.Add -/
theorem radd_r (s : St) (a b : Nat) (ha : a < 340282366920938463463374607431768211456) (hb : b < 340282366920938463463374607431768211456) : RunD T f_r01_Add [aA a, aA b] s (.tup [aA ((a + b) % 340282366920938463463374607431768211456), .bool (ovr a b)]) s := by
  refine run_body (F := r_r01_Add) rfl (by simp [r_r01_Add]) ?_
  simp only [r_r01_Add, XX, CC, Nat.reduceAdd, Nat.reduceSub, Nat.reduceLeDiff, Nat.reduceLT, Nat.reduceEqDiff, reduceIte, ↓reduceIte, Nat.reduceBEq]
  refine awp_loop (fun d e t => Ext s t ∧ t[s.length]? = some (.cells true (cA a)) ∧ t[s.length + 1]? = some (.cells true (cA b)) ∧ t[s.length + 2]? = some (.cells true (cA 0)) ∧ ∃ c o : Nat, t[s.length + 3]? = some (.cells true (cA o)) ∧
    d ≤ 128 ∧ e.get 2 = .ptr s.length 0 ∧ e.get 3 = .ptr (s.length + 1) 0 ∧ e.get 4 = .ptr (s.length + 2) 0 ∧ e.get 6 = .ptr (s.length + 3) 0 ∧ e.get 7 = .int .u64 (c : Int) ∧ e.get 8 = .int .i64 ((d : Int) - 1) ∧
    c < 2 ∧ o < 2 ^ (128 - d) ∧ a % 2 ^ (128 - d) + b % 2 ^ (128 - d) = o + c * 2 ^ (128 - d)) 128 ?_ ?_
  · refine ⟨⟨_, rfl⟩, by simp, by simp, by simp; rfl, 0, 0, by simp; rfl, by omega, ?_, ?_, ?_, ?_, ?_, ?_, by omega, by decide, by simp [Nat.mod_one]⟩ <;> (try simp only [XX, CC, Nat.reduceAdd, Nat.reduceSub, Nat.reduceLeDiff, Nat.reduceLT, Nat.reduceEqDiff, reduceIte, ↓reduceIte, Nat.reduceBEq]) <;> rfl
  rintro d e t ⟨hx, ba, bb, b0, c, o, bo, hd, g2, g3, g4, g6, g7, g8, hc, ho, he⟩
  have ka := blkA ba
  have kb := blkA bb
  have ko := blkA bo
  have htl : s.length + 3 < t.length := (List.getElem?_eq_some_iff.1 bo).1
  simp only [XX, CC, Nat.reduceAdd, Nat.reduceSub, Nat.reduceLeDiff, Nat.reduceLT, Nat.reduceEqDiff, reduceIte, ↓reduceIte, Nat.reduceBEq, g2, g3, g4, g6, g7, g8]
  cases d with
  | zero =>
    simp only [dec_f (show ¬ ((0 : Nat) : Int) - 1 ≥ 0 by omega), XX, CC, Nat.reduceAdd, Nat.reduceSub, Nat.reduceLeDiff, Nat.reduceLT, Nat.reduceEqDiff, reduceIte, ↓reduceIte, Nat.reduceBEq, g2, g3, g4, g6, g7, g8, ko, wr_A b0, blkA (key_set (t := t) (b := s.length + 2) (x := .cells true (cA o)) (by omega))]
    refine ret_drop (hx.set (by omega) _) rfl ⟨?_, rfl⟩
    rw [show (2 : Nat) ^ (128 - 0) = 340282366920938463463374607431768211456 from rfl, Nat.mod_eq_of_lt ha, Nat.mod_eq_of_lt hb] at he
    rw [show (2 : Nat) ^ (128 - 0) = 340282366920938463463374607431768211456 from rfl] at ho
    have e1 : (a + b) % 340282366920938463463374607431768211456 = o := by omega
    have e2 : ((c : Int) == 1) = ovr a b := by
      by_cases h : 340282366920938463463374607431768211456 ≤ a + b
      · rw [ovr_t h]; exact beq_iff_eq.2 (by omega)
      · rw [ovr_f h]; exact beq_eq_false_iff_ne.2 (by omega)
    rw [e1, e2]
  | succ d =>
    have ei : (((d + 1 : Nat) : Int) - 1) = (d : Int) := by omega
    rw [ei] at g8
    simp only [ei, dec_t (show (d : Int) ≥ 0 by omega), XX, CC, Nat.reduceAdd, Nat.reduceSub, Nat.reduceLeDiff, Nat.reduceLT, Nat.reduceEqDiff, reduceIte, ↓reduceIte, Nat.reduceBEq, g2, g3, g4, g6, g7, g8]
    have hj : 128 - d = 128 - (d + 1) + 1 := by omega
    have hj2 : 127 - d = 128 - (d + 1) := by omega
    have ma := mod_next a (128 - (d + 1))
    have mb := mod_next b (128 - (d + 1))
    rw [← hj] at ma mb
    have bba : bitN a d = a / 2 ^ (128 - (d + 1)) % 2 := by unfold bitN; rw [hj2]
    have bbb : bitN b d = b / 2 ^ (128 - (d + 1)) % 2 := by unfold bitN; rw [hj2]
    rw [← bba] at ma
    rw [← bbb] at mb
    have la := bitN_lt a d
    have lb := bitN_lt b d
    have pj : 2 ^ (128 - d) = 2 ^ (128 - (d + 1)) * 2 := by rw [hj, Nat.pow_succ]
    refine drw_in [] rfl ?_
    simp only [List.append_nil, DD, CC, Nat.reduceAdd, Nat.reduceSub, Nat.reduceLeDiff, Nat.reduceLT, Nat.reduceEqDiff, reduceIte, ↓reduceIte, Nat.reduceBEq, g2, g3, g4, g6, g7, g8, ka, kb]
    refine dr_call (bit_r _ a d (by omega) ha) ?_
    simp only [DD, CC, Nat.reduceAdd, Nat.reduceSub, Nat.reduceLeDiff, Nat.reduceLT, Nat.reduceEqDiff, reduceIte, ↓reduceIte, Nat.reduceBEq, g2, g3, g4, g6, g7, g8, ka, kb]
    refine dr_call (bit_r _ b d (by omega) hb) ?_
    simp only [DD, CC, Nat.reduceAdd, Nat.reduceSub, Nat.reduceLeDiff, Nat.reduceLT, Nat.reduceEqDiff, reduceIte, ↓reduceIte, Nat.reduceBEq, g2, g3, g4, g6, g7, g8, ka, kb, bin_addn (show bitN a d + bitN b d < 18446744073709551616 by omega), bin_addn (show bitN a d + bitN b d + c < 18446744073709551616 by omega)]
    have hlt : o < 340282366920938463463374607431768211456 := by
      refine Nat.lt_of_lt_of_le ho ?_
      rw [show (340282366920938463463374607431768211456 : Nat) = 2 ^ 128 from rfl]
      exact Nat.pow_le_pow_right (by decide) (by omega)
    simp only [bin_rem2, bin_quo2 (show bitN a d + (bitN b d + c) < 18446744073709551616 by omega), XX, CC, Nat.reduceAdd, Nat.reduceSub, Nat.reduceLeDiff, Nat.reduceLT, Nat.reduceEqDiff, reduceIte, ↓reduceIte, Nat.reduceBEq, g2, g3, g4, g6, g7, g8]
    cases c1 : (((bitN a d + (bitN b d + c)) % 2 : Nat) : Int) == 1
    · simp only [bin_rem2, bin_quo2 (show bitN a d + (bitN b d + c) < 18446744073709551616 by omega), XX, CC, Nat.reduceAdd, Nat.reduceSub, Nat.reduceLeDiff, Nat.reduceLT, Nat.reduceEqDiff, reduceIte, ↓reduceIte, Nat.reduceBEq, g2, g3, g4, g6, g7, g8]
      have c1 := beq_eq_false_iff_ne.1 c1
      refine loop_again ⟨d, by omega, hx, ba, bb, b0, (bitN a d + (bitN b d + c)) / 2, o, bo, by omega, ?_, ?_, ?_, ?_, ?_, ?_, by omega, ?_, ?_⟩ <;> (try simp only [XX, CC, Nat.reduceAdd, Nat.reduceSub, Nat.reduceLeDiff, Nat.reduceLT, Nat.reduceEqDiff, reduceIte, ↓reduceIte, Nat.reduceBEq, g2, g3, g4, g6, g7, g8])
      · rw [w64_in (by omega) (by omega)]
      · rw [pj]; omega
      · generalize ht : 2 ^ (128 - (d + 1)) = t at *
        have hb1 : bitN a d = 0 ∨ bitN a d = 1 := by omega
        have hb2 : bitN b d = 0 ∨ bitN b d = 1 := by omega
        have hc2 : c = 0 ∨ c = 1 := by omega
        rw [ma, mb, pj]
        rcases hb1 with h1 | h1 <;> rcases hb2 with h2 | h2 <;> rcases hc2 with h3 | h3 <;> simp only [h1, h2, h3] at * <;> omega
    · simp only [bin_rem2, bin_quo2 (show bitN a d + (bitN b d + c) < 18446744073709551616 by omega), XX, CC, Nat.reduceAdd, Nat.reduceSub, Nat.reduceLeDiff, Nat.reduceLT, Nat.reduceEqDiff, reduceIte, ↓reduceIte, Nat.reduceBEq, g2, g3, g4, g6, g7, g8, ko]
      have c1 := beq_iff_eq.1 c1
      refine (with_r _ o d (by omega) hlt (by unfold bitN; rw [hj2, Nat.div_eq_of_lt ho])).use ?_
      simp only [bin_rem2, bin_quo2 (show bitN a d + (bitN b d + c) < 18446744073709551616 by omega), XX, CC, Nat.reduceAdd, Nat.reduceSub, Nat.reduceLeDiff, Nat.reduceLT, Nat.reduceEqDiff, reduceIte, ↓reduceIte, Nat.reduceBEq, g2, g3, g4, g6, g7, g8, ko, wr_A bo]
      refine loop_again ⟨d, by omega, hx.set (by omega) _, set_at ba (by omega), set_at bb (by omega), set_at b0 (by omega), (bitN a d + (bitN b d + c)) / 2, o + 2 ^ (127 - d), key_set htl, by omega, ?_, ?_, ?_, ?_, ?_, ?_, by omega, ?_, ?_⟩ <;> (try simp only [XX, CC, Nat.reduceAdd, Nat.reduceSub, Nat.reduceLeDiff, Nat.reduceLT, Nat.reduceEqDiff, reduceIte, ↓reduceIte, Nat.reduceBEq, g2, g3, g4, g6, g7, g8])
      · rw [w64_in (by omega) (by omega)]
      · rw [pj, hj2]; omega
      · rw [hj2]
        generalize ht : 2 ^ (128 - (d + 1)) = t at *
        have hb1 : bitN a d = 0 ∨ bitN a d = 1 := by omega
        have hb2 : bitN b d = 0 ∨ bitN b d = 1 := by omega
        have hc2 : c = 0 ∨ c = 1 := by omega
        rw [ma, mb, pj]
        rcases hb1 with h1 | h1 <;> rcases hb2 with h2 | h2 <;> rcases hc2 with h3 | h3 <;> simp only [h1, h2, h3] at * <;> omega
set_option maxHeartbeats 1000000 in
/-- tenancyref01.Sub -/
theorem rsub_r (s : St) (a b : Nat) (ha : a < 340282366920938463463374607431768211456) (hb : b < 340282366920938463463374607431768211456) : RunD T f_r01_Sub [aA a, aA b] s (.tup [aA ((a + 340282366920938463463374607431768211456 - b) % 340282366920938463463374607431768211456), .bool (decide (a < b))]) s := by
  refine run_body (F := r_r01_Sub) rfl (by simp [r_r01_Sub]) ?_
  simp only [r_r01_Sub, XX, CC, Nat.reduceAdd, Nat.reduceSub, Nat.reduceLeDiff, Nat.reduceLT, Nat.reduceEqDiff, reduceIte, ↓reduceIte, Nat.reduceBEq]
  refine awp_loop (fun d e t => Ext s t ∧ t[s.length]? = some (.cells true (cA a)) ∧ t[s.length + 1]? = some (.cells true (cA b)) ∧ t[s.length + 2]? = some (.cells true (cA 0)) ∧ ∃ c o : Nat, t[s.length + 3]? = some (.cells true (cA o)) ∧
    d ≤ 128 ∧ e.get 2 = .ptr s.length 0 ∧ e.get 3 = .ptr (s.length + 1) 0 ∧ e.get 4 = .ptr (s.length + 2) 0 ∧ e.get 6 = .ptr (s.length + 3) 0 ∧ e.get 7 = .int .u64 (c : Int) ∧ e.get 8 = .int .i64 ((d : Int) - 1) ∧
    c < 2 ∧ o < 2 ^ (128 - d) ∧ a % 2 ^ (128 - d) + c * 2 ^ (128 - d) = b % 2 ^ (128 - d) + o) 128 ?_ ?_
  · refine ⟨⟨_, rfl⟩, by simp, by simp, by simp; rfl, 0, 0, by simp; rfl, by omega, ?_, ?_, ?_, ?_, ?_, ?_, by omega, by decide, by simp [Nat.mod_one]⟩ <;> (try simp only [XX, CC, Nat.reduceAdd, Nat.reduceSub, Nat.reduceLeDiff, Nat.reduceLT, Nat.reduceEqDiff, reduceIte, ↓reduceIte, Nat.reduceBEq]) <;> rfl
  rintro d e t ⟨hx, ba, bb, b0, c, o, bo, hd, g2, g3, g4, g6, g7, g8, hc, ho, he⟩
  have ka := blkA ba
  have kb := blkA bb
  have ko := blkA bo
  have htl : s.length + 3 < t.length := (List.getElem?_eq_some_iff.1 bo).1
  simp only [XX, CC, Nat.reduceAdd, Nat.reduceSub, Nat.reduceLeDiff, Nat.reduceLT, Nat.reduceEqDiff, reduceIte, ↓reduceIte, Nat.reduceBEq, g2, g3, g4, g6, g7, g8]
  cases d with
  | zero =>
    simp only [dec_f (show ¬ ((0 : Nat) : Int) - 1 ≥ 0 by omega), XX, CC, Nat.reduceAdd, Nat.reduceSub, Nat.reduceLeDiff, Nat.reduceLT, Nat.reduceEqDiff, reduceIte, ↓reduceIte, Nat.reduceBEq, g2, g3, g4, g6, g7, g8, ko, wr_A b0, blkA (key_set (t := t) (b := s.length + 2) (x := .cells true (cA o)) (by omega))]
    refine ret_drop (hx.set (by omega) _) rfl ⟨?_, rfl⟩
    rw [show (2 : Nat) ^ (128 - 0) = 340282366920938463463374607431768211456 from rfl, Nat.mod_eq_of_lt ha, Nat.mod_eq_of_lt hb] at he
    rw [show (2 : Nat) ^ (128 - 0) = 340282366920938463463374607431768211456 from rfl] at ho
    have e1 : (a + 340282366920938463463374607431768211456 - b) % 340282366920938463463374607431768211456 = o := by omega
    have e2 : ((c : Int) == 1) = decide (a < b) := by
      by_cases h : a < b
      · rw [dec_t h]; exact beq_iff_eq.2 (by omega)
      · rw [dec_f h]; exact beq_eq_false_iff_ne.2 (by omega)
    rw [e1, e2]
  | succ d =>
    have ei : (((d + 1 : Nat) : Int) - 1) = (d : Int) := by omega
    rw [ei] at g8
    simp only [ei, dec_t (show (d : Int) ≥ 0 by omega), XX, CC, Nat.reduceAdd, Nat.reduceSub, Nat.reduceLeDiff, Nat.reduceLT, Nat.reduceEqDiff, reduceIte, ↓reduceIte, Nat.reduceBEq, g2, g3, g4, g6, g7, g8]
    have hj : 128 - d = 128 - (d + 1) + 1 := by omega
    have hj2 : 127 - d = 128 - (d + 1) := by omega
    have ma := mod_next a (128 - (d + 1))
    have mb := mod_next b (128 - (d + 1))
    rw [← hj] at ma mb
    have bba : bitN a d = a / 2 ^ (128 - (d + 1)) % 2 := by unfold bitN; rw [hj2]
    have bbb : bitN b d = b / 2 ^ (128 - (d + 1)) % 2 := by unfold bitN; rw [hj2]
    rw [← bba] at ma
    rw [← bbb] at mb
    have la := bitN_lt a d
    have lb := bitN_lt b d
    have pj : 2 ^ (128 - d) = 2 ^ (128 - (d + 1)) * 2 := by rw [hj, Nat.pow_succ]
    have q1 : IntKind.u64.wrap ((bitN a d : Int) + 2) = ((bitN a d + 2 : Nat) : Int) := by rw [wu64_in (by omega) (by omega)]; rfl
    have q2 : IntKind.u64.wrap (((bitN a d + 2 : Nat) : Int) - (bitN b d : Int)) = ((bitN a d + 2 - bitN b d : Nat) : Int) := by rw [wu64_in (by omega) (by omega)]; omega
    have q3 : IntKind.u64.wrap (((bitN a d + 2 - bitN b d : Nat) : Int) - (c : Int)) = ((bitN a d + 2 - bitN b d - c : Nat) : Int) := by rw [wu64_in (by omega) (by omega)]; omega
    have q4 : IntKind.u64.wrap (1 - (((bitN a d + 2 - bitN b d - c) / 2 : Nat) : Int)) = ((1 - (bitN a d + 2 - bitN b d - c) / 2 : Nat) : Int) := by rw [wu64_in (by omega) (by omega)]; omega
    refine drw_in [] rfl ?_
    simp only [List.append_nil, DD, CC, Nat.reduceAdd, Nat.reduceSub, Nat.reduceLeDiff, Nat.reduceLT, Nat.reduceEqDiff, reduceIte, ↓reduceIte, Nat.reduceBEq, g2, g3, g4, g6, g7, g8, ka, kb]
    refine dr_call (bit_r _ a d (by omega) ha) ?_
    simp only [DD, CC, Nat.reduceAdd, Nat.reduceSub, Nat.reduceLeDiff, Nat.reduceLT, Nat.reduceEqDiff, reduceIte, ↓reduceIte, Nat.reduceBEq, g2, g3, g4, g6, g7, g8, ka, kb]
    refine dr_call (bit_r _ b d (by omega) hb) ?_
    simp only [DD, CC, Nat.reduceAdd, Nat.reduceSub, Nat.reduceLeDiff, Nat.reduceLT, Nat.reduceEqDiff, reduceIte, ↓reduceIte, Nat.reduceBEq, g2, g3, g4, g6, g7, g8, ka, kb, q1, q2, q3]
    have hlt : o < 340282366920938463463374607431768211456 := by
      refine Nat.lt_of_lt_of_le ho ?_
      rw [show (340282366920938463463374607431768211456 : Nat) = 2 ^ 128 from rfl]
      exact Nat.pow_le_pow_right (by decide) (by omega)
    simp only [bin_rem2, bin_quo2 (show bitN a d + 2 - bitN b d - c < 18446744073709551616 by omega), q4, XX, CC, Nat.reduceAdd, Nat.reduceSub, Nat.reduceLeDiff, Nat.reduceLT, Nat.reduceEqDiff, reduceIte, ↓reduceIte, Nat.reduceBEq, g2, g3, g4, g6, g7, g8]
    cases c1 : (((bitN a d + 2 - bitN b d - c) % 2 : Nat) : Int) == 1
    · simp only [bin_rem2, bin_quo2 (show bitN a d + 2 - bitN b d - c < 18446744073709551616 by omega), q4, XX, CC, Nat.reduceAdd, Nat.reduceSub, Nat.reduceLeDiff, Nat.reduceLT, Nat.reduceEqDiff, reduceIte, ↓reduceIte, Nat.reduceBEq, g2, g3, g4, g6, g7, g8]
      have c1 := beq_eq_false_iff_ne.1 c1
      refine loop_again ⟨d, by omega, hx, ba, bb, b0, 1 - (bitN a d + 2 - bitN b d - c) / 2, o, bo, by omega, ?_, ?_, ?_, ?_, ?_, ?_, by omega, ?_, ?_⟩ <;> (try simp only [XX, CC, Nat.reduceAdd, Nat.reduceSub, Nat.reduceLeDiff, Nat.reduceLT, Nat.reduceEqDiff, reduceIte, ↓reduceIte, Nat.reduceBEq, g2, g3, g4, g6, g7, g8])
      · rw [w64_in (by omega) (by omega)]
      · rw [pj]; omega
      · generalize ht : 2 ^ (128 - (d + 1)) = t at *
        have hb1 : bitN a d = 0 ∨ bitN a d = 1 := by omega
        have hb2 : bitN b d = 0 ∨ bitN b d = 1 := by omega
        have hc2 : c = 0 ∨ c = 1 := by omega
        rw [ma, mb, pj]
        rcases hb1 with h1 | h1 <;> rcases hb2 with h2 | h2 <;> rcases hc2 with h3 | h3 <;> simp only [h1, h2, h3] at * <;> omega
    · simp only [bin_rem2, bin_quo2 (show bitN a d + 2 - bitN b d - c < 18446744073709551616 by omega), q4, XX, CC, Nat.reduceAdd, Nat.reduceSub, Nat.reduceLeDiff, Nat.reduceLT, Nat.reduceEqDiff, reduceIte, ↓reduceIte, Nat.reduceBEq, g2, g3, g4, g6, g7, g8, ko]
      have c1 := beq_iff_eq.1 c1
      refine (with_r _ o d (by omega) hlt (by unfold bitN; rw [hj2, Nat.div_eq_of_lt ho])).use ?_
      simp only [bin_rem2, bin_quo2 (show bitN a d + 2 - bitN b d - c < 18446744073709551616 by omega), q4, XX, CC, Nat.reduceAdd, Nat.reduceSub, Nat.reduceLeDiff, Nat.reduceLT, Nat.reduceEqDiff, reduceIte, ↓reduceIte, Nat.reduceBEq, g2, g3, g4, g6, g7, g8, ko, wr_A bo]
      refine loop_again ⟨d, by omega, hx.set (by omega) _, set_at ba (by omega), set_at bb (by omega), set_at b0 (by omega), 1 - (bitN a d + 2 - bitN b d - c) / 2, o + 2 ^ (127 - d), key_set htl, by omega, ?_, ?_, ?_, ?_, ?_, ?_, by omega, ?_, ?_⟩ <;> (try simp only [XX, CC, Nat.reduceAdd, Nat.reduceSub, Nat.reduceLeDiff, Nat.reduceLT, Nat.reduceEqDiff, reduceIte, ↓reduceIte, Nat.reduceBEq, g2, g3, g4, g6, g7, g8])
      · rw [w64_in (by omega) (by omega)]
      · rw [pj, hj2]; omega
      · rw [hj2]
        generalize ht : 2 ^ (128 - (d + 1)) = t at *
        have hb1 : bitN a d = 0 ∨ bitN a d = 1 := by omega
        have hb2 : bitN b d = 0 ∨ bitN b d = 1 := by omega
        have hc2 : c = 0 ∨ c = 1 := by omega
        rw [ma, mb, pj]
        rcases hb1 with h1 | h1 <;> rcases hb2 with h2 | h2 <;> rcases hc2 with h3 | h3 <;> simp only [h1, h2, h3] at * <;> omega
end Go.Ev
