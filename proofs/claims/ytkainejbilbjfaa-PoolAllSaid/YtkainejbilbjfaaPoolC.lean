import Derived.Test.YtkainejbilbjfaaPoolB
/-! bits.Len64, LeadingZeros64. -/
namespace Go.Ev
set_option linter.unusedVariables false
set_option linter.unusedSimpArgs false
open Go.Ev.Sp

def ixsA (x i : AV) : Option AV := match x, i with
  | .str s, .int _ j => if h : 0 ≤ j ∧ j.toNat < s.size then some (.int .u8 (s[j.toNat]'h.2).toNat) else none
  | _, _ => none
theorem op_ixs {X : Oracle} {e : Env} {s : St} {q : AV → St → Prop} {x i : RX} : opA X (.ixs x i) e s q = ob (ixsA (x.ev e) (i.ev e)) fun v => q v s := rfl
def lenTab : List Nat := [0, 1, 2, 2, 3, 3, 3, 3, 4, 4, 4, 4, 4, 4, 4, 4] ++ List.replicate 16 5 ++ List.replicate 32 6 ++ List.replicate 64 7 ++ List.replicate 128 8
def lenOk (i : Nat) : Bool := match ixsA (.str (bts lenTab)) (.int .u8 (i : Int)) with
  | some (.int .u8 (.ofNat k)) => decide (i < 2 ^ k) && decide (k ≤ 8) && (decide (i = 0) || decide (1 ≤ k))
  | _ => false
theorem lenOk_all : (List.range 256).all lenOk = true := by kernel_rfl
theorem len_at {i : Nat} (h : i < 256) : ∃ k : Nat, ixsA (.str (bts lenTab)) (.int .u8 (i : Int)) = some (.int .u8 (k : Int)) ∧ i < 2 ^ k ∧ k ≤ 8 ∧ (i ≠ 0 → 1 ≤ k) := by
  have := List.all_eq_true.1 lenOk_all i (List.mem_range.2 h)
  unfold lenOk at this
  split at this
  · rename_i k hk
    simp only [Bool.and_eq_true, Bool.or_eq_true, decide_eq_true_eq] at this
    exact ⟨k, hk, this.1.1, this.1.2, fun h0 => this.2.resolve_left h0⟩
  · simp at this

/-- The text of Len64, its table a name. -/
def lenD (tab : ByteArray) : RC := .seq (.reg [⟨(some 19), none, (.mv (.t 2))⟩, ⟨(some 20), none, (.mv (.t 0))⟩, ⟨(some 21), none, (.cvi .u8 (.t 20))⟩, ⟨(some 22), none, (.ixs (.k (.str tab)) (.t 21))⟩, ⟨(some 23), none, (.cvi .i64 (.t 22))⟩, ⟨(some 24), none, (.bin .add (.t 19) (.t 23))⟩, ⟨(some 2), none, (.mv (.t 24))⟩]) .ret
def lenP (c : RC) : RC := .seq (.reg [⟨(some 2), none, (.mv (.k (.int .i64 0)))⟩]) (.seq (.seq (.reg [⟨(some 3), none, (.mv (.t 0))⟩, ⟨(some 4), none, (.bin .geq (.t 3) (.k (.int .u64 4294967296)))⟩]) (.cond (.t 4) (.seq (.reg [⟨(some 5), none, (.mv (.t 0))⟩,
  ⟨(some 6), none, (.bin .shr (.t 5) (.k (.int .u64 32)))⟩, ⟨(some 0), none, (.mv (.t 6))⟩]) (.reg [⟨(some 2), none, (.mv (.k (.int .i64 32)))⟩])) .skip)) (.seq (.seq
  (.reg [⟨(some 7), none, (.mv (.t 0))⟩, ⟨(some 8), none, (.bin .geq (.t 7) (.k (.int .u64 65536)))⟩]) (.cond (.t 8) (.seq (.reg [⟨(some 9), none, (.mv (.t 0))⟩,
  ⟨(some 10), none, (.bin .shr (.t 9) (.k (.int .u64 16)))⟩, ⟨(some 0), none, (.mv (.t 10))⟩]) (.reg [⟨(some 11), none, (.mv (.t 2))⟩,
  ⟨(some 12), none, (.bin .add (.t 11) (.k (.int .i64 16)))⟩, ⟨(some 2), none, (.mv (.t 12))⟩])) .skip)) (.seq (.seq (.reg [⟨(some 13), none, (.mv (.t 0))⟩,
  ⟨(some 14), none, (.bin .geq (.t 13) (.k (.int .u64 256)))⟩]) (.cond (.t 14) (.seq (.reg [⟨(some 15), none, (.mv (.t 0))⟩,
  ⟨(some 16), none, (.bin .shr (.t 15) (.k (.int .u64 8)))⟩, ⟨(some 0), none, (.mv (.t 16))⟩]) (.reg [⟨(some 17), none, (.mv (.t 2))⟩,
  ⟨(some 18), none, (.bin .add (.t 17) (.k (.int .i64 8)))⟩, ⟨(some 2), none, (.mv (.t 18))⟩])) .skip)) c)))
theorem len_text : r_bits_Len64.body = lenP (lenD (bts lenTab)) := by kernel_rfl
set_option maxHeartbeats 4000000 in
theorem len64_r (s : St) (n : Nat) (hn : n < 18446744073709551616) : Run T f_bits_Len64 [.int .u64 n] s fun a t' => ∃ k : Nat, a = .int .i64 k ∧ t' = s ∧ n < 2 ^ k ∧ k ≤ 64 ∧ (n ≠ 0 → 1 ≤ k) := by
  refine run_body (F := r_bits_Len64) rfl (Nat.le_of_ble_eq_true rfl) ?_
  rw [len_text, show r_bits_Len64.res = [.tmp 2] from rfl]
  obtain ⟨tab, htab⟩ : ∃ tab, tab = bts lenTab := ⟨_, rfl⟩
  rw [← htab]
  have fin : ∀ (n r m : Nat), n < 256 → r ≤ 56 → m < (n + 1) * 2 ^ r → (m ≠ 0 → n ≠ 0 ∨ 1 ≤ r) → ∃ k : Nat, ixsA (.str (bts lenTab)) (.int .u8 (n : Int)) = some (.int .u8 (k : Int)) ∧ k ≤ 8 ∧ m < 2 ^ (r + k) ∧ r + k ≤ 64 ∧ (m ≠ 0 → 1 ≤ r + k) := by
    intro n r m h1 h2 h3 h4
    obtain ⟨k, k1, k2, k3, k4⟩ := len_at h1
    refine ⟨k, k1, k3, ?_, by omega, fun h => ?_⟩
    · refine Nat.lt_of_lt_of_le h3 ?_
      rw [Nat.pow_add, Nat.mul_comm]
      exact Nat.mul_le_mul_left _ k2
    · rcases h4 h with h | h
      · have := k4 h; omega
      · omega
  have w8 : ∀ x : Nat, x < 256 → IntKind.u8.wrap (x : Int) = (x : Int) := fun x hx => by simp [IntKind.wrap, IntKind.bits, IntKind.signed]; omega
  have sh : ∀ (x : Nat) , binA .shr (.int .u64 (x : Int)) (.int .u64 32) = some (.int .u64 ((x / 2 ^ 32 : Nat) : Int)) ∧ binA .shr (.int .u64 (x : Int)) (.int .u64 16) = some (.int .u64 ((x / 2 ^ 16 : Nat) : Int)) ∧ binA .shr (.int .u64 (x : Int)) (.int .u64 8) = some (.int .u64 ((x / 2 ^ 8 : Nat) : Int)) :=
    fun x => ⟨bin_shr (n := 32) (by decide), bin_shr (n := 16) (by decide), bin_shr (n := 8) (by decide)⟩
  have wi : ∀ a b : Nat, a ≤ 64 → b ≤ 64 → IntKind.i64.wrap ((a : Int) + (b : Int)) = ((a + b : Nat) : Int) := fun a b h1 h2 => by rw [w64_in (by omega) (by omega)]; omega
  have wk : ∀ a : Nat, a ≤ 64 → IntKind.i64.wrap (a : Int) = (a : Int) := fun a h1 => by rw [w64_in (by omega) (by omega)]
  obtain ⟨n1, r1, hn1, e1, hr1, hb1⟩ : ∃ n1 r1 : Nat, (n1 < 4294967296) ∧ ((4294967296 ≤ n ∧ n1 = n / 2 ^ 32 ∧ r1 = 32) ∨ (n < 4294967296 ∧ n1 = n ∧ r1 = 0)) ∧ n < (n1 + 1) * 2 ^ r1 ∧ (n ≠ 0 → n1 ≠ 0 ∨ 1 ≤ r1) := by
    by_cases c : 4294967296 ≤ n
    · exact ⟨n / 2 ^ 32, 32, by omega, .inl ⟨c, rfl, rfl⟩, by omega, by omega⟩
    · exact ⟨n, 0, by omega, .inr ⟨by omega, rfl, rfl⟩, by omega, by omega⟩
  obtain ⟨n2, r2, hn2, e2, hr2, hb2⟩ : ∃ n2 r2 : Nat, (n2 < 65536) ∧ ((65536 ≤ n1 ∧ n2 = n1 / 2 ^ 16 ∧ r2 = r1 + 16) ∨ (n1 < 65536 ∧ n2 = n1 ∧ r2 = r1)) ∧ n < (n2 + 1) * 2 ^ r2 ∧ (n ≠ 0 → n2 ≠ 0 ∨ 1 ≤ r2) := by
    by_cases c : 65536 ≤ n1
    · refine ⟨n1 / 2 ^ 16, r1 + 16, by omega, .inl ⟨c, rfl, rfl⟩, Nat.lt_of_lt_of_le hr1 ?_, by omega⟩
      rw [Nat.pow_add, Nat.mul_comm (2 ^ r1), ← Nat.mul_assoc]
      exact Nat.mul_le_mul_right _ (by omega)
    · exact ⟨n1, r1, by omega, .inr ⟨by omega, rfl, rfl⟩, hr1, hb1⟩
  obtain ⟨n3, r3, hn3, e3, hr3, hb3⟩ : ∃ n3 r3 : Nat, (n3 < 256) ∧ ((256 ≤ n2 ∧ n3 = n2 / 2 ^ 8 ∧ r3 = r2 + 8) ∨ (n2 < 256 ∧ n3 = n2 ∧ r3 = r2)) ∧ n < (n3 + 1) * 2 ^ r3 ∧ (n ≠ 0 → n3 ≠ 0 ∨ 1 ≤ r3) := by
    by_cases c : 256 ≤ n2
    · refine ⟨n2 / 2 ^ 8, r2 + 8, by omega, .inl ⟨c, rfl, rfl⟩, Nat.lt_of_lt_of_le hr2 ?_, by omega⟩
      rw [Nat.pow_add, Nat.mul_comm (2 ^ r2), ← Nat.mul_assoc]
      exact Nat.mul_le_mul_right _ (by omega)
    · exact ⟨n2, r2, by omega, .inr ⟨by omega, rfl, rfl⟩, hr2, hb2⟩
  have hr3' : r3 ≤ 56 := by omega
  obtain ⟨k, k1, k2, k3, k4, k5⟩ := fin n3 r3 n hn3 hr3' hr3 hb3
  have last : ∀ e : Env, e.get 0 = .int .u64 n3 → e.get 2 = .int .i64 r3 → awp (Run T) (lenD tab) (endK [.tmp 2] s fun a t' => ∃ k : Nat, a = .int .i64 k ∧ t' = s ∧ n < 2 ^ k ∧ k ≤ 64 ∧ (n ≠ 0 → 1 ≤ k)) e s := by
    intro e g0 g2
    rw [← htab] at k1
    simp only [lenD, XX, CC, Nat.reduceAdd, Nat.reduceSub, Nat.reduceLeDiff, Nat.reduceLT, Nat.reduceEqDiff, reduceIte, ↓reduceIte, Nat.reduceBEq, g0, g2, op_cvi, cvi_int, op_ixs, w8 n3 hn3, k1, wk k (by omega), wi r3 k (by omega) (by omega)]
    exact ret_drop (.refl _) rfl ⟨r3 + k, rfl, rfl, k3, k4, k5⟩
  have c32 : ((32 : Nat) : Int) = 32 := rfl
  generalize lenD tab = TAIL at last ⊢
  clear fin w8 wi wk k1 k3 k4 k5 hr1 hb1 hr2 hb2 hr3 hb3
  rcases e1 with ⟨c1, p1, rfl⟩ | ⟨c1, p1, rfl⟩ <;> rcases e2 with ⟨c2, p2, rfl⟩ | ⟨c2, p2, rfl⟩ <;> rcases e3 with ⟨c3, p3, rfl⟩ | ⟨c3, p3, rfl⟩
  · simp only [lenP, XX, CC, Nat.reduceAdd, Nat.reduceSub, Nat.reduceLeDiff, Nat.reduceLT, Nat.reduceEqDiff, reduceIte, ↓reduceIte, Nat.reduceBEq, dec_t (show (n : Int) ≥ 4294967296 by omega), dec_t (show (n1 : Int) ≥ 65536 by omega), dec_t (show (n2 : Int) ≥ 256 by omega), sh n, sh n1, sh n2, ← p1, ← p2, ← p3]
    refine last _ ?_ ?_ <;> simp only [XX, CC, Nat.reduceAdd, Nat.reduceSub, Nat.reduceLeDiff, Nat.reduceLT, Nat.reduceEqDiff, reduceIte, ↓reduceIte, Nat.reduceBEq]
    rfl
  · subst p3
    simp only [lenP, XX, CC, Nat.reduceAdd, Nat.reduceSub, Nat.reduceLeDiff, Nat.reduceLT, Nat.reduceEqDiff, reduceIte, ↓reduceIte, Nat.reduceBEq, dec_t (show (n : Int) ≥ 4294967296 by omega), dec_t (show (n1 : Int) ≥ 65536 by omega), dec_f (show ¬ (n3 : Int) ≥ 256 by omega), sh n, sh n1, ← p1, ← p2]
    refine last _ ?_ ?_ <;> simp only [XX, CC, Nat.reduceAdd, Nat.reduceSub, Nat.reduceLeDiff, Nat.reduceLT, Nat.reduceEqDiff, reduceIte, ↓reduceIte, Nat.reduceBEq]
    rfl
  · subst p2
    simp only [lenP, XX, CC, Nat.reduceAdd, Nat.reduceSub, Nat.reduceLeDiff, Nat.reduceLT, Nat.reduceEqDiff, reduceIte, ↓reduceIte, Nat.reduceBEq, dec_t (show (n : Int) ≥ 4294967296 by omega), dec_f (show ¬ (n2 : Int) ≥ 65536 by omega), dec_t (show (n2 : Int) ≥ 256 by omega), sh n, sh n2, ← p1, ← p3]
    refine last _ ?_ ?_ <;> simp only [XX, CC, Nat.reduceAdd, Nat.reduceSub, Nat.reduceLeDiff, Nat.reduceLT, Nat.reduceEqDiff, reduceIte, ↓reduceIte, Nat.reduceBEq]
    rfl
  · subst p3; subst p2
    simp only [lenP, XX, CC, Nat.reduceAdd, Nat.reduceSub, Nat.reduceLeDiff, Nat.reduceLT, Nat.reduceEqDiff, reduceIte, ↓reduceIte, Nat.reduceBEq, dec_t (show (n : Int) ≥ 4294967296 by omega), dec_f (show ¬ (n3 : Int) ≥ 65536 by omega), dec_f (show ¬ (n3 : Int) ≥ 256 by omega), sh n, ← p1]
    refine last _ ?_ ?_ <;> simp only [XX, CC, Nat.reduceAdd, Nat.reduceSub, Nat.reduceLeDiff, Nat.reduceLT, Nat.reduceEqDiff, reduceIte, ↓reduceIte, Nat.reduceBEq]
    rfl
  · subst p1
    simp only [lenP, XX, CC, Nat.reduceAdd, Nat.reduceSub, Nat.reduceLeDiff, Nat.reduceLT, Nat.reduceEqDiff, reduceIte, ↓reduceIte, Nat.reduceBEq, dec_f (show ¬ (n1 : Int) ≥ 4294967296 by omega), dec_t (show (n1 : Int) ≥ 65536 by omega), dec_t (show (n2 : Int) ≥ 256 by omega), sh n1, sh n2, ← p2, ← p3]
    refine last _ ?_ ?_ <;> simp only [XX, CC, Nat.reduceAdd, Nat.reduceSub, Nat.reduceLeDiff, Nat.reduceLT, Nat.reduceEqDiff, reduceIte, ↓reduceIte, Nat.reduceBEq]
    rfl
  · subst p1; subst p3
    simp only [lenP, XX, CC, Nat.reduceAdd, Nat.reduceSub, Nat.reduceLeDiff, Nat.reduceLT, Nat.reduceEqDiff, reduceIte, ↓reduceIte, Nat.reduceBEq, dec_f (show ¬ (n1 : Int) ≥ 4294967296 by omega), dec_t (show (n1 : Int) ≥ 65536 by omega), dec_f (show ¬ (n3 : Int) ≥ 256 by omega), sh n1, ← p2]
    refine last _ ?_ ?_ <;> simp only [XX, CC, Nat.reduceAdd, Nat.reduceSub, Nat.reduceLeDiff, Nat.reduceLT, Nat.reduceEqDiff, reduceIte, ↓reduceIte, Nat.reduceBEq]
    rfl
  · subst p1; subst p2
    simp only [lenP, XX, CC, Nat.reduceAdd, Nat.reduceSub, Nat.reduceLeDiff, Nat.reduceLT, Nat.reduceEqDiff, reduceIte, ↓reduceIte, Nat.reduceBEq, dec_f (show ¬ (n2 : Int) ≥ 4294967296 by omega), dec_f (show ¬ (n2 : Int) ≥ 65536 by omega), dec_t (show (n2 : Int) ≥ 256 by omega), sh n2, ← p3]
    refine last _ ?_ ?_ <;> simp only [XX, CC, Nat.reduceAdd, Nat.reduceSub, Nat.reduceLeDiff, Nat.reduceLT, Nat.reduceEqDiff, reduceIte, ↓reduceIte, Nat.reduceBEq]
    rfl
  · subst p1; subst p2; subst p3
    simp only [lenP, XX, CC, Nat.reduceAdd, Nat.reduceSub, Nat.reduceLeDiff, Nat.reduceLT, Nat.reduceEqDiff, reduceIte, ↓reduceIte, Nat.reduceBEq, dec_f (show ¬ (n3 : Int) ≥ 4294967296 by omega), dec_f (show ¬ (n3 : Int) ≥ 65536 by omega), dec_f (show ¬ (n3 : Int) ≥ 256 by omega)]
    refine last _ ?_ ?_ <;> simp only [XX, CC, Nat.reduceAdd, Nat.reduceSub, Nat.reduceLeDiff, Nat.reduceLT, Nat.reduceEqDiff, reduceIte, ↓reduceIte, Nat.reduceBEq]
    rfl

/-- bits.LeadingZeros64 -/
theorem lz64_r (s : St) (n : Nat) (hn : n < 18446744073709551616) : Run T f_bits_LeadingZeros64 [.int .u64 n] s fun a t' => ∃ k : Nat, a = .int .i64 (64 - k : Int) ∧ t' = s ∧ n < 2 ^ k ∧ k ≤ 64 ∧ (n ≠ 0 → 1 ≤ k) := by
  refine run_body (F := r_bits_LeadingZeros64) rfl (by simp [r_bits_LeadingZeros64]) ?_
  simp only [r_bits_LeadingZeros64, XX, CC, Nat.reduceAdd, Nat.reduceSub, Nat.reduceLeDiff, Nat.reduceLT, Nat.reduceEqDiff, reduceIte, ↓reduceIte, Nat.reduceBEq]
  refine Run.mono _ _ _ _ _ ?_ (len64_r s n hn)
  rintro a t ⟨k, rfl, rfl, h1, h2, h3⟩
  simp only [XX, CC, Nat.reduceAdd, Nat.reduceSub, Nat.reduceLeDiff, Nat.reduceLT, Nat.reduceEqDiff, reduceIte, ↓reduceIte, Nat.reduceBEq]
  refine ret_drop (.refl _) rfl ⟨k, ?_, rfl, h1, h2, h3⟩
  rw [w64_in (by omega) (by omega)]
theorem bitslen_r (s : St) (n : Nat) (hn : n < 18446744073709551616) : Run T f_bits_Len [.int .u64 n] s fun a t' => ∃ k : Nat, a = .int .i64 k ∧ t' = s := by
  refine run_body (F := r_bits_Len) rfl (by simp [r_bits_Len]) ?_
  simp only [r_bits_Len, XX, CC, Nat.reduceAdd, Nat.reduceSub, Nat.reduceLeDiff, Nat.reduceLT, Nat.reduceEqDiff, reduceIte, ↓reduceIte, Nat.reduceBEq]
  refine Run.mono _ _ _ _ _ ?_ (len64_r s n hn)
  rintro a t ⟨k, rfl, rfl, h1, h2, h3⟩
  exact ret_drop (.refl _) rfl ⟨k, rfl, rfl⟩
end Go.Ev
