import Derived.Test.YtkainejbilbjfaaEvR
/-! Whole numbers of 128 bits as two halves of 64. -/
namespace Go.Ev
set_option linter.unusedVariables false
set_option linter.unusedSimpArgs false
/-- the upper half -/
def H (n : Nat) : Int := ((n / 18446744073709551616 : Nat) : Int)
/-- the lower half -/
def L (n : Nat) : Int := ((n % 18446744073709551616 : Nat) : Int)
theorem H_ge (n : Nat) : 0 ≤ H n := Int.natCast_nonneg _
theorem L_ge (n : Nat) : 0 ≤ L n := Int.natCast_nonneg _
theorem L_lt (n : Nat) : L n < 18446744073709551616 := by unfold L; omega
theorem H_lt {n : Nat} (h : n < 340282366920938463463374607431768211456) : H n < 18446744073709551616 := by unfold H; omega
theorem HL_eq (n : Nat) : H n * 18446744073709551616 + L n = n := by unfold H L; omega
theorem HL_inj {a b : Nat} (h : H a = H b) (l : L a = L b) : a = b := by unfold H L at *; omega
theorem HL_beq (a b : Nat) : (H a == H b && (L a == L b)) = decide (a = b) := by
  by_cases h : a = b
  · subst h; simp
  · rw [decide_eq_false h]
    by_cases h1 : H a = H b
    · have h2 : ¬ L a = L b := fun h2 => h (HL_inj h1 h2)
      simp [h1, h2]
    · simp [h1]
theorem HL_bne (a b : Nat) : (!(H a == H b) || (!(L a == L b))) = decide (a ≠ b) := by
  have := HL_beq a b
  by_cases h : a = b
  · subst h; simp
  · rw [decide_eq_false h] at this
    rw [decide_eq_true h, ← Bool.not_and, this]; rfl
theorem HL_zero (a : Nat) : (H a == 0 && (L a == 0)) = decide (a = 0) := HL_beq a 0
theorem HL_zero' (a : Nat) : (0 == H a && (0 == L a)) = decide (a = 0) := by
  have := HL_beq 0 a
  rw [show H 0 = 0 from rfl, show L 0 = 0 from rfl] at this
  rw [this]; exact decide_eq_decide.2 eq_comm

/-- the order of two numbers, as -1, 0, 1 -/
def cmpN (a b : Nat) : Int := if a < b then -1 else if a = b then 0 else 1
theorem cmpN_lt {a b : Nat} : cmpN a b < 0 ↔ a < b := by unfold cmpN; split <;> (try split) <;> omega
theorem cmpN_le {a b : Nat} : cmpN a b ≤ 0 ↔ a ≤ b := by unfold cmpN; split <;> (try split) <;> omega
theorem cmpN_ge {a b : Nat} : cmpN a b ≥ 0 ↔ b ≤ a := by unfold cmpN; split <;> (try split) <;> omega
theorem cmpN_gt {a b : Nat} : cmpN a b > 0 ↔ b < a := by unfold cmpN; split <;> (try split) <;> omega

theorem cmpN_dlt (a b : Nat) : decide (cmpN a b < 0) = decide (a < b) := decide_eq_decide.2 cmpN_lt
theorem cmpN_dle (a b : Nat) : decide (cmpN a b ≤ 0) = decide (a ≤ b) := decide_eq_decide.2 cmpN_le
theorem cmpN_dge (a b : Nat) : decide (cmpN a b ≥ 0) = decide (b ≤ a) := decide_eq_decide.2 cmpN_ge
theorem cmpN_dgt (a b : Nat) : decide (cmpN a b > 0) = decide (b < a) := decide_eq_decide.2 cmpN_gt

theorem w64_in {x : Int} (h1 : -9223372036854775808 ≤ x) (h2 : x ≤ 9223372036854775807) : IntKind.i64.wrap x = x := by rw [IntKind.wrap_i64]; omega
theorem w64_nat {i : Nat} (h : i < 4611686018427387904) : IntKind.i64.wrap ((i : Int) + 1) = ((i + 1 : Nat) : Int) := by rw [w64_in (by omega) (by omega)]; omega
theorem w64_pred {i : Nat} (h : i < 4611686018427387904) : IntKind.i64.wrap (((i + 1 : Nat) : Int) - 1) = (i : Int) := by rw [w64_in (by omega) (by omega)]; omega
theorem w64_sub {i : Nat} (h0 : 0 < i) (h : i < 4611686018427387904) : IntKind.i64.wrap ((i : Int) - 1) = ((i - 1 : Nat) : Int) := by rw [w64_in (by omega) (by omega)]; omega
theorem wu64 (x : Int) : IntKind.u64.wrap x = x % 18446744073709551616 := by simp [IntKind.wrap, IntKind.bits, IntKind.signed]

/-- whether a sum is too great -/
def ovr (a b : Nat) : Bool := decide (340282366920938463463374607431768211456 ≤ a + b)
theorem ovr_t {a b : Nat} (h : 340282366920938463463374607431768211456 ≤ a + b) : ovr a b = true := decide_eq_true h
theorem ovr_f {a b : Nat} (h : ¬ 340282366920938463463374607431768211456 ≤ a + b) : ovr a b = false := decide_eq_false h
/-- an address's cells -/
def cA (n : Nat) : List AV := [.int .u64 (H n), .int .u64 (L n)]
/-- an address -/
abbrev aA (n : Nat) : AV := .agg (cA n)
/-- a range's cells -/
def cR (r : Nat × Nat) : List AV := [.int .u64 (H r.1), .int .u64 (L r.1), .int .u64 (H r.2), .int .u64 (L r.2)]
abbrev aR (r : Nat × Nat) : AV := .agg (cR r)
theorem cA_len (n : Nat) : (cA n).length = 2 := rfl
theorem cR_len (r : Nat × Nat) : (cR r).length = 4 := rfl
end Go.Ev
