/- Whole numbers of 128 bits as two halves of 64: what the shifts and the bitwise operations of the printed functions come to. No condition: plain arithmetic. -/
import Derived.Test.YtpllddgbfhnghaaWMore
import Derived.Laws.BitsLemmas
namespace Go.Proofs.Ytpllddgbfhnghaa
open Go.RowKit Go.Proofs.YtpllddgbfhnghaaW.PrintWords Go.Proofs.YtpllddgbfhnghaaW.PrintLast Go.Proofs.YtpllddgbfhnghaaW.PrintMore

/-- what 'bind' comes to (a proof of its own: no reduction) -/
theorem bindS {α β : Type} (a : α) (f : α → Option β) : (some a).bind f = f a := by rw [Option.bind_some]
/-- the upper half -/
def H (n : Nat) : Int := ((n / 18446744073709551616 : Nat) : Int)
/-- the lower half -/
def L (n : Nat) : Int := ((n % 18446744073709551616 : Nat) : Int)
theorem H_ge (n : Nat) : 0 ≤ H n := Int.natCast_nonneg _
theorem L_ge (n : Nat) : 0 ≤ L n := Int.natCast_nonneg _
theorem L_lt (n : Nat) : L n < 18446744073709551616 := by unfold L; omega
theorem H_lt {n : Nat} (h : n < 340282366920938463463374607431768211456) : H n < 18446744073709551616 := by unfold H; omega
theorem HL_eq (n : Nat) : H n * 18446744073709551616 + L n = n := by unfold H L; omega
theorem HL_inj {a b : Nat} (h : H a = H b) (l : L a = L b) : a = b := by unfold H L at *; omega
theorem HL_beq (a b : Nat) : (H a == H b && (L a == L b)) = decide (a = b) := by
  by_cases h : a = b
  · subst h; simp
  · rw [decide_eq_false h]
    by_cases h1 : H a = H b
    · have h2 : ¬ L a = L b := fun h2 => h (HL_inj h1 h2)
      simp [h1, h2]
    · simp [h1]
theorem HL_bne (a b : Nat) : (!(H a == H b) || (!(L a == L b))) = decide (a ≠ b) := by
  have := HL_beq a b
  by_cases h : a = b
  · subst h; simp
  · rw [decide_eq_false h] at this
    rw [decide_eq_true h, ← Bool.not_and, this]; rfl
theorem HL_zero (a : Nat) : (H a == 0 && (L a == 0)) = decide (a = 0) := HL_beq a 0
theorem HL_zero' (a : Nat) : (0 == H a && (0 == L a)) = decide (a = 0) := by
  have := HL_beq 0 a
  rw [show H 0 = 0 from rfl, show L 0 = 0 from rfl] at this
  rw [this]; exact decide_eq_decide.2 eq_comm
theorem HL_of (x y : Int) (hx : (Lit.int .u64 x).wf = true) (hy : (Lit.int .u64 y).wf = true) : ∃ n : Nat, n < 340282366920938463463374607431768211456 ∧ x = H n ∧ y = L n := by
  have h1 : 0 ≤ x ∧ x ≤ 18446744073709551615 := by simpa [Lit.wf, IntKind.min, IntKind.max, IntKind.signed, IntKind.bits] using hx
  have h2 : 0 ≤ y ∧ y ≤ 18446744073709551615 := by simpa [Lit.wf, IntKind.min, IntKind.max, IntKind.signed, IntKind.bits] using hy
  refine ⟨x.toNat * 18446744073709551616 + y.toNat, by omega, ?_, ?_⟩
  · unfold H; omega
  · unfold L; omega
theorem wf_i64 {x : Int} (h : (Lit.int .i64 x).wf = true) : -9223372036854775808 ≤ x ∧ x ≤ 9223372036854775807 := by simpa [Lit.wf, IntKind.min, IntKind.max, IntKind.signed, IntKind.bits] using h
theorem wf_u64 {x : Int} (h : (Lit.int .u64 x).wf = true) : 0 ≤ x ∧ x ≤ 18446744073709551615 := by simpa [Lit.wf, IntKind.min, IntKind.max, IntKind.signed, IntKind.bits] using h
theorem wf_u8 {x : Int} (h : (Lit.int .u8 x).wf = true) : 0 ≤ x ∧ x ≤ 255 := by simpa [Lit.wf, IntKind.min, IntKind.max, IntKind.signed, IntKind.bits] using h
theorem wf_u32 {x : Int} (h : (Lit.int .u32 x).wf = true) : 0 ≤ x ∧ x ≤ 4294967295 := by simpa [Lit.wf, IntKind.min, IntKind.max, IntKind.signed, IntKind.bits] using h
theorem w64_in {x : Int} (h1 : -9223372036854775808 ≤ x) (h2 : x ≤ 9223372036854775807) : wrap64 x = x := by unfold wrap64; omega
theorem wu64 (x : Int) : IntKind.u64.wrap x = x % 18446744073709551616 := by simp [IntKind.wrap, IntKind.bits, IntKind.signed]
theorem wu64_in {x : Int} (h1 : 0 ≤ x) (h2 : x < 18446744073709551616) : IntKind.u64.wrap x = x := by rw [wu64]; omega

/-! ### bits -/
theorem bv64 (v : BitVec 64) : IntKind.u64.wrap (v.toNat : Int) = v.toNat := by
  have := v.isLt; rw [wu64]; omega
theorem or_nat (a b : Nat) (ha : a < 18446744073709551616) (hb : b < 18446744073709551616) : Go.bits .or .u64 a b = ((a ||| b : Nat) : Int) :=
  (bits_nat .u64 64 (by decide) (fun n h0 h1 => wu64_in h0 (by simpa using h1)) a b (by simpa using ha) (by simpa using hb)).2
theorem and_nat (a b : Nat) (ha : a < 18446744073709551616) (hb : b < 18446744073709551616) : Go.bits .and .u64 a b = ((a &&& b : Nat) : Int) :=
  (bits_nat .u64 64 (by decide) (fun n h0 h1 => wu64_in h0 (by simpa using h1)) a b (by simpa using ha) (by simpa using hb)).1
/-- the two parts lie apart: their 'or' is their sum -/
theorem or_add (x y i : Nat) (hx : x % 2 ^ i = 0) (hy : y < 2 ^ i) : x ||| y = x + y := by
  have hq : x = 2 ^ i * (x / 2 ^ i) := by have := Nat.div_add_mod x (2 ^ i); omega
  rw [hq, ← Nat.two_pow_add_eq_or_of_lt hy (x / 2 ^ i)]
theorem shl_nat (x n : Nat) (hn : n ≤ 64) : shl .u64 x n = ((x * 2 ^ n % 18446744073709551616 : Nat) : Int) := by
  unfold shl
  rw [wu64, show IntKind.u64.bits = 64 from rfl, Int.toNat_natCast, Nat.min_eq_left hn, Int.natCast_emod, Int.natCast_mul, Int.natCast_pow]
  rfl
theorem shl_far (x n : Nat) (hn : 64 ≤ n) : shl .u64 x n = 0 := by
  unfold shl
  rw [wu64, show IntKind.u64.bits = 64 from rfl, Int.toNat_natCast, Nat.min_eq_right hn]
  omega
theorem shr_nat (x n : Nat) (hn : n ≤ 64) : shr .u64 x n = ((x / 2 ^ n : Nat) : Int) := by
  unfold shr
  rw [show IntKind.u64.bits = 64 from rfl, Int.toNat_natCast, Nat.min_eq_left hn, Int.natCast_ediv, Int.natCast_pow]
  rfl
theorem shr_far (x n : Nat) (hx : x < 18446744073709551616) (hn : 64 ≤ n) : shr .u64 x n = 0 := by
  unfold shr
  rw [show IntKind.u64.bits = 64 from rfl, Int.toNat_natCast, Nat.min_eq_right hn]
  omega
/-- 2^64 in two factors -/
theorem pow_split {n : Nat} (h : n ≤ 64) : 2 ^ n * 2 ^ (64 - n) = 18446744073709551616 := by
  rw [← Nat.pow_add, Nat.add_sub_cancel' h]
theorem pow_split' {n : Nat} (h : n ≤ 128) : 2 ^ n * 2 ^ (128 - n) = 340282366920938463463374607431768211456 := by
  rw [← Nat.pow_add, Nat.add_sub_cancel' h]

/-- a shift to the left of two halves, p * q = 2^64 -/
theorem shl_halves (a p q : Nat) (hpq : p * q = 18446744073709551616) (hp : 0 < p) (hq : 0 < q) :
    a * p % 340282366920938463463374607431768211456 = ((a / 18446744073709551616) * p % 18446744073709551616 + (a % 18446744073709551616) / q) * 18446744073709551616 + (a % 18446744073709551616) * p % 18446744073709551616 ∧
    (a / 18446744073709551616) * p % 18446744073709551616 % p = 0 ∧ (a % 18446744073709551616) / q < p ∧ (a / 18446744073709551616) * p % 18446744073709551616 + (a % 18446744073709551616) / q < 18446744073709551616 := by
  generalize hh : a / 18446744073709551616 = h
  generalize hl : a % 18446744073709551616 = l
  have hlt : l < 18446744073709551616 := by omega
  have ha : a = h * 18446744073709551616 + l := by omega
  have e1 : h * p % 18446744073709551616 = p * (h % q) := by rw [← hpq, Nat.mul_comm h p, Nat.mul_mod_mul_left]
  have e2 : l * p % 18446744073709551616 = p * (l % q) := by rw [← hpq, Nat.mul_comm l p, Nat.mul_mod_mul_left]
  have e3 : l / q < p := Nat.div_lt_of_lt_mul (by rw [Nat.mul_comm]; omega)
  have e4 : p * (l % q) < 18446744073709551616 := by rw [← hpq]; exact Nat.mul_lt_mul_of_pos_left (Nat.mod_lt _ hq) hp
  have e5 : p * (h % q) + p ≤ 18446744073709551616 := by
    rw [← hpq]
    calc p * (h % q) + p = p * (h % q + 1) := by rw [Nat.mul_add, Nat.mul_one]
      _ ≤ p * q := Nat.mul_le_mul_left _ (Nat.mod_lt _ hq)
  have e6 : a * p = (h / q) * 340282366920938463463374607431768211456 + (p * (h % q) + l / q) * 18446744073709551616 + p * (l % q) := by
    have hd : h = q * (h / q) + h % q := (Nat.div_add_mod h q).symm
    have ld : l = q * (l / q) + l % q := (Nat.div_add_mod l q).symm
    generalize h / q = h1 at *
    generalize h % q = h2 at *
    generalize l / q = l1 at *
    generalize l % q = l2 at *
    have t1 : h * p = h1 * 18446744073709551616 + p * h2 := by
      rw [hd, Nat.add_mul, ← hpq]
      rw [Nat.mul_comm q h1, Nat.mul_assoc, Nat.mul_comm q p, Nat.mul_comm h2 p]
    have t2 : l * p = l1 * 18446744073709551616 + p * l2 := by
      rw [ld, Nat.add_mul, ← hpq]
      rw [Nat.mul_comm q l1, Nat.mul_assoc, Nat.mul_comm q p, Nat.mul_comm l2 p]
    have t3 : a * p = h * p * 18446744073709551616 + l * p := by
      rw [ha, Nat.add_mul, Nat.mul_assoc, Nat.mul_comm 18446744073709551616 p, ← Nat.mul_assoc]
    rw [t3, t1, t2]
    omega
  refine ⟨?_, ?_, e3, ?_⟩
  · rw [e6, e1, e2]; omega
  · rw [e1]; exact Nat.mul_mod_right _ _
  · rw [e1]; omega
/-- a shift to the right of two halves, p * q = 2^64 -/
theorem shr_halves (a p q : Nat) (ha : a < 340282366920938463463374607431768211456) (hpq : p * q = 18446744073709551616) (hp : 0 < p) (_hq : 0 < q) :
    a / p = (a / 18446744073709551616) / p * 18446744073709551616 + ((a / 18446744073709551616) * q % 18446744073709551616 + (a % 18446744073709551616) / p) ∧
    (a / 18446744073709551616) * q % 18446744073709551616 % q = 0 ∧ (a % 18446744073709551616) / p < q ∧ (a / 18446744073709551616) * q % 18446744073709551616 + (a % 18446744073709551616) / p < 18446744073709551616 ∧ (a / 18446744073709551616) / p < 18446744073709551616 := by
  generalize hh : a / 18446744073709551616 = h
  generalize hl : a % 18446744073709551616 = l
  have hlt : l < 18446744073709551616 := by omega
  have hht : h < 18446744073709551616 := by omega
  have haa : a = h * 18446744073709551616 + l := by omega
  have e1 : h * q % 18446744073709551616 = q * (h % p) := by rw [← hpq, Nat.mul_comm h q, Nat.mul_comm p q, Nat.mul_mod_mul_left]
  have e3 : l / p < q := Nat.div_lt_of_lt_mul (by omega)
  have e5 : q * (h % p) + q ≤ 18446744073709551616 := by
    rw [← hpq, Nat.mul_comm p q]
    calc q * (h % p) + q = q * (h % p + 1) := by rw [Nat.mul_add, Nat.mul_one]
      _ ≤ q * p := Nat.mul_le_mul_left _ (Nat.mod_lt _ hp)
  have e6 : a / p = h * q + l / p := by
    rw [haa, ← hpq, Nat.mul_comm p q, ← Nat.mul_assoc, Nat.add_comm, Nat.add_mul_div_right _ _ hp, Nat.add_comm]
  have e7 : h * q = (h / p) * 18446744073709551616 + q * (h % p) := by
    have hd : h = p * (h / p) + h % p := (Nat.div_add_mod h p).symm
    generalize h / p = h1 at *
    generalize h % p = h2 at *
    rw [hd, Nat.add_mul, ← hpq, Nat.mul_comm p h1, Nat.mul_assoc, Nat.mul_comm h2 q]
  refine ⟨?_, ?_, e3, ?_, ?_⟩
  · rw [e6, e1, e7]; omega
  · rw [e1]; exact Nat.mul_mod_right _ _
  · rw [e1]; omega
  · exact Nat.lt_of_le_of_lt (Nat.div_le_self _ _) hht
end Go.Proofs.Ytpllddgbfhnghaa
