import Derived.Test.YtakjhoigkpikfaaDoorZWalExact3
import Derived.Maps.RangeRun
import Derived.RangeFuncLeaves
import Derived.RangeFuncBox
import Derived.TacticsInMore
/-! Sums of 32 bits, and parts of strings: the program's and the reference's. -/
namespace Go.Ev
set_option linter.unusedVariables false
set_option linter.unusedSimpArgs false
open Go.Ev.So
variable {T : Nat → Option RF} [Has T]

theorem wu32_in {x : Int} (h1 : 0 ≤ x) (h2 : x < 4294967296) : IntKind.u32.wrap x = x := by
  have : IntKind.u32.wrap x = x % 4294967296 := by simp [IntKind.wrap, IntKind.bits, IntKind.signed]
  rw [this]; omega
theorem ofInt_nat (n a : Nat) : BitVec.ofInt n (a : Int) = BitVec.ofNat n a := by
  apply BitVec.eq_of_toNat_eq
  simp [BitVec.toNat_ofInt, BitVec.toNat_ofNat]
theorem xor32 {a b : Nat} (ha : a < 4294967296) (hb : b < 4294967296) : binA .xor (.int .u32 (a : Int)) (.int .u32 (b : Int)) = some (.int .u32 ((a ^^^ b : Nat) : Int)) := by
  have hx : a ^^^ b < 2 ^ 32 := Nat.xor_lt_two_pow (by simpa using ha) (by simpa using hb)
  simp only [binA, if_true, bitsA, show IntKind.u32.bits = 32 from rfl, ofInt_nat, BitVec.toNat_xor, BitVec.toNat_ofNat]
  rw [Nat.mod_eq_of_lt (show a < 2 ^ 32 by simpa using ha), Nat.mod_eq_of_lt (show b < 2 ^ 32 by simpa using hb), wu32_in (by omega) (by omega)]
theorem and32 {a b : Nat} (ha : a < 4294967296) (hb : b < 4294967296) : binA .and (.int .u32 (a : Int)) (.int .u32 (b : Int)) = some (.int .u32 ((a &&& b : Nat) : Int)) := by
  have hx : a &&& b < 2 ^ 32 := Nat.and_lt_two_pow _ (by simpa using hb)
  simp only [binA, if_true, bitsA, show IntKind.u32.bits = 32 from rfl, ofInt_nat, BitVec.toNat_and, BitVec.toNat_ofNat]
  rw [Nat.mod_eq_of_lt (show a < 2 ^ 32 by simpa using ha), Nat.mod_eq_of_lt (show b < 2 ^ 32 by simpa using hb), wu32_in (by omega) (by omega)]

/-- One step of the sum. -/
def crcS (r : Nat) : Nat := r / 2 ^^^ (if r % 2 = 1 then 3988292384 else 0)
def crcN : Nat → Nat → Nat
  | 0, r => r
  | n + 1, r => crcN n (crcS r)
def crcL : List UInt8 → Nat → Nat
  | [], r => r
  | b :: l, r => crcL l (crcN 8 (r ^^^ b.toNat))
def crcV (s : ByteArray) : Nat := crcL s.toList 4294967295 ^^^ 4294967295
theorem crcS_lt {r : Nat} (h : r < 4294967296) : crcS r < 4294967296 := by
  have : crcS r < 2 ^ 32 := by
    unfold crcS
    refine Nat.xor_lt_two_pow (by omega) ?_
    split <;> decide
  simpa using this
theorem crcN_lt : ∀ {n r : Nat}, r < 4294967296 → crcN n r < 4294967296
  | 0, r, h => h
  | n + 1, r, h => crcN_lt (n := n) (crcS_lt h)
theorem xor_byte {r : Nat} (h : r < 4294967296) (b : UInt8) : r ^^^ b.toNat < 4294967296 := by
  have : r ^^^ b.toNat < 2 ^ 32 := Nat.xor_lt_two_pow (by simpa using h) (by have := b.toNat_lt; omega)
  simpa using this
theorem neg_bit {r : Nat} : unA .neg (.int .u32 ((r % 2 : Nat) : Int)) = some (.int .u32 (((if r % 2 = 1 then 4294967295 else 0) : Nat) : Int)) := by
  rcases Nat.mod_two_eq_zero_or_one r with h | h <;> rw [h] <;> rfl
theorem poly_and (r : Nat) : binA .and (.int .u32 3988292384) (.int .u32 (((if r % 2 = 1 then 4294967295 else 0) : Nat) : Int)) = some (.int .u32 (((if r % 2 = 1 then 3988292384 else 0) : Nat) : Int)) := by
  by_cases h : r % 2 = 1
  · rw [if_pos h, if_pos h]; exact and32 (a := 3988292384) (b := 4294967295) (by decide) (by decide)
  · rw [if_neg h, if_neg h]; exact and32 (a := 3988292384) (b := 0) (by decide) (by decide)
theorem shr32_1 {r : Nat} : binA .shr (.int .u32 (r : Int)) (.int .u64 1) = some (.int .u32 ((r / 2 : Nat) : Int)) := by
  simp only [binA]
  rw [if_neg (by decide)]
  have : (r : Int).fdiv (2 ^ (min (Int.toNat 1) IntKind.u32.bits)) = ((r / 2 : Nat) : Int) := by
    rw [show (2 : Int) ^ (min (Int.toNat 1) IntKind.u32.bits) = 2 from rfl, Int.fdiv_eq_ediv_of_nonneg _ (by decide)]; omega
  rw [this]
theorem and32_1 {r : Nat} (h : r < 4294967296) : binA .and (.int .u32 (r : Int)) (.int .u32 1) = some (.int .u32 ((r % 2 : Nat) : Int)) := by
  have := and32 h (b := 1) (by decide)
  rw [Nat.and_one_is_mod] at this
  exact this
theorem crcS_val {r : Nat} (h : r < 4294967296) : binA .xor (.int .u32 ((r / 2 : Nat) : Int)) (.int .u32 (((if r % 2 = 1 then 3988292384 else 0) : Nat) : Int)) = some (.int .u32 (crcS r : Int)) :=
  xor32 (by omega) (by split <;> decide)
theorem w32_byte (b : UInt8) : IntKind.u32.wrap (b.toNat : Int) = (b.toNat : Int) := by
  have := b.toNat_lt
  exact wu32_in (by omega) (by omega)

theorem toList_size (a : ByteArray) : a.toList.length = a.size := by
  rw [ByteArray.toList_eq]; rfl
theorem byts_len (a : ByteArray) : (byts a).length = a.size := by unfold byts; rw [List.length_map, toList_size]
theorem byts_get {a : ByteArray} {i : Nat} {b : UInt8} (h : a.toList[i]? = some b) : (byts a)[i]? = some (.int .u8 b.toNat) := by unfold byts; rw [List.getElem?_map, h]; rfl
theorem byts_ld {t : St} {n i : Nat} {a : ByteArray} {b : UInt8} (ht : t[n]? = some (.cells true (byts a))) (h : a.toList[i]? = some b) : ldA t none (.ptr n i) = some (.int .u8 b.toNat) := by
  rw [ld_own ht]; exact byts_get h
theorem ixs_get {a : ByteArray} {i : Nat} {k : IntKind} {b : UInt8} (h : a.toList[i]? = some b) : ixsY (.str a) (.int k (i : Int)) = some (.int .u8 b.toNat) := by
  have hil := (List.getElem?_eq_some_iff.1 h).1
  have hi : i < a.size := by rw [toList_size] at hil; exact hil
  have hb : b = a.toList[i] := (List.getElem?_eq_some_iff.1 h).2.symm
  unfold ixsY
  simp only
  rw [dif_pos ⟨by omega, by simpa using hi⟩, hb]
  congr 3
  simp only [ByteArray.toList_eq]
  rfl

set_option maxHeartbeats 2000000 in
theorem crc_r (s : St) (a : ByteArray) (ha : a.size < 1000000000) : RunD T f_digest_CRC [.str a] s (.int .u32 (crcV a)) s := by
  refine run_body (F := r_digest_CRC) (has rfl) (by simp [r_digest_CRC]) ?_
  have hlen := toList_size a
  have hs2b : xtA s .s2b [.str a] = some (.sl s.length 0 1 a.size none, s ++ [.cells true (byts a)]) := rfl
  simp only [r_digest_CRC, XX, CC, YY, Nat.reduceAdd, Nat.reduceSub, Nat.reduceLeDiff, Nat.reduceLT, Nat.reduceEqDiff, reduceIte, ↓reduceIte, Nat.reduceBEq, hs2b]
  refine awp_rounds (fun d e t => t = s ++ [.cells true (byts a)] ∧ ∃ (i r : Nat), i + d = a.size ∧ r < 4294967296 ∧ e.get 3 = .int .u32 r ∧ e.get 7 = .sl s.length 0 1 a.size none ∧ e.get 8 = .int .i64 a.size ∧ e.get 9 = .int .i64 i ∧ crcL a.toList 4294967295 = crcL (a.toList.drop i) r) a.size ?_ ?_
  · refine ⟨rfl, 0, 4294967295, by omega, by decide, ?_, ?_, ?_, ?_, rfl⟩ <;> (try simp only [XX, CC, YY, Nat.reduceAdd, Nat.reduceSub, Nat.reduceLeDiff, Nat.reduceLT, Nat.reduceEqDiff, reduceIte, ↓reduceIte, Nat.reduceBEq]) <;> rfl
  rintro J d e t hJ ⟨rfl, i, r, hi, hr, g3, g7, g8, g9, hc⟩
  simp only [XX, CC, YY, Nat.reduceAdd, Nat.reduceSub, Nat.reduceLeDiff, Nat.reduceLT, Nat.reduceEqDiff, reduceIte, ↓reduceIte, Nat.reduceBEq, g3, g7, g8, g9]
  by_cases h : i < a.size
  · have hb : a.toList[i]? = some (a.toList[i]'(by omega)) := List.getElem?_eq_getElem _
    have hd : a.toList.drop i = a.toList[i]'(by omega) :: a.toList.drop (i + 1) := List.drop_eq_getElem_cons _
    generalize a.toList[i]'(by omega) = b at hb hd
    rw [hd] at hc
    simp only [crcL] at hc
    have hl := byts_ld (t := s ++ [.cells true (byts a)]) (n := s.length) (by simp) hb
    have hx := xor_byte hr b
    have hbl : b.toNat < 4294967296 := by have := b.toNat_lt; omega
    have hxr := xor32 hr hbl
    have hw := w32_byte b
    simp only [dec_t (show (i : Int) < a.size by omega), XX, CC, YY, Nat.reduceAdd, Nat.reduceSub, Nat.reduceLeDiff, Nat.reduceLT, Nat.reduceEqDiff, reduceIte, ↓reduceIte, Nat.reduceBEq, g3, g7, g9, ixa_nat (e := 1) (b := s.length) (o := 0) (n := a.size) (c := none) (k := .i64) h, Nat.zero_add, Nat.mul_one, hl, hw, hxr]
    refine awp_rounds (fun d2 e t => t = s ++ [.cells true (byts a)] ∧ ∃ (k r2 : Nat), k + d2 = 8 ∧ r2 < 4294967296 ∧ e.get 3 = .int .u32 r2 ∧ e.get 7 = .sl s.length 0 1 a.size none ∧ e.get 8 = .int .i64 a.size ∧ e.get 9 = .int .i64 i ∧ e.get 17 = .int .i64 k ∧ crcN 8 (r ^^^ b.toNat) = crcN d2 r2) 8 ?_ ?_
    · refine ⟨rfl, 0, r ^^^ b.toNat, by omega, hx, ?_, ?_, ?_, ?_, ?_, rfl⟩ <;> (try simp only [XX, CC, YY, Nat.reduceAdd, Nat.reduceSub, Nat.reduceLeDiff, Nat.reduceLT, Nat.reduceEqDiff, reduceIte, ↓reduceIte, Nat.reduceBEq, g3, g7, g8, g9]) <;> rfl
    clear g3 g7 g8 g9
    rintro J2 d2 e t hJ2 ⟨rfl, k, r2, hk, hr2, g3, g7, g8, g9, g17, hn⟩
    simp only [XX, CC, YY, Nat.reduceAdd, Nat.reduceSub, Nat.reduceLeDiff, Nat.reduceLT, Nat.reduceEqDiff, reduceIte, ↓reduceIte, Nat.reduceBEq, g3, g17]
    have hw1 : IntKind.i64.wrap ((k : Int) + 1) = ((k + 1 : Nat) : Int) := by rw [w64_in (by omega) (by omega)]; omega
    have hw2 : IntKind.i64.wrap ((i : Int) + 1) = ((i + 1 : Nat) : Int) := by rw [w64_in (by omega) (by omega)]; omega
    by_cases h2 : k < 8
    · obtain ⟨d3, rfl⟩ : ∃ d3, d2 = d3 + 1 := ⟨d2 - 1, by omega⟩
      simp only [dec_t (show (k : Int) < 8 by omega), XX, CC, YY, Nat.reduceAdd, Nat.reduceSub, Nat.reduceLeDiff, Nat.reduceLT, Nat.reduceEqDiff, reduceIte, ↓reduceIte, Nat.reduceBEq, g3, g17, shr32_1, and32_1 hr2, neg_bit, poly_and, crcS_val hr2, hw1]
      refine hJ2 d3 _ _ (by omega) ⟨rfl, k + 1, crcS r2, by omega, crcS_lt hr2, ?_, ?_, ?_, ?_, ?_, hn⟩ <;> (try simp only [XX, CC, YY, Nat.reduceAdd, Nat.reduceSub, Nat.reduceLeDiff, Nat.reduceLT, Nat.reduceEqDiff, reduceIte, ↓reduceIte, Nat.reduceBEq, g3, g7, g8, g9, g17])
    · obtain rfl : d2 = 0 := by omega
      have hn' : crcN 8 (r ^^^ b.toNat) = r2 := hn
      simp only [dec_f (show ¬ (k : Int) < 8 by omega), XX, CC, YY, Nat.reduceAdd, Nat.reduceSub, Nat.reduceLeDiff, Nat.reduceLT, Nat.reduceEqDiff, reduceIte, ↓reduceIte, Nat.reduceBEq, g9, hw2]
      refine hJ (d - 1) _ _ (by omega) ⟨rfl, i + 1, r2, by omega, hr2, ?_, ?_, ?_, ?_, by rw [hc, hn']⟩ <;> (try simp only [XX, CC, YY, Nat.reduceAdd, Nat.reduceSub, Nat.reduceLeDiff, Nat.reduceLT, Nat.reduceEqDiff, reduceIte, ↓reduceIte, Nat.reduceBEq, g3, g7, g8, g9])
  · rw [List.drop_of_length_le (by omega)] at hc
    simp only [crcL] at hc
    have hx : unA .xor (.int .u32 (r : Int)) = some (.int .u32 ((crcV a : Nat) : Int)) := by
      unfold crcV
      rw [hc, Nat.xor_comm]
      have := xor32 (a := 4294967295) (b := r) (by decide) hr
      exact this
    simp only [dec_f (show ¬ (i : Int) < a.size by omega), XX, CC, YY, Nat.reduceAdd, Nat.reduceSub, Nat.reduceLeDiff, Nat.reduceLT, Nat.reduceEqDiff, reduceIte, ↓reduceIte, Nat.reduceBEq, g3, hx]
    exact ret_drop ⟨_, rfl⟩ rfl ⟨rfl, rfl⟩

theorem rem32_2 {r : Nat} : binA .rem (.int .u32 (r : Int)) (.int .u32 2) = some (.int .u32 ((r % 2 : Nat) : Int)) := by
  simp only [binA]
  rw [if_pos ⟨trivial, by decide⟩, Int.tmod_eq_emod_of_nonneg (by omega)]; rfl
theorem quo32_2 {r : Nat} (h : r < 4294967296) : binA .quo (.int .u32 (r : Int)) (.int .u32 2) = some (.int .u32 ((r / 2 : Nat) : Int)) := by
  simp only [binA]
  rw [if_pos ⟨trivial, by decide⟩, Int.tdiv_eq_ediv_of_nonneg (by omega), wu32_in (by omega) (by omega)]; rfl

set_option maxHeartbeats 2000000 in
theorem rcrc_r (s : St) (a : ByteArray) (ha : a.size < 1000000000) : RunD T f_r05_CRC [.str a] s (.int .u32 (crcV a)) s := by
  refine run_body (F := r_r05_CRC) (has rfl) (by simp [r_r05_CRC]) ?_
  have hlen := toList_size a
  simp only [r_r05_CRC, XX, CC, YY, Nat.reduceAdd, Nat.reduceSub, Nat.reduceLeDiff, Nat.reduceLT, Nat.reduceEqDiff, reduceIte, ↓reduceIte, Nat.reduceBEq]
  refine awp_rounds (fun d e t => t = s ∧ ∃ (i r : Nat), i + d = a.size ∧ r < 4294967296 ∧ e.get 0 = .str a ∧ e.get 3 = .int .u32 r ∧ e.get 4 = .int .i64 i ∧ crcL a.toList 4294967295 = crcL (a.toList.drop i) r) a.size ?_ ?_
  · refine ⟨rfl, 0, 4294967295, by omega, by decide, ?_, ?_, ?_, rfl⟩ <;> (try simp only [XX, CC, YY, Nat.reduceAdd, Nat.reduceSub, Nat.reduceLeDiff, Nat.reduceLT, Nat.reduceEqDiff, reduceIte, ↓reduceIte, Nat.reduceBEq]) <;> rfl
  rintro J d e t hJ ⟨rfl, i, r, hi, hr, g0, g3, g4, hc⟩
  simp only [XX, CC, YY, Nat.reduceAdd, Nat.reduceSub, Nat.reduceLeDiff, Nat.reduceLT, Nat.reduceEqDiff, reduceIte, ↓reduceIte, Nat.reduceBEq, g0, g3, g4]
  by_cases h : i < a.size
  · have hb : a.toList[i]? = some (a.toList[i]'(by omega)) := List.getElem?_eq_getElem _
    have hd : a.toList.drop i = a.toList[i]'(by omega) :: a.toList.drop (i + 1) := List.drop_eq_getElem_cons _
    generalize a.toList[i]'(by omega) = b at hb hd
    rw [hd] at hc
    simp only [crcL] at hc
    have hl : ixsY (.str a) (.int .i64 (i : Int)) = some (.int .u8 b.toNat) := ixs_get hb
    have hx := xor_byte hr b
    have hbl : b.toNat < 4294967296 := by have := b.toNat_lt; omega
    have hxr := xor32 hr hbl
    have hw := w32_byte b
    simp only [dec_t (show (i : Int) < a.size by omega), XX, CC, YY, Nat.reduceAdd, Nat.reduceSub, Nat.reduceLeDiff, Nat.reduceLT, Nat.reduceEqDiff, reduceIte, ↓reduceIte, Nat.reduceBEq, g0, g3, g4, hl, hw, hxr]
    refine awp_rounds (fun d2 e t' => t' = t ∧ ∃ (k r2 : Nat), k + d2 = 8 ∧ r2 < 4294967296 ∧ e.get 0 = .str a ∧ e.get 3 = .int .u32 r2 ∧ e.get 4 = .int .i64 i ∧ e.get 5 = .int .i64 k ∧ crcN 8 (r ^^^ b.toNat) = crcN d2 r2) 8 ?_ ?_
    · refine ⟨rfl, 0, r ^^^ b.toNat, by omega, hx, ?_, ?_, ?_, ?_, rfl⟩ <;> (try simp only [XX, CC, YY, Nat.reduceAdd, Nat.reduceSub, Nat.reduceLeDiff, Nat.reduceLT, Nat.reduceEqDiff, reduceIte, ↓reduceIte, Nat.reduceBEq, g0, g3, g4]) <;> rfl
    clear g0 g3 g4
    rintro J2 d2 e t' hJ2 ⟨rfl, k, r2, hk, hr2, g0, g3, g4, g5, hn⟩
    simp only [XX, CC, YY, Nat.reduceAdd, Nat.reduceSub, Nat.reduceLeDiff, Nat.reduceLT, Nat.reduceEqDiff, reduceIte, ↓reduceIte, Nat.reduceBEq, g3, g5]
    have hw1 : IntKind.i64.wrap ((k : Int) + 1) = ((k + 1 : Nat) : Int) := by rw [w64_in (by omega) (by omega)]; omega
    have hw2 : IntKind.i64.wrap ((i : Int) + 1) = ((i + 1 : Nat) : Int) := by rw [w64_in (by omega) (by omega)]; omega
    by_cases h2 : k < 8
    · obtain ⟨d3, rfl⟩ : ∃ d3, d2 = d3 + 1 := ⟨d2 - 1, by omega⟩
      have hS : crcS r2 = if r2 % 2 = 1 then r2 / 2 ^^^ 3988292384 else r2 / 2 := by
        unfold crcS; split
        · rfl
        · exact Nat.xor_zero _
      rcases Nat.mod_two_eq_zero_or_one r2 with e2 | e2
      · rw [if_neg (by omega)] at hS
        have t0 : (((r2 % 2 : Nat) : Int) == 1) = false := by rw [e2]; rfl
        simp only [dec_t (show (k : Int) < 8 by omega), XX, CC, YY, Nat.reduceAdd, Nat.reduceSub, Nat.reduceLeDiff, Nat.reduceLT, Nat.reduceEqDiff, reduceIte, ↓reduceIte, Nat.reduceBEq, g3, g5, rem32_2, quo32_2 hr2, t0, hw1]
        refine hJ2 d3 _ _ (by omega) ⟨rfl, k + 1, crcS r2, by omega, crcS_lt hr2, ?_, ?_, ?_, ?_, hn⟩ <;> (try simp only [XX, CC, YY, Nat.reduceAdd, Nat.reduceSub, Nat.reduceLeDiff, Nat.reduceLT, Nat.reduceEqDiff, reduceIte, ↓reduceIte, Nat.reduceBEq, g0, g3, g4, g5, hS])
      · rw [if_pos e2] at hS
        have t0 : (((r2 % 2 : Nat) : Int) == 1) = true := by rw [e2]; rfl
        have hxx : binA .xor (.int .u32 ((r2 / 2 : Nat) : Int)) (.int .u32 3988292384) = some (.int .u32 ((r2 / 2 ^^^ 3988292384 : Nat) : Int)) := xor32 (a := r2 / 2) (b := 3988292384) (by omega) (by decide)
        simp only [dec_t (show (k : Int) < 8 by omega), XX, CC, YY, Nat.reduceAdd, Nat.reduceSub, Nat.reduceLeDiff, Nat.reduceLT, Nat.reduceEqDiff, reduceIte, ↓reduceIte, Nat.reduceBEq, g3, g5, rem32_2, quo32_2 hr2, t0, hxx, hw1]
        refine hJ2 d3 _ _ (by omega) ⟨rfl, k + 1, crcS r2, by omega, crcS_lt hr2, ?_, ?_, ?_, ?_, hn⟩ <;> (try simp only [XX, CC, YY, Nat.reduceAdd, Nat.reduceSub, Nat.reduceLeDiff, Nat.reduceLT, Nat.reduceEqDiff, reduceIte, ↓reduceIte, Nat.reduceBEq, g0, g3, g4, g5, hS])
    · obtain rfl : d2 = 0 := by omega
      have hn' : crcN 8 (r ^^^ b.toNat) = r2 := hn
      simp only [dec_f (show ¬ (k : Int) < 8 by omega), XX, CC, YY, Nat.reduceAdd, Nat.reduceSub, Nat.reduceLeDiff, Nat.reduceLT, Nat.reduceEqDiff, reduceIte, ↓reduceIte, Nat.reduceBEq, g4, hw2]
      refine hJ (d - 1) _ _ (by omega) ⟨rfl, i + 1, r2, by omega, hr2, ?_, ?_, ?_, by rw [hc, hn']⟩ <;> (try simp only [XX, CC, YY, Nat.reduceAdd, Nat.reduceSub, Nat.reduceLeDiff, Nat.reduceLT, Nat.reduceEqDiff, reduceIte, ↓reduceIte, Nat.reduceBEq, g0, g3, g4])
  · rw [List.drop_of_length_le (by omega)] at hc
    simp only [crcL] at hc
    have hx : binA .xor (.int .u32 (r : Int)) (.int .u32 4294967295) = some (.int .u32 ((crcV a : Nat) : Int)) := by
      unfold crcV
      rw [hc]
      exact xor32 (b := 4294967295) hr (by decide)
    simp only [dec_f (show ¬ (i : Int) < a.size by omega), XX, CC, YY, Nat.reduceAdd, Nat.reduceSub, Nat.reduceLeDiff, Nat.reduceLT, Nat.reduceEqDiff, reduceIte, ↓reduceIte, Nat.reduceBEq, g3, hx]
    exact .inl ⟨rfl, rfl⟩

/-! ### parts of strings -/
/-- so many bytes from a place on -/
def cutV (s : ByteArray) (at_ n : Int) : Option ByteArray := if 0 ≤ at_ ∧ 0 ≤ n ∧ at_ ≤ s.size ∧ n ≤ s.size - at_ then some (s.extract at_.toNat (at_.toNat + n.toNat)) else none
def cutA (s : ByteArray) (at_ n : Int) : AV := match cutV s at_ n with
  | some b => .tup [.str b, .bool true]
  | none => .tup [.str (bts []), .bool false]
end Go.Ev

/-! Parts of strings, numbers in strings: the program's and the reference's. -/
namespace Go.Ev
set_option linter.unusedVariables false
set_option linter.unusedSimpArgs false
open Go.Ev.So
variable {T : Nat → Option RF} [Has T]

theorem ext_ext (s : ByteArray) (a n : Nat) (h : a + n ≤ s.size) : (s.extract a s.size).extract 0 n = s.extract a (a + n) := by
  apply ByteArray.ext
  simp only [ByteArray.data_extract, Array.extract_extract]
  have hs : s.size = s.data.size := rfl
  congr 1
  omega
theorem ext_size (s : ByteArray) (a b : Nat) (h : b ≤ s.size) : (s.extract a b).size = b - a := by
  simp [ByteArray.size_extract]; omega
theorem mn2 (a b : Int) : xpA .mn [.int .i64 a, .int .i64 b] = some (.int .i64 (if b < a then b else a)) := rfl
set_option maxHeartbeats 1000000 in
theorem cut_r (s : St) (a : ByteArray) (at_ n : Int) (ha : a.size < 1000000000) (h1 : -9223372036854775808 ≤ at_ ∧ at_ ≤ 9223372036854775807) (h2 : -9223372036854775808 ≤ n ∧ n ≤ 9223372036854775807) :
    RunD T f_octet_Cut [.str a, .int .i64 at_, .int .i64 n] s (cutA a at_ n) s := by
  refine run_body (F := r_octet_Cut) (has rfl) (by simp [r_octet_Cut]) ?_
  unfold cutA cutV
  have hm := mn2 at_ n
  by_cases c1 : (if n < at_ then n else at_) < 0
  · have hc : ¬ (0 ≤ at_ ∧ 0 ≤ n ∧ at_ ≤ a.size ∧ n ≤ a.size - at_) := by split at c1 <;> omega
    rw [if_neg hc]
    generalize (if n < at_ then n else at_) = m at *
    simp only [r_octet_Cut, XX, CC, YY, Nat.reduceAdd, Nat.reduceSub, Nat.reduceLeDiff, Nat.reduceLT, Nat.reduceEqDiff, reduceIte, ↓reduceIte, Nat.reduceBEq, hm, dec_t c1, gv_ft, gv_u]
    exact .inl ⟨rfl, rfl⟩
  · have p1 : 0 ≤ at_ ∧ 0 ≤ n := by split at c1 <;> omega
    generalize (if n < at_ then n else at_) = m at *
    by_cases c2 : at_ > a.size
    · rw [if_neg (by omega)]
      simp only [r_octet_Cut, XX, CC, YY, Nat.reduceAdd, Nat.reduceSub, Nat.reduceLeDiff, Nat.reduceLT, Nat.reduceEqDiff, reduceIte, ↓reduceIte, Nat.reduceBEq, hm, dec_f c1, gv_ff, dec_t c2, gv_ft]
      exact .inl ⟨rfl, rfl⟩
    · have hw : IntKind.i64.wrap ((a.size : Int) - at_) = (a.size : Int) - at_ := w64_in (by omega) (by omega)
      by_cases c3 : n > (a.size : Int) - at_
      · rw [if_neg (by omega)]
        simp only [r_octet_Cut, XX, CC, YY, Nat.reduceAdd, Nat.reduceSub, Nat.reduceLeDiff, Nat.reduceLT, Nat.reduceEqDiff, reduceIte, ↓reduceIte, Nat.reduceBEq, hm, dec_f c1, gv_ff, dec_f c2, hw, dec_t c3]
        exact .inl ⟨rfl, rfl⟩
      · rw [if_pos (by omega)]
        have s1 : slsA (.str a) (some (.int .i64 at_)) none = some (.str (a.extract at_.toNat a.size)) := by
          simp only [slsA, boundA]; rw [if_pos (by omega)]
        have hsz := ext_size a at_.toNat a.size (Nat.le_refl _)
        have s2 : slsA (.str (a.extract at_.toNat a.size)) none (some (.int .i64 n)) = some (.str (a.extract at_.toNat (at_.toNat + n.toNat))) := by
          simp only [slsA, boundA]
          rw [if_pos (by rw [hsz]; omega)]
          simp only
          rw [ext_ext a at_.toNat n.toNat (by omega)]
        simp only [r_octet_Cut, XX, CC, YY, Nat.reduceAdd, Nat.reduceSub, Nat.reduceLeDiff, Nat.reduceLT, Nat.reduceEqDiff, reduceIte, ↓reduceIte, Nat.reduceBEq, hm, dec_f c1, gv_ff, dec_f c2, hw, dec_f c3, s1, s2]
        exact .inl ⟨rfl, rfl⟩
set_option maxHeartbeats 1000000 in
theorem rcut_r (s : St) (a : ByteArray) (at_ n : Int) (ha : a.size < 1000000000) (h1 : -9223372036854775808 ≤ at_ ∧ at_ ≤ 9223372036854775807) (h2 : -9223372036854775808 ≤ n ∧ n ≤ 9223372036854775807) :
    RunD T f_r04_Cut [.str a, .int .i64 at_, .int .i64 n] s (cutA a at_ n) s := by
  refine run_body (F := r_r04_Cut) (has rfl) (by simp [r_r04_Cut]) ?_
  unfold cutA cutV
  by_cases c0 : at_ < 0
  · rw [if_neg (by omega)]
    simp only [r_r04_Cut, XX, CC, YY, Nat.reduceAdd, Nat.reduceSub, Nat.reduceLeDiff, Nat.reduceLT, Nat.reduceEqDiff, reduceIte, ↓reduceIte, Nat.reduceBEq, dec_t c0, gv_ft, gv_u]
    exact .inl ⟨rfl, rfl⟩
  by_cases c1 : n < 0
  · rw [if_neg (by omega)]
    simp only [r_r04_Cut, XX, CC, YY, Nat.reduceAdd, Nat.reduceSub, Nat.reduceLeDiff, Nat.reduceLT, Nat.reduceEqDiff, reduceIte, ↓reduceIte, Nat.reduceBEq, dec_f c0, gv_ff, dec_t c1, gv_ft, gv_u]
    exact .inl ⟨rfl, rfl⟩
  by_cases c2 : at_ > a.size
  · rw [if_neg (by omega)]
    simp only [r_r04_Cut, XX, CC, YY, Nat.reduceAdd, Nat.reduceSub, Nat.reduceLeDiff, Nat.reduceLT, Nat.reduceEqDiff, reduceIte, ↓reduceIte, Nat.reduceBEq, dec_f c0, dec_f c1, gv_ff, dec_t c2, gv_ft]
    exact .inl ⟨rfl, rfl⟩
  · have hw : IntKind.i64.wrap ((a.size : Int) - at_) = (a.size : Int) - at_ := w64_in (by omega) (by omega)
    by_cases c3 : n > (a.size : Int) - at_
    · rw [if_neg (by omega)]
      simp only [r_r04_Cut, XX, CC, YY, Nat.reduceAdd, Nat.reduceSub, Nat.reduceLeDiff, Nat.reduceLT, Nat.reduceEqDiff, reduceIte, ↓reduceIte, Nat.reduceBEq, dec_f c0, dec_f c1, gv_ff, dec_f c2, hw, dec_t c3]
      exact .inl ⟨rfl, rfl⟩
    · rw [if_pos (by omega)]
      have hw2 : IntKind.i64.wrap (at_ + n) = at_ + n := w64_in (by omega) (by omega)
      have s1 : slsA (.str a) (some (.int .i64 at_)) (some (.int .i64 (at_ + n))) = some (.str (a.extract at_.toNat (at_.toNat + n.toNat))) := by
        simp only [slsA, boundA]
        rw [if_pos (by omega)]
        simp only
        rw [if_pos (by omega)]
        simp only
        congr 3
        omega
      simp only [r_r04_Cut, XX, CC, YY, Nat.reduceAdd, Nat.reduceSub, Nat.reduceLeDiff, Nat.reduceLT, Nat.reduceEqDiff, reduceIte, ↓reduceIte, Nat.reduceBEq, dec_f c0, dec_f c1, gv_ff, dec_f c2, hw, dec_f c3, hw2, s1]
      exact .inl ⟨rfl, rfl⟩

/-- the number of some bytes -/
def getB (l : List UInt8) : Nat := l.foldl (fun n b => n * 256 + b.toNat) 0
theorem getB_snoc (l : List UInt8) (b : UInt8) : getB (l ++ [b]) = getB l * 256 + b.toNat := by unfold getB; rw [List.foldl_append]; rfl
theorem getB_lt : ∀ (n : Nat) (l : List UInt8), l.length = n → getB l < 256 ^ n
  | 0, l, h => by rw [List.length_eq_zero_iff.1 h]; decide
  | n + 1, l, h => by
    obtain ⟨l0, b, rfl⟩ : ∃ l0 b, l = l0 ++ [b] := ⟨l.dropLast, l.getLast (by intro e; rw [e] at h; simp at h), (List.dropLast_concat_getLast _).symm⟩
    have := getB_lt n l0 (by simpa using h)
    have hb := b.toNat_lt
    rw [getB_snoc, Nat.pow_succ]
    omega
def get32A (s : ByteArray) (at_ : Int) : AV := match cutV s at_ 4 with
  | some b => .tup [.int .u32 (getB b.toList), .bool true]
  | none => .tup [.int .u32 0, .bool false]
theorem cutV_size {s b : ByteArray} {at_ n : Int} (h : cutV s at_ n = some b) : b.size = n.toNat := by
  unfold cutV at h
  split at h
  · rename_i c
    cases h
    rw [ext_size _ _ _ (by omega)]; omega
  · cases h
theorem shl32_8 {x : Nat} (h : x < 16777216) : binA .shl (.int .u32 (x : Int)) (.int .u64 8) = some (.int .u32 ((x * 256 : Nat) : Int)) := by
  simp only [binA]
  rw [if_neg (by decide), show (2 : Int) ^ (min (Int.toNat 8) IntKind.u32.bits) = 256 from rfl, wu32_in (by omega) (by omega)]
  simp
theorem or32 {a b : Nat} (ha : a < 4294967296) (hb : b < 4294967296) : binA .or (.int .u32 (a : Int)) (.int .u32 (b : Int)) = some (.int .u32 ((a ||| b : Nat) : Int)) := by
  have hx : a ||| b < 2 ^ 32 := Nat.or_lt_two_pow (by simpa using ha) (by simpa using hb)
  simp only [binA, if_true, bitsA, show IntKind.u32.bits = 32 from rfl, ofInt_nat, BitVec.toNat_or, BitVec.toNat_ofNat]
  rw [Nat.mod_eq_of_lt (show a < 2 ^ 32 by simpa using ha), Nat.mod_eq_of_lt (show b < 2 ^ 32 by simpa using hb), wu32_in (by omega) (by omega)]
theorem or_byte (x : Nat) (b : UInt8) : x * 256 ||| b.toNat = x * 256 + b.toNat := by
  rw [Nat.mul_comm, show (256 : Nat) = 2 ^ 8 from rfl, ← Nat.two_pow_add_eq_or_of_lt b.toNat_lt x]
theorem part_lt {l : List UInt8} {i : Nat} (hi : i < l.length) (hl : l.length ≤ 4) : getB (l.take i) < 16777216 := by
  have h := getB_lt i (l.take i) (by rw [List.length_take, Nat.min_eq_left (by omega)])
  have : (256 : Nat) ^ i ≤ 256 ^ 3 := Nat.pow_le_pow_right (by decide) (by omega)
  have e : (256 : Nat) ^ 3 = 16777216 := by decide
  omega
theorem all_lt {l : List UInt8} (hl : l.length ≤ 4) : getB l < 4294967296 := by
  have h := getB_lt l.length l rfl
  have : (256 : Nat) ^ l.length ≤ 256 ^ 4 := Nat.pow_le_pow_right (by decide) hl
  have e : (256 : Nat) ^ 4 = 4294967296 := by decide
  omega
theorem getB_take {l : List UInt8} {i : Nat} {b : UInt8} (h : l[i]? = some b) : getB (l.take (i + 1)) = getB (l.take i) * 256 + b.toNat := by
  rw [List.take_add_one, h]; exact getB_snoc _ _

set_option maxHeartbeats 2000000 in
theorem get4_r (s : St) (a : ByteArray) (at_ : Int) (ha : a.size < 1000000000) (h1 : -9223372036854775808 ≤ at_ ∧ at_ ≤ 9223372036854775807) :
    RunD T f_octet_get_uint32 [.str a, .int .i64 at_, .int .i64 4] s (get32A a at_) s := by
  refine run_body (F := r_octet_get_uint32) (has rfl) (by simp [r_octet_get_uint32]) ?_
  have key : ∀ (b : ByteArray) (ok : Bool), b.size ≤ 4 → cutA a at_ 4 = .tup [.str b, .bool ok] → get32A a at_ = .tup [.int .u32 (getB b.toList), .bool ok] →
      awp (Run T) r_octet_get_uint32.body (endK [.tmp 6, .tmp 7] s fun v s' => v = get32A a at_ ∧ s' = s) [.str a, .int .i64 at_, .int .i64 4] s := by
    intro b ok hb hc hg
    have hlen := toList_size b
    have hs2b : xtA s .s2b [.str b] = some (.sl s.length 0 1 b.size none, s ++ [.cells true (byts b)]) := rfl
    rw [hg]
    simp only [r_octet_get_uint32, XX, CC, YY, Nat.reduceAdd, Nat.reduceSub, Nat.reduceLeDiff, Nat.reduceLT, Nat.reduceEqDiff, reduceIte, ↓reduceIte, Nat.reduceBEq]
    refine (cut_r s a at_ 4 ha h1 (by decide)).use ?_
    rw [hc]
    simp only [XX, CC, YY, Nat.reduceAdd, Nat.reduceSub, Nat.reduceLeDiff, Nat.reduceLT, Nat.reduceEqDiff, reduceIte, ↓reduceIte, Nat.reduceBEq, hs2b]
    refine awp_rounds (fun d e t => t = s ++ [.cells true (byts b)] ∧ ∃ i : Nat, i + d = b.size ∧ e.get 9 = .bool ok ∧ e.get 10 = .int .u32 (getB (b.toList.take i)) ∧ e.get 21 = .sl s.length 0 1 b.size none ∧ e.get 22 = .int .i64 b.size ∧ e.get 23 = .int .i64 i) b.size ?_ ?_
    · refine ⟨rfl, 0, by omega, ?_, ?_, ?_, ?_, ?_⟩ <;> (try simp only [XX, CC, YY, Nat.reduceAdd, Nat.reduceSub, Nat.reduceLeDiff, Nat.reduceLT, Nat.reduceEqDiff, reduceIte, ↓reduceIte, Nat.reduceBEq]) <;> rfl
    rintro J d e t hJ ⟨rfl, i, hi, g9, g10, g21, g22, g23⟩
    simp only [XX, CC, YY, Nat.reduceAdd, Nat.reduceSub, Nat.reduceLeDiff, Nat.reduceLT, Nat.reduceEqDiff, reduceIte, ↓reduceIte, Nat.reduceBEq, g9, g10, g21, g22, g23]
    by_cases h : i < b.size
    · have hq : b.toList[i]? = some (b.toList[i]'(by omega)) := List.getElem?_eq_getElem _
      generalize b.toList[i]'(by omega) = c at hq
      have hl := byts_ld (t := s ++ [.cells true (byts b)]) (n := s.length) (by simp) hq
      have hp := part_lt (l := b.toList) (i := i) (by omega) (by omega)
      have hcl := c.toNat_lt
      have hw1 : IntKind.i64.wrap ((i : Int) + 1) = ((i + 1 : Nat) : Int) := by rw [w64_in (by omega) (by omega)]; omega
      have ho := or32 (a := getB (b.toList.take i) * 256) (b := c.toNat) (by omega) (by omega)
      rw [or_byte, ← getB_take hq] at ho
      simp only [dec_t (show (i : Int) < b.size by omega), XX, CC, YY, Nat.reduceAdd, Nat.reduceSub, Nat.reduceLeDiff, Nat.reduceLT, Nat.reduceEqDiff, reduceIte, ↓reduceIte, Nat.reduceBEq, g10, g21, g23, ixa_nat (e := 1) (b := s.length) (o := 0) (n := b.size) (c := none) (k := .i64) h, Nat.zero_add, Nat.mul_one, hl, shl32_8 hp, w32_byte, ho, hw1]
      refine hJ (d - 1) _ _ (by omega) ⟨rfl, i + 1, by omega, ?_, ?_, ?_, ?_, ?_⟩ <;> (try simp only [XX, CC, YY, Nat.reduceAdd, Nat.reduceSub, Nat.reduceLeDiff, Nat.reduceLT, Nat.reduceEqDiff, reduceIte, ↓reduceIte, Nat.reduceBEq, g9, g10, g21, g22, g23])
    · rw [List.take_of_length_le (by omega)] at g10
      simp only [dec_f (show ¬ (i : Int) < b.size by omega), XX, CC, YY, Nat.reduceAdd, Nat.reduceSub, Nat.reduceLeDiff, Nat.reduceLT, Nat.reduceEqDiff, reduceIte, ↓reduceIte, Nat.reduceBEq, g9, g10]
      exact ret_drop ⟨_, rfl⟩ rfl ⟨rfl, rfl⟩
  cases hv : cutV a at_ 4 with
  | none => exact key (bts []) false (by decide) (by unfold cutA; rw [hv]) (by unfold get32A; rw [hv, show getB (bts []).toList = 0 by rw [ByteArray.toList_eq]; rfl]; rfl)
  | some b => exact key b true (by rw [cutV_size hv]; decide) (by unfold cutA; rw [hv]) (by unfold get32A; rw [hv])
theorem get32_r (s : St) (a : ByteArray) (at_ : Int) (ha : a.size < 1000000000) (h1 : -9223372036854775808 ≤ at_ ∧ at_ ≤ 9223372036854775807) :
    RunD T f_octet_Get32 [.str a, .int .i64 at_] s (get32A a at_) s := by
  refine run_body (F := r_octet_Get32) (has rfl) (by simp [r_octet_Get32]) ?_
  obtain ⟨x, y, hxy⟩ : ∃ x y, get32A a at_ = .tup [x, y] := by unfold get32A; split <;> exact ⟨_, _, rfl⟩
  simp only [r_octet_Get32, XX, CC, YY, Nat.reduceAdd, Nat.reduceSub, Nat.reduceLeDiff, Nat.reduceLT, Nat.reduceEqDiff, reduceIte, ↓reduceIte, Nat.reduceBEq]
  refine (get4_r s a at_ ha h1).use ?_
  rw [hxy]
  simp only [XX, CC, YY, Nat.reduceAdd, Nat.reduceSub, Nat.reduceLeDiff, Nat.reduceLT, Nat.reduceEqDiff, reduceIte, ↓reduceIte, Nat.reduceBEq]
  exact .inl ⟨rfl, rfl⟩

set_option maxHeartbeats 2000000 in
theorem rget4_r (s : St) (a : ByteArray) (at_ : Int) (ha : a.size < 1000000000) (h1 : -9223372036854775808 ≤ at_ ∧ at_ ≤ 9223372036854775807) :
    RunD T f_r04_get [.str a, .int .i64 at_, .int .i64 4] s (match cutV a at_ 4 with | some b => .tup [.int .u64 (getB b.toList), .bool true] | none => .tup [.int .u64 0, .bool false]) s := by
  refine run_body (F := r_r04_get) (has rfl) (by simp [r_r04_get]) ?_
  have key : ∀ (b : ByteArray) (ok : Bool) (r : AV), b.size ≤ 4 → cutA a at_ 4 = .tup [.str b, .bool ok] → r = .tup [.int .u64 (getB b.toList), .bool ok] →
      awp (Run T) r_r04_get.body (endK [.tmp 6, .tmp 7] s fun v s' => v = r ∧ s' = s) [.str a, .int .i64 at_, .int .i64 4] s := by
    rintro b ok r hb hc rfl
    have hlen := toList_size b
    simp only [r_r04_get, XX, CC, YY, Nat.reduceAdd, Nat.reduceSub, Nat.reduceLeDiff, Nat.reduceLT, Nat.reduceEqDiff, reduceIte, ↓reduceIte, Nat.reduceBEq]
    refine (rcut_r s a at_ 4 ha h1 (by decide)).use ?_
    rw [hc]
    simp only [XX, CC, YY, Nat.reduceAdd, Nat.reduceSub, Nat.reduceLeDiff, Nat.reduceLT, Nat.reduceEqDiff, reduceIte, ↓reduceIte, Nat.reduceBEq]
    refine awp_rounds (fun d e t => t = s ∧ ∃ i : Nat, i + d = b.size ∧ e.get 8 = .str b ∧ e.get 9 = .bool ok ∧ e.get 10 = .int .u64 (getB (b.toList.take i)) ∧ e.get 11 = .int .i64 i) b.size ?_ ?_
    · refine ⟨rfl, 0, by omega, ?_, ?_, ?_, ?_⟩ <;> (try simp only [XX, CC, YY, Nat.reduceAdd, Nat.reduceSub, Nat.reduceLeDiff, Nat.reduceLT, Nat.reduceEqDiff, reduceIte, ↓reduceIte, Nat.reduceBEq]) <;> rfl
    rintro J d e t hJ ⟨rfl, i, hi, g8, g9, g10, g11⟩
    simp only [XX, CC, YY, Nat.reduceAdd, Nat.reduceSub, Nat.reduceLeDiff, Nat.reduceLT, Nat.reduceEqDiff, reduceIte, ↓reduceIte, Nat.reduceBEq, g8, g9, g10, g11]
    by_cases h : i < b.size
    · have hq : b.toList[i]? = some (b.toList[i]'(by omega)) := List.getElem?_eq_getElem _
      generalize b.toList[i]'(by omega) = c at hq
      have hp := part_lt (l := b.toList) (i := i) (by omega) (by omega)
      have hcl := c.toNat_lt
      have hl : ixsY (.str b) (.int .i64 (i : Int)) = some (.int .u8 c.toNat) := ixs_get hq
      have hw1 : IntKind.i64.wrap ((i : Int) + 1) = ((i + 1 : Nat) : Int) := by rw [w64_in (by omega) (by omega)]; omega
      have hc1 : IntKind.u64.wrap (c.toNat : Int) = (c.toNat : Int) := by rw [wu64]; omega
      have hmul : binA .mul (.int .u64 ((getB (b.toList.take i) : Nat) : Int)) (.int .u64 256) = some (.int .u64 ((getB (b.toList.take i) * 256 : Nat) : Int)) := by
        simp only [binA, if_true]
        rw [wu64]
        congr 2
        omega
      have hadd : IntKind.u64.wrap (((getB (b.toList.take i) * 256 : Nat) : Int) + (c.toNat : Int)) = ((getB (b.toList.take (i + 1)) : Nat) : Int) := by rw [getB_take hq, wu64]; omega
      simp only [dec_t (show (i : Int) < b.size by omega), XX, CC, YY, Nat.reduceAdd, Nat.reduceSub, Nat.reduceLeDiff, Nat.reduceLT, Nat.reduceEqDiff, reduceIte, ↓reduceIte, Nat.reduceBEq, g8, g10, g11, hmul, hl, hc1, hadd, hw1]
      refine hJ (d - 1) _ _ (by omega) ⟨rfl, i + 1, by omega, ?_, ?_, ?_, ?_⟩ <;> (try simp only [XX, CC, YY, Nat.reduceAdd, Nat.reduceSub, Nat.reduceLeDiff, Nat.reduceLT, Nat.reduceEqDiff, reduceIte, ↓reduceIte, Nat.reduceBEq, g8, g9, g10, g11])
    · rw [List.take_of_length_le (by omega)] at g10
      simp only [dec_f (show ¬ (i : Int) < b.size by omega), XX, CC, YY, Nat.reduceAdd, Nat.reduceSub, Nat.reduceLeDiff, Nat.reduceLT, Nat.reduceEqDiff, reduceIte, ↓reduceIte, Nat.reduceBEq, g9, g10]
      exact .inl ⟨rfl, rfl⟩
  cases hv : cutV a at_ 4 with
  | none => exact key (bts []) false _ (by decide) (by unfold cutA; rw [hv]) (by rw [show getB (bts []).toList = 0 by rw [ByteArray.toList_eq]; rfl]; rfl)
  | some b => exact key b true _ (by rw [cutV_size hv]; decide) (by unfold cutA; rw [hv]) rfl
theorem rget32_r (s : St) (a : ByteArray) (at_ : Int) (ha : a.size < 1000000000) (h1 : -9223372036854775808 ≤ at_ ∧ at_ ≤ 9223372036854775807) :
    RunD T f_r04_Get32 [.str a, .int .i64 at_] s (get32A a at_) s := by
  refine run_body (F := r_r04_Get32) (has rfl) (by simp [r_r04_Get32]) ?_
  have hg := rget4_r (T := T) s a at_ ha h1
  unfold get32A
  simp only [r_r04_Get32, XX, CC, YY, Nat.reduceAdd, Nat.reduceSub, Nat.reduceLeDiff, Nat.reduceLT, Nat.reduceEqDiff, reduceIte, ↓reduceIte, Nat.reduceBEq]
  cases hv : cutV a at_ 4 with
  | none =>
    rw [hv] at hg
    refine hg.use ?_
    simp only [XX, CC, YY, Nat.reduceAdd, Nat.reduceSub, Nat.reduceLeDiff, Nat.reduceLT, Nat.reduceEqDiff, reduceIte, ↓reduceIte, Nat.reduceBEq, show IntKind.u32.wrap 0 = 0 from rfl]
    exact .inl ⟨rfl, rfl⟩
  | some b =>
    rw [hv] at hg
    have hl := all_lt (l := b.toList) (by rw [toList_size, cutV_size hv]; decide)
    refine hg.use ?_
    simp only [XX, CC, YY, Nat.reduceAdd, Nat.reduceSub, Nat.reduceLeDiff, Nat.reduceLT, Nat.reduceEqDiff, reduceIte, ↓reduceIte, Nat.reduceBEq, wu32_in (x := ((getB b.toList : Nat) : Int)) (by omega) (by omega)]
    exact .inl ⟨rfl, rfl⟩
end Go.Ev

/-! Numbers as strings: the program's and the reference's. -/
namespace Go.Ev
set_option linter.unusedVariables false
set_option linter.unusedSimpArgs false
open Go.Ev.So
variable {T : Nat → Option RF} [Has T]

/-- the four bytes of a number -/
def bytes4 (n : Nat) : List Nat := [n / 16777216 % 256, n / 65536 % 256, n / 256 % 256, n % 256]
def put4V (n : Nat) : ByteArray := strB ((bytes4 n).map Int.ofNat)
def cB (b : Nat) : List AV := [.int .u8 (b : Int)]
theorem cB_len (b : Nat) : (cB b).length = 1 := id rfl
theorem cB_cell (b : Nat) : (cB b).all AV.cell = true := id rfl
theorem unbyts_cB : ∀ l : List Nat, unbyts (l.flatMap cB) = some (l.map Int.ofNat)
  | [] => rfl
  | b :: l => by
    show unbyts (.int .u8 (b : Int) :: l.flatMap cB) = _
    simp only [unbyts, unbyts_cB l, Option.map_some, List.map_cons]; rfl
theorem b2s_rd {t : St} {v : AV} {l : List Nat} (h : Rd 1 cB t v l) : xtA t .b2s [v] = some (.str (strB (l.map Int.ofNat)), t) := by
  simp only [xtA, h.cells, unbyts_cB, Option.map_some]
theorem w8 (x : Nat) : IntKind.u8.wrap (x : Int) = ((x % 256 : Nat) : Int) := by
  have : IntKind.u8.wrap (x : Int) = (x : Int) % 256 := by simp [IntKind.wrap, IntKind.bits, IntKind.signed]
  rw [this]; omega
theorem shr32k {k : IntKind} {x n : Nat} (hn : n ≤ 32) : binA .shr (.int .u32 (x : Int)) (.int k (n : Int)) = some (.int .u32 ((x / 2 ^ n : Nat) : Int)) := by
  simp only [binA]
  rw [if_neg (by omega), show IntKind.u32.bits = 32 from rfl, Int.toNat_natCast, Nat.min_eq_left hn, Int.natCast_ediv, Int.natCast_pow, Int.fdiv_eq_ediv_of_nonneg _ (by exact Int.le_of_lt (Int.pow_pos (by decide)))]
  rfl
theorem shr64k {k : IntKind} {x n : Nat} (hn : n ≤ 64) : binA .shr (.int .u64 (x : Int)) (.int k (n : Int)) = some (.int .u64 ((x / 2 ^ n : Nat) : Int)) := by
  simp only [binA]
  rw [if_neg (by omega), show IntKind.u64.bits = 64 from rfl, Int.toNat_natCast, Nat.min_eq_left hn, Int.natCast_ediv, Int.natCast_pow, Int.fdiv_eq_ediv_of_nonneg _ (by exact Int.le_of_lt (Int.pow_pos (by decide)))]
  rfl
theorem mul8 {j : Nat} (h : j < 1000) : binA .mul (.int .i64 8) (.int .i64 (j : Int)) = some (.int .i64 ((8 * j : Nat) : Int)) := by
  simp only [binA, if_true]
  rw [w64_in (by omega) (by omega)]
  congr 2
theorem byte_at {n j : Nat} (h : j < 4) : (bytes4 n)[j]? = some (n / 2 ^ (8 * (3 - j)) % 256) := by
  match j, h with
  | 0, _ => rfl
  | 1, _ => rfl
  | 2, _ => rfl
  | 3, _ => simp [bytes4]
theorem strB_byte (l : List Nat) : l.map Int.ofNat = l.map Int.ofNat := rfl

set_option maxHeartbeats 2000000 in
theorem put4_r (s : St) (n : Nat) (hn : n < 4294967296) : RunD T f_octet_put_uint32 [.int .u32 n, .int .i64 4] s (.str (put4V n)) s := by
  refine run_body (F := r_octet_put_uint32) (has rfl) (by simp [r_octet_put_uint32]) ?_
  have hmk : mksA s 1 1 [.int .u8 0] (.int .i64 4) (.int .i64 4) = some (.sl s.length 0 1 4 none, s ++ [.cells true ([0, 0, 0, 0].flatMap cB)]) := rfl
  have h31 : IntKind.i64.wrap (4 - 1) = 3 := by rw [w64_in (by decide) (by decide)]; rfl
  simp only [r_octet_put_uint32, XX, CC, YY, Nat.reduceAdd, Nat.reduceSub, Nat.reduceLeDiff, Nat.reduceLT, Nat.reduceEqDiff, reduceIte, ↓reduceIte, Nat.reduceBEq, hmk]
  refine awp_rounds (fun d e t => ∃ (i : Nat) (L : List Nat), t = s ++ [.cells true (L.flatMap cB)] ∧ i + d = 4 ∧ L.length = 4 ∧ L.take i = (bytes4 n).take i ∧ e.get 0 = .int .u32 n ∧ e.get 1 = .int .i64 4 ∧ e.get 5 = .sl s.length 0 1 4 none ∧ e.get 10 = .int .i64 4 ∧ e.get 11 = .int .i64 i) 4 ?_ ?_
  · refine ⟨0, [0, 0, 0, 0], rfl, by omega, rfl, rfl, ?_, ?_, ?_, ?_, ?_⟩ <;> (try simp only [XX, CC, YY, Nat.reduceAdd, Nat.reduceSub, Nat.reduceLeDiff, Nat.reduceLT, Nat.reduceEqDiff, reduceIte, ↓reduceIte, Nat.reduceBEq]) <;> rfl
  rintro J d e t hJ ⟨i, L, rfl, hi, hL, hLi, g0, g1, g5, g10, g11⟩
  simp only [XX, CC, YY, Nat.reduceAdd, Nat.reduceSub, Nat.reduceLeDiff, Nat.reduceLT, Nat.reduceEqDiff, reduceIte, ↓reduceIte, Nat.reduceBEq, g0, g1, g5, g10, g11]
  have hat : (s ++ [Blk.cells true (L.flatMap cB)])[s.length]? = some (.cells true (L.flatMap cB)) := by simp
  have hlen : (L.flatMap cB).length = 4 := by rw [flat_len cB_len, hL]
  by_cases h : i < 4
  · have hb := byte_at (n := n) h
    have e1 : IntKind.i64.wrap (3 - (i : Int)) = ((3 - i : Nat) : Int) := by rw [w64_in (by omega) (by omega)]; omega
    have hm := mul8 (j := 3 - i) (by omega)
    have hs := shr32k (k := .i64) (x := n) (n := 8 * (3 - i)) (by omega)
    have hw1 : IntKind.i64.wrap ((i : Int) + 1) = ((i + 1 : Nat) : Int) := by rw [w64_in (by omega) (by omega)]; omega
    have hst : wrA [Blk.cells true (L.flatMap cB)] 0 i [AV.int .u8 ((n / 2 ^ (8 * (3 - i)) % 256 : Nat) : Int)] = some [Blk.cells true ((L.set i (n / 2 ^ (8 * (3 - i)) % 256)).flatMap cB)] := by
      rw [wr_own (s := [Blk.cells true (L.flatMap cB)]) (b := 0) (cs := L.flatMap cB) (by rfl), if_pos ⟨by simp [hlen]; omega, by rfl⟩]
      have := set_flat cB_len (n / 2 ^ (8 * (3 - i)) % 256) [] L i (by omega)
      simp only [List.append_nil, Nat.mul_one] at this
      have h2 : setL (L.flatMap cB) i [AV.int .u8 ((n / 2 ^ (8 * (3 - i)) % 256 : Nat) : Int)] = (L.set i (n / 2 ^ (8 * (3 - i)) % 256)).flatMap cB := this
      rw [h2]
      rfl
    simp only [dec_t (show (i : Int) < 4 by omega), XX, CC, YY, Nat.reduceAdd, Nat.reduceSub, Nat.reduceLeDiff, Nat.reduceLT, Nat.reduceEqDiff, reduceIte, ↓reduceIte, Nat.reduceBEq, g0, g1, g5, g11, h31, e1, hm, hs, w8, ixa_nat (e := 1) (b := s.length) (o := 0) (n := 4) (c := none) (k := .i64) h, Nat.zero_add, Nat.mul_one, hst, hw1]
    refine hJ (d - 1) _ _ (by omega) ⟨i + 1, L.set i (n / 2 ^ (8 * (3 - i)) % 256), rfl, by omega, by simp [hL], ?_, ?_, ?_, ?_, ?_, ?_⟩ <;> (try simp only [XX, CC, YY, Nat.reduceAdd, Nat.reduceSub, Nat.reduceLeDiff, Nat.reduceLT, Nat.reduceEqDiff, reduceIte, ↓reduceIte, Nat.reduceBEq, g0, g1, g5, g10, g11])
    rw [List.take_add_one, List.take_add_one, List.getElem?_set_self (by omega), hb, List.take_set_of_le (Nat.le_refl _), hLi]
  · have hi4 : i = 4 := by omega
    subst hi4
    rw [List.take_of_length_le (by omega), List.take_of_length_le (by simp [bytes4])] at hLi
    subst hLi
    have hr : Rd 1 cB (s ++ [Blk.cells true ((bytes4 n).flatMap cB)]) (.sl s.length 0 1 4 none) (bytes4 n) := rd_lit (by simp) cB_len rfl
    have hbs := b2s_rd hr
    simp only [dec_f (show ¬ ((4 : Nat) : Int) < 4 by omega), XX, CC, YY, Nat.reduceAdd, Nat.reduceSub, Nat.reduceLeDiff, Nat.reduceLT, Nat.reduceEqDiff, reduceIte, ↓reduceIte, Nat.reduceBEq, g5, hbs]
    exact ret_drop ⟨_, rfl⟩ rfl ⟨rfl, rfl⟩
theorem put32_r (s : St) (n : Nat) (hn : n < 4294967296) : RunD T f_octet_Put32 [.int .u32 n] s (.str (put4V n)) s := by
  refine run_body (F := r_octet_Put32) (has rfl) (by simp [r_octet_Put32]) ?_
  simp only [r_octet_Put32, XX, CC, YY, Nat.reduceAdd, Nat.reduceSub, Nat.reduceLeDiff, Nat.reduceLT, Nat.reduceEqDiff, reduceIte, ↓reduceIte, Nat.reduceBEq]
  refine (put4_r s n hn).use ?_
  (try simp only [XX, CC, YY, Nat.reduceAdd, Nat.reduceSub, Nat.reduceLeDiff, Nat.reduceLT, Nat.reduceEqDiff, reduceIte, ↓reduceIte, Nat.reduceBEq])
  exact .inl ⟨rfl, rfl⟩

set_option maxHeartbeats 2000000 in
theorem rput4_r (s : St) (n : Nat) (hn : n < 4294967296) : RunD T f_r04_put [.int .u64 n, .int .i64 4] s (.str (put4V n)) s := by
  refine run_body (F := r_r04_put) (has rfl) (by simp [r_r04_put]) ?_
  have h31 : IntKind.i64.wrap (4 - 1) = 3 := by rw [w64_in (by decide) (by decide)]; rfl
  have hz : (List.replicate 0 [AV.int .u8 0]).flatten = [] := rfl
  simp only [r_r04_put, XX, CC, YY, Nat.reduceAdd, Nat.reduceSub, Nat.reduceLeDiff, Nat.reduceLT, Nat.reduceEqDiff, reduceIte, ↓reduceIte, Nat.reduceBEq, hz, h31]
  refine awp_rounds (fun d e t => ∃ vo : AV, Ext s t ∧ d ≤ 4 ∧ e.get 0 = .int .u64 n ∧ e.get 5 = vo ∧ e.get 6 = .int .i64 ((d : Int) - 1) ∧ Own s.length 1 cB t vo ((bytes4 n).take (4 - d))) 4 ?_ ?_
  · refine ⟨.sl s.length 0 1 0 (some 0), ⟨_, rfl⟩, Nat.le_refl _, ?_, ?_, ?_, .inr ⟨s.length, some 0, [], Nat.le_refl _, .inr rfl, rfl, by simp, rfl⟩⟩ <;> (try simp only [XX, CC, YY, Nat.reduceAdd, Nat.reduceSub, Nat.reduceLeDiff, Nat.reduceLT, Nat.reduceEqDiff, reduceIte, ↓reduceIte, Nat.reduceBEq]) <;> rfl
  rintro J d e t hJ ⟨vo, hx, hd, g0, g5, g6, ho⟩
  have htl := hx.len
  cases d with
  | succ d =>
    have ed : (((d + 1 : Nat) : Int) - 1) = (d : Int) := by omega
    rw [ed] at g6
    have hb := byte_at (n := n) (j := 3 - d) (by omega)
    rw [show 3 - (3 - d) = d by omega] at hb
    have hm := mul8 (j := d) (by omega)
    have hc : IntKind.u64.wrap ((8 * d : Nat) : Int) = ((8 * d : Nat) : Int) := by rw [wu64]; omega
    have hs := shr64k (k := .u64) (x := n) (n := 8 * d) (by omega)
    have hwd : IntKind.i64.wrap ((d : Int) - 1) = (d : Int) - 1 := w64_in (by omega) (by omega)
    have hlt : ((bytes4 n).take (4 - (d + 1))).length ≤ 4 := by rw [List.length_take]; exact Nat.le_trans (Nat.min_le_right _ _) (by simp [bytes4])
    obtain ⟨v', t', a1, a2, a3, a4, a5, a6⟩ := own_app (by_ := 1) (y := .sl t.length 0 1 1 (some 1)) (l2 := [n / 2 ^ (8 * d) % 256]) (ho.app [.cells true (cB (n / 2 ^ (8 * d) % 256))]) (by simp; omega) (rd_lit (by simp) cB_len rfl) cB_len cB_cell (by simp; omega)
    have hr1 : [AV.int .u8 ((n / 2 ^ (8 * d) % 256 : Nat) : Int)] = cB (n / 2 ^ (8 * d) % 256) := rfl
    simp only [XX, CC, YY, Nat.reduceAdd, Nat.reduceSub, Nat.reduceLeDiff, Nat.reduceLT, Nat.reduceEqDiff, reduceIte, ↓reduceIte, Nat.reduceBEq, g0, g5, g6, dec_t (show (d : Int) ≥ 0 by omega), hm, hc, hs, w8, hr1, a1, hwd]
    refine hJ d _ _ (by omega) ⟨v', a5 s (Nat.le_refl _) (hx.app _), by omega, ?_, ?_, ?_, ?_⟩ <;> (try simp only [XX, CC, YY, Nat.reduceAdd, Nat.reduceSub, Nat.reduceLeDiff, Nat.reduceLT, Nat.reduceEqDiff, reduceIte, ↓reduceIte, Nat.reduceBEq, g0, g5, g6])
    rw [show 4 - d = (3 - d) + 1 by omega, List.take_add_one, hb]
    rw [show 4 - (d + 1) = 3 - d by omega] at a2
    exact a2
  | zero =>
    rw [List.take_of_length_le (by simp [bytes4])] at ho
    have hbs := b2s_rd (ho.rd cB_len)
    simp only [XX, CC, YY, Nat.reduceAdd, Nat.reduceSub, Nat.reduceLeDiff, Nat.reduceLT, Nat.reduceEqDiff, reduceIte, ↓reduceIte, Nat.reduceBEq, g0, g5, g6, dec_f (show ¬ ((0 : Nat) : Int) - 1 ≥ 0 by omega), hbs]
    exact ret_drop hx rfl ⟨rfl, rfl⟩
theorem rput32_r (s : St) (n : Nat) (hn : n < 4294967296) : RunD T f_r04_Put32 [.int .u32 n] s (.str (put4V n)) s := by
  refine run_body (F := r_r04_Put32) (has rfl) (by simp [r_r04_Put32]) ?_
  have hw : IntKind.u64.wrap (n : Int) = (n : Int) := by rw [wu64]; omega
  simp only [r_r04_Put32, XX, CC, YY, Nat.reduceAdd, Nat.reduceSub, Nat.reduceLeDiff, Nat.reduceLT, Nat.reduceEqDiff, reduceIte, ↓reduceIte, Nat.reduceBEq, hw]
  refine (rput4_r s n hn).use ?_
  (try simp only [XX, CC, YY, Nat.reduceAdd, Nat.reduceSub, Nat.reduceLeDiff, Nat.reduceLT, Nat.reduceEqDiff, reduceIte, ↓reduceIte, Nat.reduceBEq])
  exact .inl ⟨rfl, rfl⟩
end Go.Ev

/-! Frames: the program's Frame, the reference's Frame, one, Scan; the law's same. -/
namespace Go.Ev
set_option linter.unusedVariables false
set_option linter.unusedSimpArgs false
open Go.Ev.So
variable {T : Nat → Option RF} [Has T]

theorem put4_size (n : Nat) : (put4V n).size = 4 := rfl
def frameV (s : ByteArray) : ByteArray × Int := if 1 ≤ s.size ∧ s.size ≤ 65536 then (put4V s.size ++ put4V (crcV s) ++ s, 0) else (bts [], 1)
theorem crcV_lt (s : ByteArray) : crcV s < 4294967296 := by
  have key : ∀ (l : List UInt8) (r : Nat), r < 4294967296 → crcL l r < 4294967296 := by
    intro l
    induction l with
    | nil => intro r h; exact h
    | cons b l ih => intro r h; exact ih _ (crcN_lt (xor_byte h b))
  have : crcV s < 2 ^ 32 := Nat.xor_lt_two_pow (by simpa using key s.toList 4294967295 (by decide)) (by decide)
  simpa using this
theorem isrec_r (s : St) (n : Int) : RunD T f_wal_isRecord [.int .i64 n] s (.bool (decide (1 ≤ n ∧ n ≤ 65536))) s := by
  refine run_body (F := r_wal_isRecord) (has rfl) (by simp [r_wal_isRecord]) ?_
  by_cases c : n ≥ 1
  · simp only [r_wal_isRecord, XX, CC, YY, Nat.reduceAdd, Nat.reduceSub, Nat.reduceLeDiff, Nat.reduceLT, Nat.reduceEqDiff, reduceIte, ↓reduceIte, Nat.reduceBEq, dec_t c, gv_tt]
    refine .inl ⟨?_, rfl⟩
    congr 1
    rw [decide_eq_decide]; omega
  · simp only [r_wal_isRecord, XX, CC, YY, Nat.reduceAdd, Nat.reduceSub, Nat.reduceLeDiff, Nat.reduceLT, Nat.reduceEqDiff, reduceIte, ↓reduceIte, Nat.reduceBEq, dec_f c, gv_tf]
    exact .inl ⟨by rw [dec_f (show ¬ (1 ≤ n ∧ n ≤ 65536) by omega)], rfl⟩
theorem add_s {a b : ByteArray} (h : a.size + b.size ≤ 4611686018427387904) : binA .add (.str a) (.str b) = some (.str (a ++ b)) := by
  simp only [binA]; rw [if_pos h]
theorem app_size (a b : ByteArray) : (a ++ b).size = a.size + b.size := by simp
theorem frame_r (s : St) (a : ByteArray) (ha : a.size < 1000000000) : RunD T f_wal_Frame [.str a] s (.tup [.str (frameV a).1, .int .i64 (frameV a).2]) s := by
  refine run_body (F := r_wal_Frame) (has rfl) (by simp [r_wal_Frame]) ?_
  simp only [r_wal_Frame, XX, CC, YY, Nat.reduceAdd, Nat.reduceSub, Nat.reduceLeDiff, Nat.reduceLT, Nat.reduceEqDiff, reduceIte, ↓reduceIte, Nat.reduceBEq]
  refine (isrec_r s a.size).use ?_
  unfold frameV
  by_cases c : 1 ≤ a.size ∧ a.size ≤ 65536
  · rw [if_pos c]
    have hw : IntKind.u32.wrap (a.size : Int) = (a.size : Int) := wu32_in (by omega) (by omega)
    have a1 := add_s (a := put4V a.size) (b := put4V (crcV a)) (by rw [put4_size, put4_size]; decide)
    have a2 := add_s (a := put4V a.size ++ put4V (crcV a)) (b := a) (by rw [app_size, put4_size, put4_size]; omega)
    simp only [XX, CC, YY, Nat.reduceAdd, Nat.reduceSub, Nat.reduceLeDiff, Nat.reduceLT, Nat.reduceEqDiff, reduceIte, ↓reduceIte, Nat.reduceBEq, dec_t (show 1 ≤ (a.size : Int) ∧ (a.size : Int) ≤ 65536 by omega), Bool.not_true, hw]
    refine (put32_r s a.size (by omega)).use ?_
    (try simp only [XX, CC, YY, Nat.reduceAdd, Nat.reduceSub, Nat.reduceLeDiff, Nat.reduceLT, Nat.reduceEqDiff, reduceIte, ↓reduceIte, Nat.reduceBEq])
    refine (crc_r s a ha).use ?_
    (try simp only [XX, CC, YY, Nat.reduceAdd, Nat.reduceSub, Nat.reduceLeDiff, Nat.reduceLT, Nat.reduceEqDiff, reduceIte, ↓reduceIte, Nat.reduceBEq])
    refine (put32_r s (crcV a) (crcV_lt a)).use ?_
    simp only [XX, CC, YY, Nat.reduceAdd, Nat.reduceSub, Nat.reduceLeDiff, Nat.reduceLT, Nat.reduceEqDiff, reduceIte, ↓reduceIte, Nat.reduceBEq, a1, a2]
    exact .inl ⟨rfl, rfl⟩
  · rw [if_neg c]
    simp only [XX, CC, YY, Nat.reduceAdd, Nat.reduceSub, Nat.reduceLeDiff, Nat.reduceLT, Nat.reduceEqDiff, reduceIte, ↓reduceIte, Nat.reduceBEq, dec_f (show ¬ (1 ≤ (a.size : Int) ∧ (a.size : Int) ≤ 65536) by omega), Bool.not_false]
    exact .inl ⟨rfl, rfl⟩
theorem rframe_r (s : St) (a : ByteArray) (ha : a.size < 1000000000) : RunD T f_r07_Frame [.str a] s (.tup [.str (frameV a).1, .int .i64 (frameV a).2]) s := by
  refine run_body (F := r_r07_Frame) (has rfl) (by simp [r_r07_Frame]) ?_
  unfold frameV
  by_cases c1 : (a.size : Int) < 1
  · rw [if_neg (by omega)]
    simp only [r_r07_Frame, XX, CC, YY, Nat.reduceAdd, Nat.reduceSub, Nat.reduceLeDiff, Nat.reduceLT, Nat.reduceEqDiff, reduceIte, ↓reduceIte, Nat.reduceBEq, dec_t c1, gv_ft]
    exact .inl ⟨rfl, rfl⟩
  by_cases c2 : (a.size : Int) > 65536
  · rw [if_neg (by omega)]
    simp only [r_r07_Frame, XX, CC, YY, Nat.reduceAdd, Nat.reduceSub, Nat.reduceLeDiff, Nat.reduceLT, Nat.reduceEqDiff, reduceIte, ↓reduceIte, Nat.reduceBEq, dec_f c1, gv_ff, dec_t c2]
    exact .inl ⟨rfl, rfl⟩
  rw [if_pos (by omega)]
  have hw : IntKind.u32.wrap (a.size : Int) = (a.size : Int) := wu32_in (by omega) (by omega)
  have a1 := add_s (a := put4V a.size) (b := put4V (crcV a)) (by rw [put4_size, put4_size]; decide)
  have a2 := add_s (a := put4V a.size ++ put4V (crcV a)) (b := a) (by rw [app_size, put4_size, put4_size]; omega)
  simp only [r_r07_Frame, XX, CC, YY, Nat.reduceAdd, Nat.reduceSub, Nat.reduceLeDiff, Nat.reduceLT, Nat.reduceEqDiff, reduceIte, ↓reduceIte, Nat.reduceBEq, dec_f c1, gv_ff, dec_f c2, hw]
  refine (rput32_r s a.size (by omega)).use ?_
  (try simp only [XX, CC, YY, Nat.reduceAdd, Nat.reduceSub, Nat.reduceLeDiff, Nat.reduceLT, Nat.reduceEqDiff, reduceIte, ↓reduceIte, Nat.reduceBEq])
  refine (rcrc_r s a ha).use ?_
  (try simp only [XX, CC, YY, Nat.reduceAdd, Nat.reduceSub, Nat.reduceLeDiff, Nat.reduceLT, Nat.reduceEqDiff, reduceIte, ↓reduceIte, Nat.reduceBEq])
  refine (rput32_r s (crcV a) (crcV_lt a)).use ?_
  simp only [XX, CC, YY, Nat.reduceAdd, Nat.reduceSub, Nat.reduceLeDiff, Nat.reduceLT, Nat.reduceEqDiff, reduceIte, ↓reduceIte, Nat.reduceBEq, a1, a2]
  exact .inl ⟨rfl, rfl⟩

/-- the record whose frame begins at a place -/
def recV (s : ByteArray) (p : Nat) : Option ByteArray :=
  match cutV s p 4, cutV s (p + 4 : Nat) 4 with
  | some n, some m => if 1 ≤ getB n.toList ∧ getB n.toList ≤ 65536 then
      match cutV s (p + 8 : Nat) (getB n.toList) with
      | some r => if crcV r = getB m.toList then some r else none
      | none => none
    else none
  | _, _ => none
theorem cutV_room {s b : ByteArray} {p n : Nat} (h : cutV s p n = some b) : p + n ≤ s.size ∧ b.size = n := by
  have h1 := cutV_size h
  unfold cutV at h
  split at h
  · rename_i c; exact ⟨by omega, by omega⟩
  · cases h
theorem recV_room {s r : ByteArray} {p : Nat} (h : recV s p = some r) : p + 8 + r.size ≤ s.size ∧ 1 ≤ r.size := by
  unfold recV at h
  split at h
  · rename_i n m hn hm
    split at h
    · rename_i c
      split at h
      · rename_i r' hr
        split at h
        · cases h
          obtain ⟨a, b⟩ := cutV_room hr
          omega
        · cases h
      · cases h
    · cases h
  · cases h
set_option maxHeartbeats 2000000 in
theorem rone_r (s : St) (a : ByteArray) (p : Nat) (ha : a.size < 1000000000) (hp : p < 2000000000) : Run T f_r07_one [.str a, .int .i64 p] s fun v t => t = s ∧ ∃ x, v = .tup [.str x, .bool (recV a p).isSome] ∧ ∀ r, recV a p = some r → x = r := by
  refine run_body (F := r_r07_one) (has rfl) (by simp [r_r07_one]) ?_
  have h4 : IntKind.i64.wrap ((p : Int) + 4) = ((p + 4 : Nat) : Int) := by rw [w64_in (by omega) (by omega)]; omega
  have h8 : IntKind.i64.wrap ((p : Int) + 8) = ((p + 8 : Nat) : Int) := by rw [w64_in (by omega) (by omega)]; omega
  have no : recV a p = none → ∀ x, Ret s (.tup [.str x, .bool false]) s fun v t => t = s ∧ ∃ x, v = .tup [.str x, .bool (recV a p).isSome] ∧ ∀ r, recV a p = some r → x = r := fun h x =>
    .inl ⟨rfl, x, by rw [h]; rfl, fun r hr => by rw [h] at hr; cases hr⟩
  have g1 := rget32_r (T := T) s a p ha (by omega)
  have g2 := rget32_r (T := T) s a (p + 4 : Nat) ha (by omega)
  simp only [r_r07_one, XX, CC, YY, Nat.reduceAdd, Nat.reduceSub, Nat.reduceLeDiff, Nat.reduceLT, Nat.reduceEqDiff, reduceIte, ↓reduceIte, Nat.reduceBEq]
  refine g1.use ?_
  unfold get32A
  cases c1 : cutV a p 4 with
  | none =>
    have hn : recV a p = none := by unfold recV; rw [c1]
    simp only [XX, CC, YY, Nat.reduceAdd, Nat.reduceSub, Nat.reduceLeDiff, Nat.reduceLT, Nat.reduceEqDiff, reduceIte, ↓reduceIte, Nat.reduceBEq, h4]
    refine g2.use ?_
    unfold get32A
    cases c2 : cutV a (p + 4 : Nat) 4 with
    | none => simp only [XX, CC, YY, Nat.reduceAdd, Nat.reduceSub, Nat.reduceLeDiff, Nat.reduceLT, Nat.reduceEqDiff, reduceIte, ↓reduceIte, Nat.reduceBEq, Bool.not_false, gv_ft]; exact no hn _
    | some m => simp only [XX, CC, YY, Nat.reduceAdd, Nat.reduceSub, Nat.reduceLeDiff, Nat.reduceLT, Nat.reduceEqDiff, reduceIte, ↓reduceIte, Nat.reduceBEq, Bool.not_false, gv_ft]; exact no hn _
  | some n =>
    simp only [XX, CC, YY, Nat.reduceAdd, Nat.reduceSub, Nat.reduceLeDiff, Nat.reduceLT, Nat.reduceEqDiff, reduceIte, ↓reduceIte, Nat.reduceBEq, h4]
    refine g2.use ?_
    unfold get32A
    cases c2 : cutV a (p + 4 : Nat) 4 with
    | none =>
      have hn : recV a p = none := by unfold recV; rw [c1, c2]
      simp only [XX, CC, YY, Nat.reduceAdd, Nat.reduceSub, Nat.reduceLeDiff, Nat.reduceLT, Nat.reduceEqDiff, reduceIte, ↓reduceIte, Nat.reduceBEq, Bool.not_false, Bool.not_true, gv_ft, gv_ff]; exact no hn _
    | some m =>
      have hl := all_lt (l := n.toList) (by rw [toList_size, cutV_size c1]; decide)
      generalize hN : getB n.toList = N at *
      by_cases d1 : (N : Int) < 1
      · have hn : recV a p = none := by unfold recV; rw [c1, c2]; simp only; rw [if_neg (by rw [hN]; omega)]
        simp only [XX, CC, YY, Nat.reduceAdd, Nat.reduceSub, Nat.reduceLeDiff, Nat.reduceLT, Nat.reduceEqDiff, reduceIte, ↓reduceIte, Nat.reduceBEq, Bool.not_true, gv_ft, gv_ff, dec_t d1]; exact no hn _
      by_cases d2 : (N : Int) > 65536
      · have hn : recV a p = none := by unfold recV; rw [c1, c2]; simp only; rw [if_neg (by rw [hN]; omega)]
        simp only [XX, CC, YY, Nat.reduceAdd, Nat.reduceSub, Nat.reduceLeDiff, Nat.reduceLT, Nat.reduceEqDiff, reduceIte, ↓reduceIte, Nat.reduceBEq, Bool.not_true, gv_ft, gv_ff, dec_f d1, dec_t d2]; exact no hn _
      have hw : IntKind.i64.wrap (N : Int) = (N : Int) := w64_in (by omega) (by omega)
      have hc := rcut_r (T := T) s a (p + 8 : Nat) N ha (by omega) (by omega)
      simp only [XX, CC, YY, Nat.reduceAdd, Nat.reduceSub, Nat.reduceLeDiff, Nat.reduceLT, Nat.reduceEqDiff, reduceIte, ↓reduceIte, Nat.reduceBEq, Bool.not_true, gv_ff, dec_f d1, dec_f d2, h8, hw]
      refine hc.use ?_
      unfold cutA
      have hone : recV a p = match cutV a (p + 8 : Nat) N with | some r => if crcV r = getB m.toList then some r else none | none => none := by
        unfold recV; rw [c1, c2]; simp only; rw [if_pos (by rw [hN]; omega), hN]
      cases c3 : cutV a (p + 8 : Nat) N with
      | none =>
        rw [c3] at hone
        simp only [XX, CC, YY, Nat.reduceAdd, Nat.reduceSub, Nat.reduceLeDiff, Nat.reduceLT, Nat.reduceEqDiff, reduceIte, ↓reduceIte, Nat.reduceBEq, gv_tf]; exact no hone _
      | some r =>
        rw [c3] at hone
        simp only at hone
        have hrs := (cutV_room c3).2
        simp only [XX, CC, YY, Nat.reduceAdd, Nat.reduceSub, Nat.reduceLeDiff, Nat.reduceLT, Nat.reduceEqDiff, reduceIte, ↓reduceIte, Nat.reduceBEq, gv_tt]
        refine (rcrc_r s r (by omega)).use ?_
        by_cases d3 : crcV r = getB m.toList
        · rw [if_pos d3] at hone
          have e : (((crcV r : Nat) : Int) == ((getB m.toList : Nat) : Int)) = true := by simp [d3]
          simp only [XX, CC, YY, Nat.reduceAdd, Nat.reduceSub, Nat.reduceLeDiff, Nat.reduceLT, Nat.reduceEqDiff, reduceIte, ↓reduceIte, Nat.reduceBEq, e]
          exact .inl ⟨rfl, r, by rw [hone]; rfl, fun r' h => by rw [hone] at h; cases h; rfl⟩
        · rw [if_neg d3] at hone
          have e : (((crcV r : Nat) : Int) == ((getB m.toList : Nat) : Int)) = false := by simp; omega
          simp only [XX, CC, YY, Nat.reduceAdd, Nat.reduceSub, Nat.reduceLeDiff, Nat.reduceLT, Nat.reduceEqDiff, reduceIte, ↓reduceIte, Nat.reduceBEq, e]
          exact no hone _

/-- the records of the whole frames from a place on, and where they end -/
def scanG (s : ByteArray) : Nat → Nat → List ByteArray × Nat
  | 0, p => ([], p)
  | d + 1, p => match recV s p with
    | none => ([], p)
    | some r => (r :: (scanG s d (p + 8 + r.size)).1, (scanG s d (p + 8 + r.size)).2)
def scanV (s : ByteArray) : List ByteArray × Nat := scanG s (s.size + 1) 0
theorem scanG_none {s : ByteArray} {d p : Nat} (h : recV s p = none) : scanG s d p = ([], p) := by cases d <;> simp [scanG, h]
theorem scanG_some {s r : ByteArray} {d p : Nat} (h : recV s p = some r) : scanG s (d + 1) p = (r :: (scanG s d (p + 8 + r.size)).1, (scanG s d (p + 8 + r.size)).2) := by simp [scanG, h]
def cS (b : ByteArray) : List AV := [.str b]
theorem cS_len (b : ByteArray) : (cS b).length = 1 := id rfl
theorem cS_cell (b : ByteArray) : (cS b).all AV.cell = true := id rfl
theorem cS_un (b : ByteArray) : unders 0 (cS b) = true := id rfl

set_option maxHeartbeats 2000000 in
theorem rscan_r (s : St) (a : ByteArray) (ha : a.size < 1000000000) : Run T f_r07_Scan [.str a] s fun v t => ∃ r, v = .tup [r, .int .i64 (scanV a).2] ∧ Out 1 cS s (scanV a).1 r t := by
  refine run_body (F := r_r07_Scan) (has rfl) (by simp [r_r07_Scan]) ?_
  have hz : (List.replicate 0 [AV.str (bts [])]).flatten = [] := rfl
  simp only [r_r07_Scan, XX, CC, YY, Nat.reduceAdd, Nat.reduceSub, Nat.reduceLeDiff, Nat.reduceLT, Nat.reduceEqDiff, reduceIte, ↓reduceIte, Nat.reduceBEq, hz]
  refine awp_rounds (fun d e t => ∃ (p : Nat) (vo : AV) (out : List ByteArray), Ext s t ∧ p ≤ a.size ∧ a.size + 1 ≤ p + d ∧ out.length ≤ p ∧ e.get 0 = .str a ∧ e.get 4 = vo ∧ e.get 5 = .int .i64 p ∧ Own s.length 1 cS t vo out ∧ out ++ (scanG a d p).1 = (scanV a).1 ∧ (scanG a d p).2 = (scanV a).2) (a.size + 1) ?_ ?_
  · refine ⟨0, .sl s.length 0 1 0 (some 0), [], ⟨_, rfl⟩, by omega, by omega, by simp, ?_, ?_, ?_, .inr ⟨s.length, some 0, [], Nat.le_refl _, .inr rfl, rfl, by simp, rfl⟩, rfl, rfl⟩ <;> (try simp only [XX, CC, YY, Nat.reduceAdd, Nat.reduceSub, Nat.reduceLeDiff, Nat.reduceLT, Nat.reduceEqDiff, reduceIte, ↓reduceIte, Nat.reduceBEq]) <;> rfl
  rintro J d e t hJ ⟨p, vo, out, hx, hp, hd, hol, g0, g4, g5, ho, h1, h2⟩
  simp only [XX, CC, YY, Nat.reduceAdd, Nat.reduceSub, Nat.reduceLeDiff, Nat.reduceLT, Nat.reduceEqDiff, reduceIte, ↓reduceIte, Nat.reduceBEq, g0, g4, g5]
  refine Run.mono _ _ _ _ _ ?_ (rone_r t a p ha (by omega))
  rintro v u ⟨hu, x, rfl, hxr⟩
  rw [hu]
  clear hu u
  cases c : recV a p with
  | none =>
    rw [scanG_none c, List.append_nil] at h1
    rw [scanG_none c] at h2
    simp only [XX, CC, YY, Nat.reduceAdd, Nat.reduceSub, Nat.reduceLeDiff, Nat.reduceLT, Nat.reduceEqDiff, reduceIte, ↓reduceIte, Nat.reduceBEq, Option.isSome_none, Bool.not_false, g4, g5]
    refine ret_own ho (Nat.le_refl _) hx cS_un rfl fun v' s' h => ⟨v', by rw [← h2], by rw [← h1]; exact h⟩
  | some r =>
    obtain rfl := hxr r c
    obtain ⟨k1, k2⟩ := recV_room c
    obtain ⟨d', rfl⟩ : ∃ d', d = d' + 1 := ⟨d - 1, by omega⟩
    have htl := hx.len
    have w1 : IntKind.i64.wrap ((p : Int) + 8) = ((p + 8 : Nat) : Int) := by rw [w64_in (by omega) (by omega)]; omega
    have w2 : IntKind.i64.wrap (((p + 8 : Nat) : Int) + (x.size : Int)) = ((p + 8 + x.size : Nat) : Int) := by rw [w64_in (by omega) (by omega)]; omega
    obtain ⟨v', t', a1, a2, a3, a4, a5, a6⟩ := own_app (by_ := 16) (y := .sl t.length 0 1 1 (some 1)) (l2 := [x]) (ho.app [.cells true (cS x)]) (by simp; omega) (rd_lit (by simp) cS_len rfl) cS_len cS_cell (by simp; omega)
    have hr1 : [AV.str x] = cS x := rfl
    rw [scanG_some c] at h1 h2
    simp only [XX, CC, YY, Nat.reduceAdd, Nat.reduceSub, Nat.reduceLeDiff, Nat.reduceLT, Nat.reduceEqDiff, reduceIte, ↓reduceIte, Nat.reduceBEq, Option.isSome_some, Bool.not_true, g4, g5, hr1, a1, w1, w2]
    refine hJ d' _ _ (by omega) ⟨p + 8 + x.size, v', out ++ [x], a5 s (Nat.le_refl _) (hx.app _), by omega, by omega, by simp; omega, ?_, ?_, ?_, a2, by rw [List.append_assoc]; exact h1, h2⟩ <;> (try simp only [XX, CC, YY, Nat.reduceAdd, Nat.reduceSub, Nat.reduceLeDiff, Nat.reduceLT, Nat.reduceEqDiff, reduceIte, ↓reduceIte, Nat.reduceBEq, g0, g4, g5])

theorem rdS {t : St} {v : AV} {l : List ByteArray} (hv : Rd 1 cS t v l) {i : Nat} {q : ByteArray} (hi : l[i]? = some q) :
    ∃ b o, (∀ k : IntKind, ixaA 1 v (.int k (i : Int)) = some (.ptr b o)) ∧ ldA t none (.ptr b o) = some (.str q) ∧ ∀ l, ldA (t ++ l) none (.ptr b o) = some (.str q) := by
  obtain ⟨b, o, h1, h2⟩ := hv.get cS_len hi
  have a1 : ldA t none (.ptr b o) = some (.str q) := h2 none 0 (.str q) rfl
  exact ⟨b, o, h1, a1, ldA_ext a1⟩
theorem eq_S (a b : ByteArray) : eqA .s (.str a) (.str b) = some (decide (a = b)) := by
  simp only [eqA]
  congr 1
  rw [Bool.eq_iff_iff, beq_iff_eq, decide_eq_true_iff]
  constructor
  · intro h
    rw [ByteArray.toList_eq, ByteArray.toList_eq] at h
    exact ByteArray.ext (Array.toList_inj.1 h)
  · intro h; rw [h]
theorem take_snocS {α : Type} {l : List α} {i : Nat} {q : α} (h : l[i]? = some q) : l.take (i + 1) = l.take i ++ [q] := by
  rw [List.take_add_one, h]; rfl
theorem same07_r (s : St) (v1 v2 : AV) (a b : List ByteArray) (ha : a.length < 1000000000) (hb : b.length < 1000000000) (h1 : Rd 1 cS s v1 a) (h2 : Rd 1 cS s v2 b) : RunD T f_w07_same [v1, v2] s (.bool (decide (a = b))) s := by
  refine run_body (F := r_w07_same) (has rfl) (by simp [r_w07_same]) ?_
  by_cases hab : a.length = b.length
  · have e0 : ((a.length : Int) == (b.length : Int)) = true := by simp [hab]
    simp only [r_w07_same, XX, CC, YY, Nat.reduceAdd, Nat.reduceSub, Nat.reduceLeDiff, Nat.reduceLT, Nat.reduceEqDiff, reduceIte, ↓reduceIte, Nat.reduceBEq, h1.len, h2.len, e0, Bool.not_true]
    refine awp_rounds (fun d e t => t = s ∧ ∃ i : Nat, i + d = a.length ∧ e.get 0 = v1 ∧ e.get 1 = v2 ∧ e.get 5 = .int .i64 i ∧ a.take i = b.take i) a.length ?_ ?_
    · refine ⟨rfl, 0, by omega, ?_, ?_, ?_, rfl⟩ <;> (try simp only [XX, CC, YY, Nat.reduceAdd, Nat.reduceSub, Nat.reduceLeDiff, Nat.reduceLT, Nat.reduceEqDiff, reduceIte, ↓reduceIte, Nat.reduceBEq, h1.len, h2.len]) <;> rfl
    rintro J d e t hJ ⟨rfl, i, hi, g0, g1, g5, he⟩
    simp only [XX, CC, YY, Nat.reduceAdd, Nat.reduceSub, Nat.reduceLeDiff, Nat.reduceLT, Nat.reduceEqDiff, reduceIte, ↓reduceIte, Nat.reduceBEq, g0, g1, g5, h1.len]
    by_cases h : i < a.length
    · have hp : a[i]? = some (a[i]'h) := List.getElem?_eq_getElem _
      have hq : b[i]? = some (b[i]'(by omega)) := List.getElem?_eq_getElem _
      generalize a[i]'h = p at hp
      generalize b[i]'(by omega) = q at hq
      obtain ⟨b1, o1, j1, j2, _⟩ := rdS h1 hp
      obtain ⟨b2, o2, k1, k2, _⟩ := rdS h2 hq
      have em : p = q ∨ ¬ p = q := Classical.em _
      rcases em with c | c
      · simp only [dec_t (show (i : Int) < a.length by omega), XX, CC, YY, Nat.reduceAdd, Nat.reduceSub, Nat.reduceLeDiff, Nat.reduceLT, Nat.reduceEqDiff, reduceIte, ↓reduceIte, Nat.reduceBEq]
        refine drw_in [] rfl ?_
        simp only [List.append_nil, DD, CC, YY, Nat.reduceAdd, Nat.reduceSub, Nat.reduceLeDiff, Nat.reduceLT, Nat.reduceEqDiff, reduceIte, ↓reduceIte, Nat.reduceBEq, g0, g1, g5, j1, j2, k1, k2, eq_S, dec_t c, Bool.not_true]
        refine hJ (d - 1) _ _ (by omega) ⟨rfl, i + 1, by omega, ?_, ?_, ?_, by rw [take_snocS hp, take_snocS hq, he, c]⟩ <;> (try simp only [XX, CC, YY, Nat.reduceAdd, Nat.reduceSub, Nat.reduceLeDiff, Nat.reduceLT, Nat.reduceEqDiff, reduceIte, ↓reduceIte, Nat.reduceBEq, g0, g1, g5])
        rw [w64_nat (by omega)]
      · have hne : ¬ a = b := fun e => by rw [e] at hp; rw [hp] at hq; exact c (by simpa using hq)
        simp only [dec_t (show (i : Int) < a.length by omega), XX, CC, YY, Nat.reduceAdd, Nat.reduceSub, Nat.reduceLeDiff, Nat.reduceLT, Nat.reduceEqDiff, reduceIte, ↓reduceIte, Nat.reduceBEq]
        refine drw_in [] rfl ?_
        simp only [List.append_nil, DD, CC, YY, Nat.reduceAdd, Nat.reduceSub, Nat.reduceLeDiff, Nat.reduceLT, Nat.reduceEqDiff, reduceIte, ↓reduceIte, Nat.reduceBEq, g0, g1, g5, j1, j2, k1, k2, eq_S, dec_f c, Bool.not_false]
        exact .inl ⟨by rw [dec_f hne], rfl⟩
    · rw [List.take_of_length_le (by omega), List.take_of_length_le (by omega)] at he
      simp only [dec_f (show ¬ (i : Int) < a.length by omega), XX, CC, YY, Nat.reduceAdd, Nat.reduceSub, Nat.reduceLeDiff, Nat.reduceLT, Nat.reduceEqDiff, reduceIte, ↓reduceIte, Nat.reduceBEq]
      exact .inl ⟨by rw [dec_t he], rfl⟩
  · have e0 : ((a.length : Int) == (b.length : Int)) = false := by simp; omega
    simp only [r_w07_same, XX, CC, YY, Nat.reduceAdd, Nat.reduceSub, Nat.reduceLeDiff, Nat.reduceLT, Nat.reduceEqDiff, reduceIte, ↓reduceIte, Nat.reduceBEq, h1.len, h2.len, e0, Bool.not_false]
    exact .inl ⟨by rw [dec_f (fun e => hab (by rw [e]))], rfl⟩
end Go.Ev

/-! strings.Trim of a set of letters. -/
namespace Go.Ev
set_option linter.unusedVariables false
set_option linter.unusedSimpArgs false
open Go.Ev.So Go.Proofs
variable {T : Nat → Option RF} [Has T]

def z256 : List AV := List.replicate 256 (.bool false)
def strings_Trim_z (z : List AV) : RC :=
  (.seq (.reg [⟨(some 4), none, (.mv (.k (.str (bts []))))⟩]) (.seq (.seq (.reg [⟨(some 7), none, (.mv (.t 0))⟩, 
  ⟨(some 8), none, (.eq false .s (.t 7) (.k (.str (bts []))))⟩, ⟨(some 9), none, (.mv (.t 8))⟩, ⟨(some 10), (some (9, false)), (.mv (.t 1))⟩, 
  ⟨(some 11), (some (9, false)), (.eq false .s (.t 10) (.k (.str (bts []))))⟩, ⟨(some 12), none, (.pick (.t 9) (.k (.bool true)) (.t 11))⟩]) (.cond (.t 12) (.seq 
  (.reg [⟨(some 13), none, (.mv (.t 0))⟩, ⟨(some 4), none, (.mv (.t 13))⟩]) .ret) .skip)) (.seq (.seq (.reg [⟨(some 14), none, (.mv (.t 1))⟩, ⟨(some 15), none, (.lens (.t 14))⟩, 
  ⟨(some 16), none, (.eq false .i (.t 15) (.k (.int .i64 1)))⟩, ⟨(some 17), none, (.mv (.t 16))⟩, ⟨(some 18), (some (17, true)), (.mv (.t 1))⟩, 
  ⟨(some 19), (some (17, true)), (.ixs (.t 18) (.k (.int .i64 0)))⟩, ⟨(some 20), (some (17, true)), (.bin .lss (.t 19) (.k (.int .u8 128)))⟩, 
  ⟨(some 21), none, (.pick (.t 17) (.t 20) (.k (.bool false)))⟩]) (.cond (.t 21) (.seq (.drw 0 [⟨⟨(some 22), none, (.mv (.t 0))⟩, .pure, [], []⟩, 
  ⟨⟨(some 23), none, (.mv (.t 1))⟩, .pure, [], []⟩, ⟨⟨(some 24), none, (.ixs (.t 23) (.k (.int .i64 0)))⟩, .pure, [], []⟩, 
  ⟨⟨(some 25), none, (.call f_strings_trimRightByte [(.t 22), (.t 24)])⟩, .eff, [], []⟩, ⟨⟨(some 26), none, (.mv (.t 1))⟩, .pure, [], []⟩, 
  ⟨⟨(some 27), none, (.ixs (.t 26) (.k (.int .i64 0)))⟩, .pure, [], []⟩, ⟨⟨(some 28), none, (.call f_strings_trimLeftByte [(.t 25), (.t 27)])⟩, .eff, [], []⟩, 
  ⟨⟨(some 4), none, (.mv (.t 28))⟩, .pure, [], []⟩]) .ret) .skip)) (.seq (.seq (.reg [⟨(some 30), none, (.mv (.t 1))⟩, ⟨(some 31), none, (.call f_strings_makeASCIISet [(.t 30)])⟩, 
  ⟨(some 29), none, (.mv (.t 31))⟩, ⟨(some 32), none, (.ext 0 (.t 29))⟩, ⟨(some 33), none, (.ext 1 (.t 29))⟩, 
  ⟨(some 5), none, (.new z)⟩, 
  ⟨none, none, (.st (some 256) (.t 5) (.t 32))⟩, ⟨(some 6), none, (.mv (.t 33))⟩]) (.seq (.reg [⟨(some 34), none, (.mv (.t 6))⟩]) (.cond (.t 34) (.seq 
  (.reg [⟨(some 35), none, (.mv (.t 0))⟩, ⟨(some 36), none, (.call f_strings_trimRightASCII [(.t 35), (.t 5)])⟩, 
  ⟨(some 37), none, (.call f_strings_trimLeftASCII [(.t 36), (.t 5)])⟩, ⟨(some 4), none, (.mv (.t 37))⟩]) .ret) .skip))) (.seq (.reg [⟨(some 38), none, (.mv (.t 0))⟩, 
  ⟨(some 39), none, (.mv (.t 1))⟩, ⟨(some 40), none, (.call f_strings_trimRightUnicode [(.t 38), (.t 39)])⟩, ⟨(some 41), none, (.mv (.t 1))⟩, 
  ⟨(some 42), none, (.call f_strings_trimLeftUnicode [(.t 40), (.t 41)])⟩, ⟨(some 4), none, (.mv (.t 42))⟩]) .ret)))))
theorem strings_Trim_is : r_strings_Trim.body = strings_Trim_z z256 := by kernel_rfl
def strings_makeASCIISet_z (z : List AV) : RC :=
  (.seq 
  (.reg [⟨(some 2), none, (.new z)⟩, 
  ⟨(some 3), none, (.mv (.k (.bool false)))⟩]) (.seq (.seq (.reg [⟨(some 4), none, (.mv (.k (.int .i64 0)))⟩]) (.block 0 (.loop (.seq (.seq (.reg [⟨(some 6), none, (.mv (.t 4))⟩, 
  ⟨(some 7), none, (.mv (.t 0))⟩, ⟨(some 8), none, (.lens (.t 7))⟩, ⟨(some 9), none, (.bin .lss (.t 6) (.t 8))⟩]) (.cond (.t 9) .skip (.exit 0))) (.seq (.block 1 (.seq 
  (.reg [⟨(some 12), none, (.mv (.t 0))⟩, ⟨(some 13), none, (.mv (.t 4))⟩, ⟨(some 14), none, (.ixs (.t 12) (.t 13))⟩, ⟨(some 5), none, (.mv (.t 14))⟩]) (.seq (.seq 
  (.reg [⟨(some 15), none, (.mv (.t 5))⟩, ⟨(some 16), none, (.bin .geq (.t 15) (.k (.int .u8 128)))⟩]) (.cond (.t 16) (.seq (.reg [⟨(some 17), none, (.ld (some 256) (.t 2))⟩, 
  ⟨none, none, (.st (some 256) (.t 2) (.t 17))⟩, ⟨(some 3), none, (.mv (.k (.bool false)))⟩]) .ret) .skip)) (.reg [⟨(some 18), none, (.mv (.t 5))⟩, 
  ⟨(some 19), none, (.ixp 1 256 (.t 2) (.t 18))⟩, ⟨none, none, (.st none (.t 19) (.k (.bool true)))⟩])))) (.reg [⟨(some 10), none, (.mv (.t 4))⟩, 
  ⟨(some 11), none, (.bin .add (.t 10) (.k (.int .i64 1)))⟩, ⟨(some 4), none, (.mv (.t 11))⟩])))))) (.seq (.reg [⟨(some 20), none, (.ld (some 256) (.t 2))⟩, 
  ⟨none, none, (.st (some 256) (.t 2) (.t 20))⟩, ⟨(some 3), none, (.mv (.k (.bool true)))⟩]) .ret)))
theorem strings_makeASCIISet_is : r_strings_makeASCIISet.body = strings_makeASCIISet_z z256 := by kernel_rfl

theorem z256_len : z256.length = 256 := by unfold z256; rw [List.length_replicate]
theorem z256_cell : z256.all AV.cell = true := by unfold z256; rw [List.all_replicate]; rfl
theorem z256_get {i : Nat} (h : i < 256) : z256[i]? = some (.bool false) := by unfold z256; rw [List.getElem?_replicate, if_pos h]
/-- the set of some bytes -/
def setT (l : List UInt8) (T : List AV) : List AV := l.foldl (fun T b => T.set b.toNat (.bool true)) T
theorem setT_len : ∀ (l : List UInt8) (T : List AV), (setT l T).length = T.length
  | [], T => rfl
  | b :: l, T => by show (setT l (T.set b.toNat (.bool true))).length = _; rw [setT_len, List.length_set]
theorem set_cell : ∀ (T : List AV) (i : Nat), T.all AV.cell = true → (T.set i (.bool true)).all AV.cell = true
  | [], _, _ => rfl
  | x :: T, 0, h => by simp only [List.set_cons_zero, List.all_cons, Bool.and_eq_true] at h ⊢; exact ⟨rfl, h.2⟩
  | x :: T, i + 1, h => by simp only [List.set_cons_succ, List.all_cons, Bool.and_eq_true] at h ⊢; exact ⟨h.1, set_cell T i h.2⟩
theorem setT_cell : ∀ (l : List UInt8) (T : List AV), T.all AV.cell = true → (setT l T).all AV.cell = true
  | [], T, h => h
  | b :: l, T, h => setT_cell l _ (set_cell T _ h)
theorem setT_get : ∀ (l : List UInt8) (T : List AV) (i : Nat), i < T.length → (setT l T)[i]? = if l.any (fun b => b.toNat == i) then some (.bool true) else T[i]?
  | [], T, i, h => rfl
  | b :: l, T, i, h => by
    show (setT l (T.set b.toNat (.bool true)))[i]? = _
    rw [setT_get l _ i (by rw [List.length_set]; exact h), List.any_cons, List.getElem?_set]
    by_cases c1 : l.any (fun b => b.toNat == i) = true
    · rw [if_pos c1, if_pos (by rw [c1, Bool.or_true])]
    · rw [if_neg c1]
      by_cases c2 : b.toNat = i
      · rw [if_pos c2, if_pos (show b.toNat < T.length by omega), if_pos (by simp [c2])]
      · rw [if_neg c2, if_neg (by simp only [Bool.not_eq_true] at c1; rw [c1]; simp [c2])]
def isB : AV → Bool
  | .bool _ => true
  | _ => false
theorem allB_un {n : Nat} : ∀ (T : List AV), T.all isB = true → unders n T = true
  | [], _ => rfl
  | x :: T, h => by
    rw [List.all_cons, Bool.and_eq_true] at h
    obtain ⟨h1, h2⟩ := h
    have := allB_un (n := n) T h2
    cases x with
    | bool b => simp only [unders, this, AV.under, Bool.and_true]
    | _ => cases h1
theorem setB : ∀ (T : List AV) (i : Nat), T.all isB = true → (T.set i (.bool true)).all isB = true
  | [], _, _ => rfl
  | x :: T, 0, h => by simp only [List.set_cons_zero, List.all_cons, Bool.and_eq_true] at h ⊢; exact ⟨rfl, h.2⟩
  | x :: T, i + 1, h => by simp only [List.set_cons_succ, List.all_cons, Bool.and_eq_true] at h ⊢; exact ⟨h.1, setB T i h.2⟩
theorem setTB : ∀ (l : List UInt8) (T : List AV), T.all isB = true → (setT l T).all isB = true
  | [], T, h => h
  | b :: l, T, h => setTB l _ (setB T _ h)
theorem z256_B : z256.all isB = true := by unfold z256; rw [List.all_replicate]; rfl
theorem setT_snoc (l : List UInt8) (b : UInt8) (T : List AV) : setT (l ++ [b]) T = (setT l T).set b.toNat (.bool true) := by unfold setT; rw [List.foldl_append]; rfl
theorem ld256 {t : St} {b : Nat} {T : List AV} (h : t[b]? = some (.cells true T)) (hl : T.length = 256) : ldA t (some 256) (.ptr b 0) = some (.agg T) := by
  rw [ld_own h]
  simp only [partA]
  rw [if_pos (by omega), List.drop_zero, List.take_of_length_le (by omega)]
theorem setL_all {α : Type} : ∀ (vs cs r : List α) (p : List α), vs.length = cs.length → setL (p ++ cs ++ r) p.length vs = p ++ vs ++ r
  | [], cs, r, p, h => by rw [List.length_eq_zero_iff.1 h.symm]; rfl
  | v :: vs, cs, r, p, h => by
    cases cs with
    | nil => simp at h
    | cons c cs =>
      rw [setL_cons]
      have h1 := setL_all vs cs r (p ++ [v]) (by simpa using h)
      have e : (p ++ c :: cs ++ r).set p.length v = p ++ [v] ++ cs ++ r := by simp
      rw [e]
      rw [List.length_append] at h1
      rw [show p.length + 1 = p.length + [v].length by rfl, h1]
      simp
theorem st256 {t : St} {b : Nat} {T T' : List AV} (h : t[b]? = some (.cells true T)) (hl : T.length = 256) (hl' : T'.length = 256) (hc : T'.all AV.cell = true) : stA t (some 256) (.ptr b 0) (.agg T') = some (t.set b (.cells true T')) := by
  rw [st_agg hl', wr_own h, if_pos ⟨by omega, hc⟩]
  have := setL_all T' T [] [] (by omega)
  simp only [List.append_nil, List.nil_append, List.length_nil] at this
  rw [this]

set_option maxHeartbeats 2000000 in
theorem mkset_r (s : St) (a : ByteArray) (ha : a.size < 1000000) (hb : ∀ b ∈ a.toList, b.toNat < 128) : RunD T f_strings_makeASCIISet [.str a] s (.tup [.agg (setT a.toList z256), .bool true]) s := by
  refine run_body (F := r_strings_makeASCIISet) (has rfl) (show (1 : Nat) ≤ 21 by decide) ?_
  have hlen := toList_size a
  have hz := z256_len
  have hzc := z256_cell
  have hzB := z256_B
  rw [strings_makeASCIISet_is]
  have hres : r_strings_makeASCIISet.res = [.cell (some 256) 2, .tmp 3] := rfl
  rw [hres]
  generalize z256 = z at *
  simp only [strings_makeASCIISet_z, XX, CC, YY, Nat.reduceAdd, Nat.reduceSub, Nat.reduceLeDiff, Nat.reduceLT, Nat.reduceEqDiff, reduceIte, ↓reduceIte, Nat.reduceBEq]
  refine awp_rounds (fun d e t => ∃ (i : Nat), t = s ++ [.cells true (setT (a.toList.take i) z)] ∧ i + d = a.size ∧ e.get 0 = .str a ∧ e.get 2 = .ptr s.length 0 ∧ e.get 4 = .int .i64 i) a.size ?_ ?_
  · refine ⟨0, rfl, by omega, ?_, ?_, ?_⟩ <;> (try simp only [XX, CC, YY, Nat.reduceAdd, Nat.reduceSub, Nat.reduceLeDiff, Nat.reduceLT, Nat.reduceEqDiff, reduceIte, ↓reduceIte, Nat.reduceBEq]) <;> rfl
  rintro J d e t hJ ⟨i, rfl, hi, g0, g2, g4⟩
  have hTl : (setT (a.toList.take i) z).length = 256 := by rw [setT_len, hz]
  have hTc := setT_cell (a.toList.take i) z hzc
  have hat : (s ++ [Blk.cells true (setT (a.toList.take i) z)])[s.length]? = some (.cells true (setT (a.toList.take i) z)) := by simp
  simp only [XX, CC, YY, Nat.reduceAdd, Nat.reduceSub, Nat.reduceLeDiff, Nat.reduceLT, Nat.reduceEqDiff, reduceIte, ↓reduceIte, Nat.reduceBEq, g0, g2, g4]
  by_cases h : i < a.size
  · have hq : a.toList[i]? = some (a.toList[i]'(by omega)) := List.getElem?_eq_getElem _
    generalize a.toList[i]'(by omega) = c at hq
    have hc := hb c (List.mem_of_getElem? hq)
    have hl : ixsY (.str a) (.int .i64 (i : Int)) = some (.int .u8 c.toNat) := ixs_get hq
    have hx : ixpY 1 256 (.ptr s.length 0) (.int .u8 (c.toNat : Int)) = some (.ptr s.length c.toNat) := by
      simp only [ixpY]; rw [if_pos (by omega)]; simp
    have hw1 : IntKind.i64.wrap ((i : Int) + 1) = ((i + 1 : Nat) : Int) := by rw [w64_in (by omega) (by omega)]; omega
    have hst : stA (s ++ [Blk.cells true (setT (a.toList.take i) z)]) none (.ptr s.length c.toNat) (.bool true) = some (s ++ [.cells true (setT (a.toList.take (i + 1)) z)]) := by
      rw [st_one (by rfl), wr_own hat, if_pos ⟨by simp [hTl]; omega, by rfl⟩, take_snocS hq, setT_snoc]
      simp [setL]
    have hst2 : wrA [Blk.cells true (setT (a.toList.take i) z)] 0 c.toNat [AV.bool true] = some [.cells true (setT (a.toList.take (i + 1)) z)] := by
      rw [wr_own (s := [Blk.cells true (setT (a.toList.take i) z)]) (b := 0) (cs := setT (a.toList.take i) z) (by rfl), if_pos ⟨by simp [hTl]; omega, by rfl⟩, take_snocS hq, setT_snoc]
      rfl
    simp only [dec_t (show (i : Int) < a.size by omega), XX, CC, YY, Nat.reduceAdd, Nat.reduceSub, Nat.reduceLeDiff, Nat.reduceLT, Nat.reduceEqDiff, reduceIte, ↓reduceIte, Nat.reduceBEq, g0, g2, g4, hl, dec_f (show ¬ (c.toNat : Int) ≥ 128 by omega), hx, hst2, hw1]
    refine hJ (d - 1) _ _ (by omega) ⟨i + 1, rfl, by omega, ?_, ?_, ?_⟩ <;> (try simp only [XX, CC, YY, Nat.reduceAdd, Nat.reduceSub, Nat.reduceLeDiff, Nat.reduceLT, Nat.reduceEqDiff, reduceIte, ↓reduceIte, Nat.reduceBEq, g0, g2, g4])
  · rw [List.take_of_length_le (by omega)] at hTl hTc hat ⊢
    have k1 := ld256 hat hTl
    have k2 := st256 hat hTl hTl hTc
    have k3 := ld256 (t := [Blk.cells true (setT a.toList z)]) (b := 0) rfl hTl
    have k4 : stA [Blk.cells true (setT a.toList z)] (some 256) (.ptr 0 0) (.agg (setT a.toList z)) = some [.cells true (setT a.toList z)] := st256 (t := [Blk.cells true (setT a.toList z)]) (b := 0) rfl hTl hTl hTc
    simp only [dec_f (show ¬ (i : Int) < a.size by omega), XX, CC, YY, Nat.reduceAdd, Nat.reduceSub, Nat.reduceLeDiff, Nat.reduceLT, Nat.reduceEqDiff, reduceIte, ↓reduceIte, Nat.reduceBEq, g2, k1, k3, k4]
    have hun := allB_un (n := s.length) _ (setTB a.toList z hzB)
    exact ret_drop ⟨_, rfl⟩ (by simp only [AV.under, unders, hun, Bool.and_true, Bool.true_and]) ⟨rfl, rfl⟩
end Go.Ev

/-! strings.Trim; names. -/
namespace Go.Ev
set_option linter.unusedVariables false
set_option linter.unusedSimpArgs false
open Go.Ev.So Go.Proofs
variable {T : Nat → Option RF} [Has T]

def inS (l : List UInt8) (b : UInt8) : Bool := l.any fun c => c.toNat == b.toNat
theorem contains_r (t : St) (k : Nat) (M : List AV) (b : UInt8) (x : Bool) (ht : t[k]? = some (.cells true M)) (hg : M[b.toNat]? = some (.bool x)) : RunD T f_strings_asciiSet_contains [.ptr k 0, .int .u8 b.toNat] t (.bool x) t := by
  refine run_body (F := r_strings_asciiSet_contains) (has rfl) (by simp [r_strings_asciiSet_contains]) ?_
  have hx : ixpY 1 256 (.ptr k 0) (.int .u8 (b.toNat : Int)) = some (.ptr k b.toNat) := by
    have := b.toNat_lt
    simp only [ixpY]; rw [if_pos (by omega)]; simp
  have hl : ldA t none (.ptr k b.toNat) = some (.bool x) := by rw [ld_own ht]; exact hg
  simp only [r_strings_asciiSet_contains, XX, CC, YY, Nat.reduceAdd, Nat.reduceSub, Nat.reduceLeDiff, Nat.reduceLT, Nat.reduceEqDiff, reduceIte, ↓reduceIte, Nat.reduceBEq, hx, hl]
  exact .inl ⟨rfl, rfl⟩
theorem set_in {t : St} {k : Nat} {l : List UInt8} (ht : t[k]? = some (.cells true (setT l z256))) (b : UInt8) : RunD T f_strings_asciiSet_contains [.ptr k 0, .int .u8 b.toNat] t (.bool (inS l b)) t := by
  have hb : b.toNat < 256 := b.toNat_lt
  refine contains_r t k _ b (inS l b) ht ?_
  rw [setT_get l z256 b.toNat (by rw [z256_len]; exact hb), z256_get hb]
  unfold inS
  cases (l.any fun c => c.toNat == b.toNat) <;> rfl

/-- What is left when letters were taken off: nothing, or something that has another. -/
def Left (p : UInt8 → Bool) (a x : ByteArray) : Prop := x.size ≤ a.size ∧ x.toList.all p = a.toList.all p ∧ (a.toList.all p = true → x.size = 0)
theorem toList_ext (a : ByteArray) (i j : Nat) : (a.extract i j).toList = (a.toList.take j).drop i := by
  rw [ByteArray.toList_eq, ByteArray.toList_eq, ByteArray.data_extract, Array.toList_extract, List.extract_eq_take_drop, List.drop_take]
theorem toList_nil {a : ByteArray} (h : a.size = 0) : a.toList = [] := List.length_eq_zero_iff.1 (by rw [toList_size]; exact h)

set_option maxHeartbeats 1000000 in
theorem trimR_r (t : St) (k : Nat) (l : List UInt8) (a : ByteArray) (ha : a.size < 140737488355328) (ht : t[k]? = some (.cells true (setT l z256))) :
    Run T f_strings_trimRightASCII [.str a, .ptr k 0] t fun v t' => t' = t ∧ ∃ x, v = .str x ∧ Left (inS l) a x := by
  refine run_body (F := r_strings_trimRightASCII) (has rfl) (by simp [r_strings_trimRightASCII]) ?_
  have hin := set_in (T := T) ht
  clear ht
  simp only [r_strings_trimRightASCII, XX, CC, YY, Nat.reduceAdd, Nat.reduceSub, Nat.reduceLeDiff, Nat.reduceLT, Nat.reduceEqDiff, reduceIte, ↓reduceIte, Nat.reduceBEq]
  refine awp_rounds (fun d e t' => t' = t ∧ ∃ x : ByteArray, x.size = d ∧ x.size ≤ a.size ∧ x.toList.all (inS l) = a.toList.all (inS l) ∧ e.get 0 = .str x ∧ e.get 1 = .ptr k 0) a.size ?_ ?_
  · refine ⟨rfl, a, rfl, Nat.le_refl _, rfl, ?_, ?_⟩ <;> (try simp only [XX, CC, YY, Nat.reduceAdd, Nat.reduceSub, Nat.reduceLeDiff, Nat.reduceLT, Nat.reduceEqDiff, reduceIte, ↓reduceIte, Nat.reduceBEq]) <;> rfl
  rintro J d e t' hJ ⟨rfl, x, hd, hxa, hall, g0, g1⟩
  simp only [XX, CC, YY, Nat.reduceAdd, Nat.reduceSub, Nat.reduceLeDiff, Nat.reduceLT, Nat.reduceEqDiff, reduceIte, ↓reduceIte, Nat.reduceBEq, g0, g1]
  by_cases h : 0 < x.size
  · have hxl := toList_size x
    have hq : x.toList[x.size - 1]? = some (x.toList[x.size - 1]'(by omega)) := List.getElem?_eq_getElem _
    generalize x.toList[x.size - 1]'(by omega) = c at hq
    have hw : IntKind.i64.wrap ((x.size : Int) - 1) = ((x.size - 1 : Nat) : Int) := by rw [w64_in (by omega) (by omega)]; omega
    have hl : ixsY (.str x) (.int .i64 ((x.size - 1 : Nat) : Int)) = some (.int .u8 c.toNat) := ixs_get hq
    have hsp : x.toList = x.toList.take (x.size - 1) ++ [c] := by
      rw [← take_snocS hq, show x.size - 1 + 1 = x.size by omega, List.take_of_length_le (by omega)]
    simp only [dec_t (show (x.size : Int) > 0 by omega), XX, CC, YY, Nat.reduceAdd, Nat.reduceSub, Nat.reduceLeDiff, Nat.reduceLT, Nat.reduceEqDiff, reduceIte, ↓reduceIte, Nat.reduceBEq, g0, g1, hw, hl]
    refine (hin c).use ?_
    cases hc : inS l c with
    | false =>
      have hf : x.toList.all (inS l) = false := by rw [hsp, List.all_append]; simp [hc]
      simp only [XX, CC, YY, Nat.reduceAdd, Nat.reduceSub, Nat.reduceLeDiff, Nat.reduceLT, Nat.reduceEqDiff, reduceIte, ↓reduceIte, Nat.reduceBEq, Bool.not_false, g0]
      refine .inl ⟨rfl, x, rfl, hxa, hall, fun h => ?_⟩
      rw [← hall, hf] at h; cases h
    | true =>
      have hs : slsA (.str x) none (some (.int .i64 ((x.size - 1 : Nat) : Int))) = some (.str (x.extract 0 (x.size - 1))) := by
        simp only [slsA, boundA]
        rw [if_pos (by omega)]
        simp
      have hy : (x.extract 0 (x.size - 1)).toList = x.toList.take (x.size - 1) := by rw [toList_ext, List.drop_zero]
      simp only [XX, CC, YY, Nat.reduceAdd, Nat.reduceSub, Nat.reduceLeDiff, Nat.reduceLT, Nat.reduceEqDiff, reduceIte, ↓reduceIte, Nat.reduceBEq, Bool.not_true, g0, hw, hs]
      refine hJ (d - 1) _ _ (by omega) ⟨rfl, x.extract 0 (x.size - 1), by rw [ext_size _ _ _ (by omega)]; omega, by rw [ext_size _ _ _ (by omega)]; omega, ?_, ?_, ?_⟩ <;> (try simp only [XX, CC, YY, Nat.reduceAdd, Nat.reduceSub, Nat.reduceLeDiff, Nat.reduceLT, Nat.reduceEqDiff, reduceIte, ↓reduceIte, Nat.reduceBEq, g0, g1])
      rw [hy, ← hall]
      conv => rhs; rw [hsp]
      rw [List.all_append]; simp [hc]
  · simp only [dec_f (show ¬ (x.size : Int) > 0 by omega), XX, CC, YY, Nat.reduceAdd, Nat.reduceSub, Nat.reduceLeDiff, Nat.reduceLT, Nat.reduceEqDiff, reduceIte, ↓reduceIte, Nat.reduceBEq, g0]
    exact .inl ⟨rfl, x, rfl, hxa, hall, fun _ => by omega⟩
set_option maxHeartbeats 1000000 in
theorem trimL_r (t : St) (k : Nat) (l : List UInt8) (a : ByteArray) (ha : a.size < 140737488355328) (ht : t[k]? = some (.cells true (setT l z256))) :
    Run T f_strings_trimLeftASCII [.str a, .ptr k 0] t fun v t' => t' = t ∧ ∃ x, v = .str x ∧ Left (inS l) a x := by
  refine run_body (F := r_strings_trimLeftASCII) (has rfl) (by simp [r_strings_trimLeftASCII]) ?_
  have hin := set_in (T := T) ht
  clear ht
  simp only [r_strings_trimLeftASCII, XX, CC, YY, Nat.reduceAdd, Nat.reduceSub, Nat.reduceLeDiff, Nat.reduceLT, Nat.reduceEqDiff, reduceIte, ↓reduceIte, Nat.reduceBEq]
  refine awp_rounds (fun d e t' => t' = t ∧ ∃ x : ByteArray, x.size = d ∧ x.size ≤ a.size ∧ x.toList.all (inS l) = a.toList.all (inS l) ∧ e.get 0 = .str x ∧ e.get 1 = .ptr k 0) a.size ?_ ?_
  · refine ⟨rfl, a, rfl, Nat.le_refl _, rfl, ?_, ?_⟩ <;> (try simp only [XX, CC, YY, Nat.reduceAdd, Nat.reduceSub, Nat.reduceLeDiff, Nat.reduceLT, Nat.reduceEqDiff, reduceIte, ↓reduceIte, Nat.reduceBEq]) <;> rfl
  rintro J d e t' hJ ⟨rfl, x, hd, hxa, hall, g0, g1⟩
  simp only [XX, CC, YY, Nat.reduceAdd, Nat.reduceSub, Nat.reduceLeDiff, Nat.reduceLT, Nat.reduceEqDiff, reduceIte, ↓reduceIte, Nat.reduceBEq, g0, g1]
  by_cases h : 0 < x.size
  · have hxl := toList_size x
    have hq : x.toList[0]? = some (x.toList[0]'(by omega)) := List.getElem?_eq_getElem _
    generalize x.toList[0]'(by omega) = c at hq
    have hl : ixsY (.str x) (.int .i64 0) = some (.int .u8 c.toNat) := ixs_get (i := 0) hq
    have hsp : x.toList = c :: x.toList.drop 1 := by
      cases e : x.toList with
      | nil => rw [e] at hxl; simp at hxl; omega
      | cons y r => rw [e] at hq; simp at hq; rw [hq]; rfl
    simp only [dec_t (show (x.size : Int) > 0 by omega), XX, CC, YY, Nat.reduceAdd, Nat.reduceSub, Nat.reduceLeDiff, Nat.reduceLT, Nat.reduceEqDiff, reduceIte, ↓reduceIte, Nat.reduceBEq, g0, g1, hl]
    refine (hin c).use ?_
    cases hc : inS l c with
    | false =>
      have hf : x.toList.all (inS l) = false := by rw [hsp, List.all_cons, hc]; rfl
      simp only [XX, CC, YY, Nat.reduceAdd, Nat.reduceSub, Nat.reduceLeDiff, Nat.reduceLT, Nat.reduceEqDiff, reduceIte, ↓reduceIte, Nat.reduceBEq, Bool.not_false, g0]
      refine .inl ⟨rfl, x, rfl, hxa, hall, fun h => ?_⟩
      rw [← hall, hf] at h; cases h
    | true =>
      have hs : slsA (.str x) (some (.int .i64 1)) none = some (.str (x.extract 1 x.size)) := by
        simp only [slsA, boundA]
        rw [if_pos (by omega)]
        rfl
      have hy : (x.extract 1 x.size).toList = x.toList.drop 1 := by rw [toList_ext, List.take_of_length_le (by omega)]
      simp only [XX, CC, YY, Nat.reduceAdd, Nat.reduceSub, Nat.reduceLeDiff, Nat.reduceLT, Nat.reduceEqDiff, reduceIte, ↓reduceIte, Nat.reduceBEq, Bool.not_true, g0, hs]
      refine hJ (d - 1) _ _ (by omega) ⟨rfl, x.extract 1 x.size, by rw [ext_size _ _ _ (by omega)]; omega, by rw [ext_size _ _ _ (by omega)]; omega, ?_, ?_, ?_⟩ <;> (try simp only [XX, CC, YY, Nat.reduceAdd, Nat.reduceSub, Nat.reduceLeDiff, Nat.reduceLT, Nat.reduceEqDiff, reduceIte, ↓reduceIte, Nat.reduceBEq, g0, g1])
      rw [hy, ← hall]
      conv => rhs; rw [hsp]
      rw [List.all_cons, hc, Bool.true_and]
  · simp only [dec_f (show ¬ (x.size : Int) > 0 by omega), XX, CC, YY, Nat.reduceAdd, Nat.reduceSub, Nat.reduceLeDiff, Nat.reduceLT, Nat.reduceEqDiff, reduceIte, ↓reduceIte, Nat.reduceBEq, g0]
    exact .inl ⟨rfl, x, rfl, hxa, hall, fun _ => by omega⟩
end Go.Ev

/-! strings.Trim of the letters of names; names, the program's and the reference's. -/
namespace Go.Ev
set_option linter.unusedVariables false
set_option linter.unusedSimpArgs false
open Go.Ev.So Go.Proofs
variable {T : Nat → Option RF} [Has T]

def letS : ByteArray := bts [97, 98, 99, 100, 101, 102, 103, 104, 105, 106, 107, 108, 109, 110, 111, 112, 113, 114, 115, 116, 117, 118, 119, 120, 121, 122, 48, 49, 50, 51, 52, 53, 54, 55, 56, 57, 46, 45]
theorem letS_size : letS.size = 38 := rfl
theorem letS_low : ∀ b ∈ letS.toList, b.toNat < 128 := by
  rw [ByteArray.toList_eq]
  have : (letS.data.toList.all fun b => decide (b.toNat < 128)) = true := by decide +kernel
  intro b hb
  simpa using List.all_eq_true.1 this b hb
def okC (c : Nat) : Bool := (decide (97 ≤ c) && decide (c ≤ 122)) || ((decide (48 ≤ c) && decide (c ≤ 57)) || (c == 46 || c == 45))
theorem inS_ok (b : UInt8) : inS letS.toList b = okC b.toNat := by
  rw [ByteArray.toList_eq]
  have h : ((List.range 256).all fun n => letS.data.toList.any (fun c => c.toNat == n) == okC n) = true := by decide +kernel
  have := List.all_eq_true.1 h b.toNat (List.mem_range.2 b.toNat_lt)
  simpa [inS] using this
theorem str_eq (a b : ByteArray) : eqA .s (.str a) (.str b) = some (decide (a = b)) := eq_S a b
theorem emp_iff (a : ByteArray) : a = bts [] ↔ a.size = 0 := by
  constructor
  · rintro rfl; rfl
  · intro h
    apply ByteArray.ext
    have : a.data.size = 0 := h
    have h2 : (bts []).data = #[] := rfl
    rw [h2]
    exact Array.eq_empty_of_size_eq_zero this

set_option maxHeartbeats 2000000 in
theorem trim_r (t : St) (a : ByteArray) (ha : a.size < 140737488355328) : Run T f_strings_Trim [.str a, .str letS] t fun v t' => t' = t ∧ ∃ x, v = .str x ∧ Left (inS letS.toList) a x := by
  refine run_body (F := r_strings_Trim) (has rfl) (show (2 : Nat) ≤ 43 by decide) ?_
  have hz := z256_len
  have hzc := z256_cell
  have hmk := mkset_r (T := T) t letS (by rw [letS_size]; decide) letS_low
  have hSl : (setT letS.toList z256).length = 256 := by rw [setT_len, hz]
  have hSc := setT_cell letS.toList z256 hzc
  have hR := fun t' ht => trimR_r (T := T) t' t.length letS.toList a ha ht
  have hL := fun t' x (hx : x.size < 140737488355328) ht => trimL_r (T := T) t' t.length letS.toList x hx ht
  have h38 : (((letS.size : Nat) : Int) == 1) = false := rfl
  have hne : decide (letS = bts []) = false := by rw [decide_eq_false_iff_not, emp_iff]; decide
  rw [strings_Trim_is]
  have hres : r_strings_Trim.res = [.tmp 4] := rfl
  rw [hres]
  generalize letS = L at *
  generalize hM : setT L.toList z256 = M at *
  generalize z256 = z at *
  by_cases c : a = bts []
  · simp only [strings_Trim_z, XX, CC, YY, Nat.reduceAdd, Nat.reduceSub, Nat.reduceLeDiff, Nat.reduceLT, Nat.reduceEqDiff, reduceIte, ↓reduceIte, Nat.reduceBEq, str_eq, dec_t c, gv_ft]
    refine .inl ⟨rfl, a, rfl, Nat.le_refl _, rfl, fun _ => (emp_iff a).1 c⟩
  · have hst : stA [Blk.cells true z] (some 256) (.ptr 0 0) (.agg M) = some [.cells true M] := st256 (t := [Blk.cells true z]) (b := 0) rfl hz hSl hSc
    simp only [strings_Trim_z, XX, CC, YY, Nat.reduceAdd, Nat.reduceSub, Nat.reduceLeDiff, Nat.reduceLT, Nat.reduceEqDiff, reduceIte, ↓reduceIte, Nat.reduceBEq, str_eq, dec_f c, gv_ff, hne, h38, gv_tf]
    refine hmk.use ?_
    simp only [XX, CC, YY, Nat.reduceAdd, Nat.reduceSub, Nat.reduceLeDiff, Nat.reduceLT, Nat.reduceEqDiff, reduceIte, ↓reduceIte, Nat.reduceBEq, hst]
    refine Run.mono _ _ _ _ _ ?_ (hR (t ++ [.cells true M]) (by simp))
    rintro v u ⟨hu, x, rfl, hx1, hx2, hx3⟩
    rw [hu]
    (try simp only [XX, CC, YY, Nat.reduceAdd, Nat.reduceSub, Nat.reduceLeDiff, Nat.reduceLT, Nat.reduceEqDiff, reduceIte, ↓reduceIte, Nat.reduceBEq])
    refine Run.mono _ _ _ _ _ ?_ (hL (t ++ [.cells true M]) x (by omega) (by simp))
    rintro v u' ⟨hu', y, rfl, hy1, hy2, hy3⟩
    rw [hu']
    (try simp only [XX, CC, YY, Nat.reduceAdd, Nat.reduceSub, Nat.reduceLeDiff, Nat.reduceLT, Nat.reduceEqDiff, reduceIte, ↓reduceIte, Nat.reduceBEq])
    exact ret_drop ⟨_, rfl⟩ rfl ⟨rfl, y, rfl, by omega, by rw [hy2, hx2], fun h => hy3 (by rw [hx2]; exact h)⟩

def nameB (s : ByteArray) : Bool := decide (1 ≤ s.size ∧ s.size ≤ 32) && s.toList.all fun b => okC b.toNat
theorem name_r (t : St) (a : ByteArray) (ha : a.size < 140737488355328) : RunD T f_files_isName [.str a] t (.bool (nameB a)) t := by
  refine run_body (F := r_files_isName) (has rfl) (by simp [r_files_isName]) ?_
  have hl : bts [97, 98, 99, 100, 101, 102, 103, 104, 105, 106, 107, 108, 109, 110, 111, 112, 113, 114, 115, 116, 117, 118, 119, 120, 121, 122, 48, 49, 50, 51, 52, 53, 54, 55, 56, 57, 46, 45] = letS := rfl
  have hp : a.toList.all (inS letS.toList) = a.toList.all fun b => okC b.toNat := by
    congr 1; funext b; exact inS_ok b
  by_cases c : a = bts []
  · have h0 := (emp_iff a).1 c
    have hn : nameB a = false := by unfold nameB; rw [decide_eq_false (by omega)]; rfl
    simp only [r_files_isName, XX, CC, YY, Nat.reduceAdd, Nat.reduceSub, Nat.reduceLeDiff, Nat.reduceLT, Nat.reduceEqDiff, reduceIte, ↓reduceIte, Nat.reduceBEq, str_eq, dec_t c, Bool.not_true, gv_tf]
    exact .inl ⟨by rw [hn], rfl⟩
  · have h0 : a.size ≠ 0 := fun h => c ((emp_iff a).2 h)
    by_cases c1 : (a.size : Int) ≤ 32
    · simp only [r_files_isName, XX, CC, YY, Nat.reduceAdd, Nat.reduceSub, Nat.reduceLeDiff, Nat.reduceLT, Nat.reduceEqDiff, reduceIte, ↓reduceIte, Nat.reduceBEq, str_eq, dec_f c, Bool.not_false, gv_tt, dec_t c1, hl]
      refine Run.mono _ _ _ _ _ ?_ (trim_r t a ha)
      rintro v u ⟨hu, x, rfl, hx1, hx2, hx3⟩
      rw [hu]
      simp only [XX, CC, YY, Nat.reduceAdd, Nat.reduceSub, Nat.reduceLeDiff, Nat.reduceLT, Nat.reduceEqDiff, reduceIte, ↓reduceIte, Nat.reduceBEq, str_eq]
      refine .inl ⟨?_, rfl⟩
      congr 1
      unfold nameB
      rw [decide_eq_true (show 1 ≤ a.size ∧ a.size ≤ 32 by omega), Bool.true_and, ← hp, Bool.eq_iff_iff, decide_eq_true_iff, emp_iff]
      constructor
      · intro h; rw [← hx2, toList_nil h]; rfl
      · exact hx3
    · have hn : nameB a = false := by unfold nameB; rw [decide_eq_false (by omega)]; rfl
      simp only [r_files_isName, XX, CC, YY, Nat.reduceAdd, Nat.reduceSub, Nat.reduceLeDiff, Nat.reduceLT, Nat.reduceEqDiff, reduceIte, ↓reduceIte, Nat.reduceBEq, str_eq, dec_f c, Bool.not_false, gv_tt, gv_tf, dec_f c1]
      exact .inl ⟨by rw [hn], rfl⟩

set_option maxHeartbeats 2000000 in
theorem rname_r (t : St) (a : ByteArray) (ha : a.size < 140737488355328) : RunD T f_r06_Name [.str a] t (.bool (nameB a)) t := by
  refine run_body (F := r_r06_Name) (has rfl) (by simp [r_r06_Name]) ?_
  have hlen := toList_size a
  by_cases c0 : (a.size : Int) < 1
  · have hn : nameB a = false := by unfold nameB; rw [decide_eq_false (by omega)]; rfl
    simp only [r_r06_Name, XX, CC, YY, Nat.reduceAdd, Nat.reduceSub, Nat.reduceLeDiff, Nat.reduceLT, Nat.reduceEqDiff, reduceIte, ↓reduceIte, Nat.reduceBEq, dec_t c0, gv_ft]
    exact .inl ⟨by rw [hn], rfl⟩
  by_cases c1 : (a.size : Int) > 32
  · have hn : nameB a = false := by unfold nameB; rw [decide_eq_false (by omega)]; rfl
    simp only [r_r06_Name, XX, CC, YY, Nat.reduceAdd, Nat.reduceSub, Nat.reduceLeDiff, Nat.reduceLT, Nat.reduceEqDiff, reduceIte, ↓reduceIte, Nat.reduceBEq, dec_f c0, gv_ff, dec_t c1]
    exact .inl ⟨by rw [hn], rfl⟩
  have hn : nameB a = a.toList.all fun b => okC b.toNat := by unfold nameB; rw [decide_eq_true (by omega)]; rfl
  simp only [r_r06_Name, XX, CC, YY, Nat.reduceAdd, Nat.reduceSub, Nat.reduceLeDiff, Nat.reduceLT, Nat.reduceEqDiff, reduceIte, ↓reduceIte, Nat.reduceBEq, dec_f c0, gv_ff, dec_f c1]
  refine awp_rounds (fun d e t' => t' = t ∧ ∃ i : Nat, i + d = a.size ∧ e.get 0 = .str a ∧ e.get 3 = .int .i64 i ∧ (a.toList.all fun b => okC b.toNat) = ((a.toList.drop i).all fun b => okC b.toNat)) a.size ?_ ?_
  · refine ⟨rfl, 0, by omega, ?_, ?_, rfl⟩ <;> (try simp only [XX, CC, YY, Nat.reduceAdd, Nat.reduceSub, Nat.reduceLeDiff, Nat.reduceLT, Nat.reduceEqDiff, reduceIte, ↓reduceIte, Nat.reduceBEq]) <;> rfl
  rintro J d e t' hJ ⟨rfl, i, hi, g0, g3, hall⟩
  simp only [XX, CC, YY, Nat.reduceAdd, Nat.reduceSub, Nat.reduceLeDiff, Nat.reduceLT, Nat.reduceEqDiff, reduceIte, ↓reduceIte, Nat.reduceBEq, g0, g3]
  by_cases h : i < a.size
  · have hq : a.toList[i]? = some (a.toList[i]'(by omega)) := List.getElem?_eq_getElem _
    have hd : a.toList.drop i = a.toList[i]'(by omega) :: a.toList.drop (i + 1) := List.drop_eq_getElem_cons _
    generalize a.toList[i]'(by omega) = c at hq hd
    rw [hd, List.all_cons] at hall
    have hl : ixsY (.str a) (.int .i64 (i : Int)) = some (.int .u8 c.toNat) := ixs_get hq
    have hw1 : IntKind.i64.wrap ((i : Int) + 1) = ((i + 1 : Nat) : Int) := by rw [w64_in (by omega) (by omega)]; omega
    generalize hN : c.toNat = n at *
    have yes : okC n = true → ∀ e' : Env, e'.get 0 = .str a → e'.get 3 = .int .i64 (i + 1 : Nat) → J e' t' := fun hk e' q0 q3 => hJ (d - 1) _ _ (by omega) ⟨rfl, i + 1, by omega, q0, q3, by rw [hall, hk, Bool.true_and]⟩
    have no : okC n = false → Ret t' (.bool false) t' fun v s' => v = .bool (nameB a) ∧ s' = t' := fun hk => .inl ⟨by rw [hn, hall, hk, Bool.false_and], rfl⟩
    have hk : okC n = ((decide (97 ≤ n) && decide (n ≤ 122)) || ((decide (48 ≤ n) && decide (n ≤ 57)) || (n == 46 || n == 45))) := rfl
    by_cases a1 : (n : Int) ≥ 97
    · by_cases a2 : (n : Int) ≤ 122
      · simp only [dec_t (show (i : Int) < a.size by omega), XX, CC, YY, Nat.reduceAdd, Nat.reduceSub, Nat.reduceLeDiff, Nat.reduceLT, Nat.reduceEqDiff, reduceIte, ↓reduceIte, Nat.reduceBEq, g0, g3, hl, dec_t a1, gv_tt, dec_t a2, gv_ft, gv_u, Bool.not_true, hw1]
        refine yes (by rw [hk, decide_eq_true (by omega), decide_eq_true (by omega)]; rfl) _ ?_ ?_ <;> (try simp only [XX, CC, YY, Nat.reduceAdd, Nat.reduceSub, Nat.reduceLeDiff, Nat.reduceLT, Nat.reduceEqDiff, reduceIte, ↓reduceIte, Nat.reduceBEq, g0, g3])
      · have b1 : ¬ (n : Int) ≤ 57 := by omega
        have b2 : ((n : Int) == 46) = false := by simp; omega
        have b3 : ((n : Int) == 45) = false := by simp; omega
        simp only [dec_t (show (i : Int) < a.size by omega), XX, CC, YY, Nat.reduceAdd, Nat.reduceSub, Nat.reduceLeDiff, Nat.reduceLT, Nat.reduceEqDiff, reduceIte, ↓reduceIte, Nat.reduceBEq, g0, g3, hl, dec_t a1, gv_tt, dec_f a2, gv_ff, dec_t (show (n : Int) ≥ 48 by omega), dec_f b1, b2, b3, Bool.not_false]
        exact no (by rw [hk, decide_eq_false (show ¬ n ≤ 122 by omega), decide_eq_false (show ¬ n ≤ 57 by omega), Bool.and_false, Bool.and_false]; simp; omega)
    · by_cases a2 : (n : Int) ≥ 48
      · by_cases a3 : (n : Int) ≤ 57
        · simp only [dec_t (show (i : Int) < a.size by omega), XX, CC, YY, Nat.reduceAdd, Nat.reduceSub, Nat.reduceLeDiff, Nat.reduceLT, Nat.reduceEqDiff, reduceIte, ↓reduceIte, Nat.reduceBEq, g0, g3, hl, dec_f a1, gv_tf, gv_ff, dec_t a2, gv_tt, dec_t a3, gv_ft, gv_u, Bool.not_true, hw1]
          refine yes (by rw [hk, decide_eq_true (show 48 ≤ n by omega), decide_eq_true (show n ≤ 57 by omega)]; simp) _ ?_ ?_ <;> (try simp only [XX, CC, YY, Nat.reduceAdd, Nat.reduceSub, Nat.reduceLeDiff, Nat.reduceLT, Nat.reduceEqDiff, reduceIte, ↓reduceIte, Nat.reduceBEq, g0, g3])
        · have b2 : ((n : Int) == 46) = false := by simp; omega
          have b3 : ((n : Int) == 45) = false := by simp; omega
          simp only [dec_t (show (i : Int) < a.size by omega), XX, CC, YY, Nat.reduceAdd, Nat.reduceSub, Nat.reduceLeDiff, Nat.reduceLT, Nat.reduceEqDiff, reduceIte, ↓reduceIte, Nat.reduceBEq, g0, g3, hl, dec_f a1, gv_tf, gv_ff, dec_t a2, gv_tt, dec_f a3, b2, b3, Bool.not_false]
          exact no (by rw [hk, decide_eq_false (show ¬ 97 ≤ n by omega), decide_eq_false (show ¬ n ≤ 57 by omega), Bool.and_false, Bool.false_and]; simp; omega)
      · by_cases b2 : n = 46
        · have b2' : ((n : Int) == 46) = true := by simp; omega
          simp only [dec_t (show (i : Int) < a.size by omega), XX, CC, YY, Nat.reduceAdd, Nat.reduceSub, Nat.reduceLeDiff, Nat.reduceLT, Nat.reduceEqDiff, reduceIte, ↓reduceIte, Nat.reduceBEq, g0, g3, hl, dec_f a1, gv_tf, gv_ff, dec_f a2, gv_tt, b2', gv_ft, Bool.not_true, hw1]
          refine yes (by rw [hk, b2]; rfl) _ ?_ ?_ <;> (try simp only [XX, CC, YY, Nat.reduceAdd, Nat.reduceSub, Nat.reduceLeDiff, Nat.reduceLT, Nat.reduceEqDiff, reduceIte, ↓reduceIte, Nat.reduceBEq, g0, g3])
        · have b2' : ((n : Int) == 46) = false := by simp; omega
          by_cases b3 : n = 45
          · have b3' : ((n : Int) == 45) = true := by simp; omega
            simp only [dec_t (show (i : Int) < a.size by omega), XX, CC, YY, Nat.reduceAdd, Nat.reduceSub, Nat.reduceLeDiff, Nat.reduceLT, Nat.reduceEqDiff, reduceIte, ↓reduceIte, Nat.reduceBEq, g0, g3, hl, dec_f a1, gv_tf, gv_ff, dec_f a2, gv_tt, b2', b3', gv_ft, Bool.not_true, hw1]
            refine yes (by rw [hk, b3]; rfl) _ ?_ ?_ <;> (try simp only [XX, CC, YY, Nat.reduceAdd, Nat.reduceSub, Nat.reduceLeDiff, Nat.reduceLT, Nat.reduceEqDiff, reduceIte, ↓reduceIte, Nat.reduceBEq, g0, g3])
          · have b3' : ((n : Int) == 45) = false := by simp; omega
            simp only [dec_t (show (i : Int) < a.size by omega), XX, CC, YY, Nat.reduceAdd, Nat.reduceSub, Nat.reduceLeDiff, Nat.reduceLT, Nat.reduceEqDiff, reduceIte, ↓reduceIte, Nat.reduceBEq, g0, g3, hl, dec_f a1, gv_tf, gv_ff, dec_f a2, gv_tt, b2', b3', gv_ft, Bool.not_false]
            exact no (by rw [hk, decide_eq_false (show ¬ 97 ≤ n by omega), decide_eq_false (show ¬ 48 ≤ n by omega), Bool.false_and, Bool.false_and]; simp [b2, b3])
  · rw [List.drop_of_length_le (by omega)] at hall
    simp only [dec_f (show ¬ (i : Int) < a.size by omega), XX, CC, YY, Nat.reduceAdd, Nat.reduceSub, Nat.reduceLeDiff, Nat.reduceLT, Nat.reduceEqDiff, reduceIte, ↓reduceIte, Nat.reduceBEq]
    exact .inl ⟨by rw [hn, hall]; rfl, rfl⟩
end Go.Ev

/-! The disk: where it lies; New, check, find, Read. -/
namespace Go.Ev
set_option linter.unusedVariables false
set_option linter.unusedSimpArgs false
open Go.Ev.So Go.Proofs
variable {T : Nat → Option RF} [Has T]

/-- A file: its name, its bytes, how many are safe; where it lies. -/
structure Fil where
  name : ByteArray
  data : ByteArray
  safe : Int
  fb : Nat
/-- A disk; where its map lies, its files (with the map's stamps). -/
structure Dsk where
  down : Bool
  armed : Bool
  left : Int
  keep : Int
  steps : Int
  mb : Nat
  clock : Nat
  fs : List (Fil × Nat)
def entF (f : Fil × Nat) : AV × AV × Nat := (.str f.1.name, .ptr f.1.fb 0, f.2)
def cF (f : Fil) : List AV := [.str f.data, .int .i64 f.safe]
def cD (D : Dsk) : List AV := [.map D.mb, .bool D.down, .bool D.armed, .int .i64 D.left, .int .i64 D.keep, .int .i64 D.steps]
structure DAt (t : St) (n b : Nat) (D : Dsk) : Prop where
  low : n ≤ b
  cells : t[b]? = some (.cells true (cD D))
  mlow : n ≤ D.mb
  map : t[D.mb]? = some (.map (D.fs.map entF) D.clock)
  file : ∀ f ∈ D.fs, n ≤ f.1.fb ∧ t[f.1.fb]? = some (.cells true (cF f.1))
  apart : (b :: D.mb :: D.fs.map (·.1.fb)).Nodup
  names : (D.fs.map (·.1.name)).Nodup
theorem DAt.ext {t t' : St} {n b : Nat} {D : Dsk} (h : DAt t n b D) (x : Ext t t') : DAt t' n b D :=
  ⟨h.low, x.get_some h.cells, h.mlow, x.get_some h.map, fun f hf => ⟨(h.file f hf).1, x.get_some (h.file f hf).2⟩, h.apart, h.names⟩
def getF (D : Dsk) (name : ByteArray) : Option Fil := (D.fs.find? fun f => decide (name = f.1.name)).map (·.1)
def ptrF : Option Fil → AV
  | some f => .ptr f.fb 0
  | none => .nilp
theorem find_ent (name : ByteArray) : ∀ fs : List (Fil × Nat), ∃ r, findM .s (.str name) (fs.map entF) = some r ∧
    (match r with | some x => ∃ f, (fs.find? fun f => decide (name = f.1.name)) = some f ∧ fs[x.1]? = some f ∧ x.2 = .ptr f.1.fb 0 | none => (fs.find? fun f => decide (name = f.1.name)) = none)
  | [] => ⟨none, rfl, rfl⟩
  | f :: fs => by
    obtain ⟨r, h1, h2⟩ := find_ent name fs
    by_cases c : name = f.1.name
    · refine ⟨some (0, .ptr f.1.fb 0), ?_, f, ?_, rfl, rfl⟩
      · simp only [List.map_cons, entF, findM, eq_S, dec_t c]
      · rw [List.find?_cons, decide_eq_true c]
    · have hf : ((f :: fs).find? fun f => decide (name = f.1.name)) = fs.find? fun f => decide (name = f.1.name) := by rw [List.find?_cons, decide_eq_false c]
      refine ⟨r.map fun x => (x.1 + 1, x.2), ?_, ?_⟩
      · simp only [List.map_cons, entF, findM, eq_S, dec_f c]
        rw [h1]; rfl
      · cases r with
        | none => rw [hf]; exact h2
        | some x =>
          obtain ⟨g, a1, a2, a3⟩ := h2
          exact ⟨g, by rw [hf]; exact a1, by simpa using a2, a3⟩
theorem look_r {t : St} {n b : Nat} {D : Dsk} (h : DAt t n b D) (name : ByteArray) : xtA t (.lku .s .nilp false) [.map D.mb, .str name] = some (ptrF (getF D name), t) := by
  obtain ⟨r, h1, h2⟩ := find_ent name D.fs
  have hm : mapB t D.mb = some (D.fs.map entF, D.clock) := by unfold mapB; rw [h.map]
  show lkuA t .s .nilp false (.map D.mb) (.str name) = _
  unfold lkuA getF
  simp only [hm, h1]
  cases r with
  | none => simp only at h2; rw [h2]; rfl
  | some x =>
    obtain ⟨f, a1, a2, a3⟩ := h2
    obtain ⟨i, v⟩ := x
    simp only at a3
    rw [a1, a3]; rfl
theorem DAt.ld {t : St} {n b : Nat} {D : Dsk} (h : DAt t n b D) : ldA t none (.ptr b 0) = some (.map D.mb) ∧ ldA t none (.ptr b 1) = some (.bool D.down) ∧ ldA t none (.ptr b 2) = some (.bool D.armed) ∧
    ldA t none (.ptr b 3) = some (.int .i64 D.left) ∧ ldA t none (.ptr b 4) = some (.int .i64 D.keep) ∧ ldA t none (.ptr b 5) = some (.int .i64 D.steps) := by
  refine ⟨?_, ?_, ?_, ?_, ?_, ?_⟩ <;> rw [ld_own h.cells] <;> rfl
theorem getF_mem {D : Dsk} {name : ByteArray} {f : Fil} (h : getF D name = some f) : ∃ k, (f, k) ∈ D.fs ∧ f.name = name := by
  unfold getF at h
  obtain ⟨g, h1, rfl⟩ := Option.map_eq_some_iff.1 h
  exact ⟨g.2, List.mem_of_find?_eq_some h1, by have := List.find?_some h1; simp at this; exact this.symm⟩
theorem eqp_t : eqA .p .nilp .nilp = some true := rfl
theorem eqp_f {b o : Nat} : eqA .p (.ptr b o) .nilp = some false := rfl

/-- the errors of names -/
def chkV (D : Dsk) (ns : List ByteArray) : Int := if D.down then 60 else if ns.all nameB then 0 else 61
theorem checknil_r (t : St) (v : AV) : RunD T f_files_Disk_check [.nilp, v] t (.int .i64 2) t := by
  refine run_body (F := r_files_Disk_check) (has rfl) (by simp [r_files_Disk_check]) ?_
  simp only [r_files_Disk_check, XX, CC, YY, Nat.reduceAdd, Nat.reduceSub, Nat.reduceLeDiff, Nat.reduceLT, Nat.reduceEqDiff, reduceIte, ↓reduceIte, Nat.reduceBEq, eqp_t]
  exact .inl ⟨rfl, rfl⟩
set_option maxHeartbeats 1000000 in
theorem check_r (t : St) (n b : Nat) (D : Dsk) (v : AV) (ns : List ByteArray) (hD : DAt t n b D) (hv : Rd 1 cS t v ns) (hl : ns.length < 1000000) (hs : ∀ a ∈ ns, a.size < 140737488355328) : RunD T f_files_Disk_check [.ptr b 0, v] t (.int .i64 (chkV D ns)) t := by
  refine run_body (F := r_files_Disk_check) (has rfl) (by simp [r_files_Disk_check]) ?_
  have hd := hD.ld.2.1
  unfold chkV
  cases c : D.down with
  | true =>
    rw [c] at hd
    simp only [r_files_Disk_check, XX, CC, YY, Nat.reduceAdd, Nat.reduceSub, Nat.reduceLeDiff, Nat.reduceLT, Nat.reduceEqDiff, reduceIte, ↓reduceIte, Nat.reduceBEq, eqp_f, hd]
    exact .inl ⟨rfl, rfl⟩
  | false =>
    rw [c] at hd
    simp only [r_files_Disk_check, XX, CC, YY, Nat.reduceAdd, Nat.reduceSub, Nat.reduceLeDiff, Nat.reduceLT, Nat.reduceEqDiff, reduceIte, ↓reduceIte, Nat.reduceBEq, eqp_f, hd, hv.len]
    refine awp_rounds (fun d e t' => t' = t ∧ ∃ i : Nat, i + d = ns.length ∧ e.get 13 = v ∧ e.get 14 = .int .i64 ns.length ∧ e.get 15 = .int .i64 i ∧ ns.all nameB = (ns.drop i).all nameB) ns.length ?_ ?_
    · refine ⟨rfl, 0, by omega, ?_, ?_, ?_, rfl⟩ <;> (try simp only [XX, CC, YY, Nat.reduceAdd, Nat.reduceSub, Nat.reduceLeDiff, Nat.reduceLT, Nat.reduceEqDiff, reduceIte, ↓reduceIte, Nat.reduceBEq]) <;> rfl
    rintro J d e t' hJ ⟨ht, i, hi, g13, g14, g15, hall⟩
    rw [ht]
    simp only [XX, CC, YY, Nat.reduceAdd, Nat.reduceSub, Nat.reduceLeDiff, Nat.reduceLT, Nat.reduceEqDiff, reduceIte, ↓reduceIte, Nat.reduceBEq, g13, g14, g15]
    by_cases h : i < ns.length
    · have hq : ns[i]? = some (ns[i]'h) := List.getElem?_eq_getElem _
      have hd' : ns.drop i = ns[i]'h :: ns.drop (i + 1) := List.drop_eq_getElem_cons _
      generalize ns[i]'h = q at hq hd'
      rw [hd', List.all_cons] at hall
      obtain ⟨b1, o1, j1, j2, _⟩ := rdS hv hq
      have hw1 : IntKind.i64.wrap ((i : Int) + 1) = ((i + 1 : Nat) : Int) := by rw [w64_in (by omega) (by omega)]; omega
      simp only [dec_t (show (i : Int) < ns.length by omega), XX, CC, YY, Nat.reduceAdd, Nat.reduceSub, Nat.reduceLeDiff, Nat.reduceLT, Nat.reduceEqDiff, reduceIte, ↓reduceIte, Nat.reduceBEq, g13, g15, j1, j2]
      refine (name_r t q (hs q (List.mem_of_getElem? hq))).use ?_
      cases cq : nameB q with
      | true =>
        rw [cq, Bool.true_and] at hall
        simp only [XX, CC, YY, Nat.reduceAdd, Nat.reduceSub, Nat.reduceLeDiff, Nat.reduceLT, Nat.reduceEqDiff, reduceIte, ↓reduceIte, Nat.reduceBEq, Bool.not_true, g15, hw1]
        refine hJ (d - 1) _ _ (by omega) ⟨rfl, i + 1, by omega, ?_, ?_, ?_, hall⟩ <;> (try simp only [XX, CC, YY, Nat.reduceAdd, Nat.reduceSub, Nat.reduceLeDiff, Nat.reduceLT, Nat.reduceEqDiff, reduceIte, ↓reduceIte, Nat.reduceBEq, g13, g14, g15])
      | false =>
        rw [cq, Bool.false_and] at hall
        simp only [XX, CC, YY, Nat.reduceAdd, Nat.reduceSub, Nat.reduceLeDiff, Nat.reduceLT, Nat.reduceEqDiff, reduceIte, ↓reduceIte, Nat.reduceBEq, Bool.not_false]
        exact .inl ⟨by rw [hall]; rfl, rfl⟩
    · rw [List.drop_of_length_le (by omega)] at hall
      simp only [dec_f (show ¬ (i : Int) < ns.length by omega), XX, CC, YY, Nat.reduceAdd, Nat.reduceSub, Nat.reduceLeDiff, Nat.reduceLT, Nat.reduceEqDiff, reduceIte, ↓reduceIte, Nat.reduceBEq]
      exact .inl ⟨by rw [hall]; rfl, rfl⟩

/-- a file, and how the look went -/
def findV (D : Dsk) (name : ByteArray) : AV := if chkV D [name] ≠ 0 then .tup [.nilp, .int .i64 (chkV D [name])] else match getF D name with
  | some f => .tup [.ptr f.fb 0, .int .i64 0]
  | none => .tup [.nilp, .int .i64 62]
set_option maxHeartbeats 1000000 in
theorem find_r (t : St) (n b : Nat) (D : Dsk) (name : ByteArray) (hD : DAt t n b D) (hs : name.size < 140737488355328) : RunD T f_files_Disk_find [.ptr b 0, .str name] t (findV D name) t := by
  refine run_body (F := r_files_Disk_find) (has rfl) (by simp [r_files_Disk_find]) ?_
  have x1 : Ext t (t ++ [.cells true [.str name]]) := ⟨_, rfl⟩
  have hD1 := hD.ext x1
  have hc := check_r (T := T) (t ++ [.cells true [.str name]]) n b D (.sl t.length 0 1 1 (some 1)) [name] hD1 (rd_lit (l := [name]) (by simp [cS]) cS_len rfl) (by simp) (by intro a ha; simp at ha; rw [ha]; exact hs)
  have hl := look_r hD1 name
  have hm := hD1.ld.1
  unfold findV
  simp only [r_files_Disk_find, XX, CC, YY, Nat.reduceAdd, Nat.reduceSub, Nat.reduceLeDiff, Nat.reduceLT, Nat.reduceEqDiff, reduceIte, ↓reduceIte, Nat.reduceBEq]
  refine hc.use ?_
  generalize chkV D [name] = e at *
  have em : e = 0 ∨ ¬ e = 0 := Classical.em _
  rcases em with c | c
  · subst c
    rw [if_neg (by simp)]
    simp only [XX, CC, YY, Nat.reduceAdd, Nat.reduceSub, Nat.reduceLeDiff, Nat.reduceLT, Nat.reduceEqDiff, reduceIte, ↓reduceIte, Nat.reduceBEq, show ((0 : Int) == 0) = true from rfl, Bool.not_true, hm, hl]
    cases hg : getF D name with
    | none =>
      simp only [ptrF, XX, CC, YY, Nat.reduceAdd, Nat.reduceSub, Nat.reduceLeDiff, Nat.reduceLT, Nat.reduceEqDiff, reduceIte, ↓reduceIte, Nat.reduceBEq, eqp_t]
      exact ret_drop x1 rfl ⟨rfl, rfl⟩
    | some f =>
      obtain ⟨k, hk, _⟩ := getF_mem hg
      have hlt := (List.getElem?_eq_some_iff.1 (hD.file _ hk).2).1
      simp only [ptrF, XX, CC, YY, Nat.reduceAdd, Nat.reduceSub, Nat.reduceLeDiff, Nat.reduceLT, Nat.reduceEqDiff, reduceIte, ↓reduceIte, Nat.reduceBEq, eqp_f]
      exact ret_drop x1 (by simp [AV.under, unders, hlt]) ⟨rfl, rfl⟩
  · have c' : (e == 0) = false := by simp [c]
    rw [if_pos c]
    simp only [XX, CC, YY, Nat.reduceAdd, Nat.reduceSub, Nat.reduceLeDiff, Nat.reduceLT, Nat.reduceEqDiff, reduceIte, ↓reduceIte, Nat.reduceBEq, c', Bool.not_false]
    exact ret_drop x1 rfl ⟨rfl, rfl⟩
end Go.Ev

/-! The disk: New, Read, spend (no loss), Append (no loss). -/
namespace Go.Ev
set_option linter.unusedVariables false
set_option linter.unusedSimpArgs false
open Go.Ev.So Go.Proofs
variable {T : Nat → Option RF} [Has T]

/-- a file's bytes, and how it went -/
def readV (D : Dsk) (name : ByteArray) : ByteArray × Int := if chkV D [name] ≠ 0 then (bts [], chkV D [name]) else match getF D name with
  | some f => (f.data, 0)
  | none => (bts [], 62)
set_option maxHeartbeats 1000000 in
theorem read_r (t : St) (n b : Nat) (D : Dsk) (name : ByteArray) (hD : DAt t n b D) (hs : name.size < 140737488355328) : RunD T f_files_Disk_Read [.ptr b 0, .str name] t (.tup [.str (readV D name).1, .int .i64 (readV D name).2]) t := by
  refine run_body (F := r_files_Disk_Read) (has rfl) (by simp [r_files_Disk_Read]) ?_
  simp only [r_files_Disk_Read, XX, CC, YY, Nat.reduceAdd, Nat.reduceSub, Nat.reduceLeDiff, Nat.reduceLT, Nat.reduceEqDiff, reduceIte, ↓reduceIte, Nat.reduceBEq]
  refine (find_r t n b D name hD hs).use ?_
  unfold findV readV
  generalize chkV D [name] = e
  have em : e = 0 ∨ ¬ e = 0 := Classical.em _
  rcases em with c | c
  · subst c
    rw [if_neg (by simp), if_neg (by simp)]
    cases hg : getF D name with
    | none =>
      simp only [XX, CC, YY, Nat.reduceAdd, Nat.reduceSub, Nat.reduceLeDiff, Nat.reduceLT, Nat.reduceEqDiff, reduceIte, ↓reduceIte, Nat.reduceBEq, show ((62 : Int) == 0) = false from rfl, Bool.not_false]
      exact .inl ⟨rfl, rfl⟩
    | some f =>
      obtain ⟨k, hk, _⟩ := getF_mem hg
      have hl : ldA t none (.ptr f.fb 0) = some (.str f.data) := by rw [ld_own (hD.file _ hk).2]; rfl
      simp only [XX, CC, YY, Nat.reduceAdd, Nat.reduceSub, Nat.reduceLeDiff, Nat.reduceLT, Nat.reduceEqDiff, reduceIte, ↓reduceIte, Nat.reduceBEq, show ((0 : Int) == 0) = true from rfl, Bool.not_true, hl]
      exact .inl ⟨rfl, rfl⟩
  · have c' : (e == 0) = false := by simp [c]
    rw [if_pos c, if_pos c]
    simp only [XX, CC, YY, Nat.reduceAdd, Nat.reduceSub, Nat.reduceLeDiff, Nat.reduceLT, Nat.reduceEqDiff, reduceIte, ↓reduceIte, Nat.reduceBEq, c', Bool.not_false]
    exact .inl ⟨rfl, rfl⟩

/-- one operation is done -/
def spendD (D : Dsk) : Dsk := { D with left := IntKind.i64.wrap (D.left - 1), steps := IntKind.i64.wrap (D.steps + 1) }
theorem DAt.setD {t : St} {n b : Nat} {D D' : Dsk} (h : DAt t n b D) (hm : D'.mb = D.mb) (hc : D'.clock = D.clock) (hf : D'.fs = D.fs) : DAt (t.set b (.cells true (cD D'))) n b D' := by
  have hlt := (List.getElem?_eq_some_iff.1 h.cells).1
  have ha := h.apart
  simp only [List.nodup_cons, List.mem_cons, not_or, List.mem_map, not_exists, not_and] at ha
  refine ⟨h.low, key_set hlt, by rw [hm]; exact h.mlow, ?_, fun f hf' => ?_, by rw [hm, hf]; exact h.apart, by rw [hf]; exact h.names⟩
  · rw [hm, hc, hf, List.getElem?_set, if_neg ha.1.1]; exact h.map
  · rw [hf] at hf'
    refine ⟨(h.file f hf').1, ?_⟩
    rw [List.getElem?_set, if_neg (fun e => ha.1.2 f hf' e.symm)]
    exact (h.file f hf').2
set_option maxHeartbeats 1000000 in
theorem spend_r (t : St) (n b : Nat) (D : Dsk) (hD : DAt t n b D) (hn : ¬ (D.armed = true ∧ D.left = 0)) : RunD T f_files_Disk_spend [.ptr b 0] t (.int .i64 0) (t.set b (.cells true (cD (spendD D)))) := by
  refine run_body (F := r_files_Disk_spend) (has rfl) (by simp [r_files_Disk_spend]) ?_
  obtain ⟨_, _, l2, l3, _, l5⟩ := hD.ld
  have hlt := (List.getElem?_eq_some_iff.1 hD.cells).1
  have s1 : stA t none (.ptr b 3) (.int .i64 (IntKind.i64.wrap (D.left - 1))) = some (t.set b (.cells true (cD { D with left := IntKind.i64.wrap (D.left - 1) }))) := by
    rw [st_one (by rfl), wr_own hD.cells, if_pos ⟨by simp [cD], by rfl⟩]; rfl
  have hD2 := hD.setD (D' := { D with left := IntKind.i64.wrap (D.left - 1) }) rfl rfl rfl
  have l5' := hD2.ld.2.2.2.2.2
  have s2 : stA (t.set b (.cells true (cD { D with left := IntKind.i64.wrap (D.left - 1) }))) none (.ptr b 5) (.int .i64 (IntKind.i64.wrap (D.steps + 1))) = some (t.set b (.cells true (cD (spendD D)))) := by
    rw [st_one (by rfl), wr_own hD2.cells, if_pos ⟨by simp [cD], by rfl⟩, List.set_set]; rfl
  have fin : ∀ x : Bool, x = false → True := fun _ _ => trivial
  cases ca : D.armed with
  | false =>
    rw [ca] at l2
    simp only [r_files_Disk_spend, XX, CC, YY, Nat.reduceAdd, Nat.reduceSub, Nat.reduceLeDiff, Nat.reduceLT, Nat.reduceEqDiff, reduceIte, ↓reduceIte, Nat.reduceBEq, l2, gv_tf, l3, s1, l5', s2]
    exact .inl ⟨rfl, rfl⟩
  | true =>
    rw [ca] at l2
    have hz : (D.left == 0) = false := by simp; exact fun h => hn ⟨ca, h⟩
    simp only [r_files_Disk_spend, XX, CC, YY, Nat.reduceAdd, Nat.reduceSub, Nat.reduceLeDiff, Nat.reduceLT, Nat.reduceEqDiff, reduceIte, ↓reduceIte, Nat.reduceBEq, l2, gv_tt, l3, hz, s1, l5', s2]
    exact .inl ⟨rfl, rfl⟩

/-- a new disk -/
def newD (mb : Nat) : Dsk := ⟨false, false, 0, 0, 0, mb, 0, []⟩
theorem mkm_r (t : St) : xtA t .mkm [] = some (.map t.length, t ++ [.map [] 0]) := rfl
theorem new_r (t : St) : Run T f_files_New [] t fun v t' => v = .ptr (t.length + 1) 0 ∧ t' = t ++ [.map [] 0, .cells true (cD (newD t.length))] := by
  refine run_body (F := r_files_New) (has rfl) (by simp [r_files_New]) ?_
  have hf : fillA [AV.nilm, .bool false, .bool false, .int .i64 0, .int .i64 0, .int .i64 0] [(0, 1, .map t.length)] = some (cD (newD t.length)) := rfl
  have hb : boxA (some 6) (.agg (cD (newD t.length))) = some (cD (newD t.length)) := rfl
  simp only [r_files_New, XX, CC, YY, Nat.reduceAdd, Nat.reduceSub, Nat.reduceLeDiff, Nat.reduceLT, Nat.reduceEqDiff, reduceIte, ↓reduceIte, Nat.reduceBEq, mkm_r, hf, hb]
  exact .inl ⟨by simp, by simp; rfl⟩
theorem new_at (t : St) : DAt (t ++ [.map [] 0, .cells true (cD (newD t.length))]) t.length (t.length + 1) (newD t.length) :=
  ⟨by omega, by simp, Nat.le_refl _, by simp [newD], by simp [newD], by simp [newD], by simp [newD]⟩
end Go.Ev

/-! The disk: Append, where no power goes. -/
namespace Go.Ev
set_option linter.unusedVariables false
set_option linter.unusedSimpArgs false
open Go.Ev.So Go.Proofs

/-- What a call on a disk leaves of the store. -/
def Touch (b : Nat) (D : Dsk) (t t' : St) : Prop := t.length ≤ t'.length ∧ ∀ i, i < t.length → i ≠ b → i ≠ D.mb → (∀ f ∈ D.fs, i ≠ f.1.fb) → t'[i]? = t[i]?
def updF (name : ByteArray) (g : Fil → Fil) (f : Fil × Nat) : Fil × Nat := if name = f.1.name then (g f.1, f.2) else f
/-- a file changed -/
def setF (D : Dsk) (name : ByteArray) (g : Fil → Fil) : Dsk := { D with fs := D.fs.map (updF name g) }
theorem nodup_eq {fs : List (Fil × Nat)} (h : (fs.map (·.1.name)).Nodup) {a b : Fil × Nat} (ha : a ∈ fs) (hb : b ∈ fs) (e : a.1.name = b.1.name) : a = b := by
  induction fs with
  | nil => simp at ha
  | cons x fs ih =>
    rw [List.map_cons, List.nodup_cons] at h
    rcases List.mem_cons.1 ha with r1 | r1
    · rcases List.mem_cons.1 hb with r2 | r2
      · rw [r1, r2]
      · exfalso; apply h.1; rw [← r1, e]; exact List.mem_map_of_mem r2
    · rcases List.mem_cons.1 hb with r2 | r2
      · exfalso; apply h.1; rw [← r2, ← e]; exact List.mem_map_of_mem r1
      · exact ih h.2 r1 r2
theorem nodup_fb {fs : List (Fil × Nat)} (h : (fs.map (·.1.fb)).Nodup) {a b : Fil × Nat} (ha : a ∈ fs) (hb : b ∈ fs) (e : a.1.fb = b.1.fb) : a = b := by
  induction fs with
  | nil => simp at ha
  | cons x fs ih =>
    rw [List.map_cons, List.nodup_cons] at h
    rcases List.mem_cons.1 ha with r1 | r1
    · rcases List.mem_cons.1 hb with r2 | r2
      · rw [r1, r2]
      · exfalso; apply h.1; rw [← r1, e]; exact List.mem_map_of_mem r2
    · rcases List.mem_cons.1 hb with r2 | r2
      · exfalso; apply h.1; rw [← r2, ← e]; exact List.mem_map_of_mem r1
      · exact ih h.2 r1 r2
/-- A file's block is written. -/
theorem DAt.setF {t : St} {n b : Nat} {D : Dsk} (h : DAt t n b D) {name : ByteArray} {f : Fil} (hg : getF D name = some f) (g : Fil → Fil) (hn : ∀ x, (g x).name = x.name) (hb : ∀ x, (g x).fb = x.fb) :
    DAt (t.set f.fb (.cells true (cF (g f)))) n b (setF D name g) := by
  obtain ⟨k, hk, hfn⟩ := getF_mem hg
  have hlt := (List.getElem?_eq_some_iff.1 (h.file _ hk).2).1
  have ha := h.apart
  simp only [List.nodup_cons, List.mem_cons, not_or, List.mem_map, not_exists, not_and] at ha
  have hent : (D.fs.map (updF name g)).map entF = D.fs.map entF := by
    rw [List.map_map]
    apply List.map_congr_left
    intro x _
    simp only [Function.comp, updF]
    split
    · simp only [entF, hn, hb]
    · rfl
  have hfb : (D.fs.map (updF name g)).map (·.1.fb) = D.fs.map (·.1.fb) := by
    rw [List.map_map]
    apply List.map_congr_left
    intro x _
    simp only [Function.comp, updF]
    split
    · simp only [hb]
    · rfl
  have hnm : (D.fs.map (updF name g)).map (·.1.name) = D.fs.map (·.1.name) := by
    rw [List.map_map]
    apply List.map_congr_left
    intro x _
    simp only [Function.comp, updF]
    split
    · simp only [hn]
    · rfl
  refine ⟨h.low, ?_, h.mlow, ?_, ?_, ?_, ?_⟩
  · show _ = some (Blk.cells true (cD D))
    rw [List.getElem?_set, if_neg (ha.1.2 _ hk)]; exact h.cells
  · show _ = some (Blk.map ((D.fs.map (updF name g)).map entF) D.clock)
    rw [hent, List.getElem?_set, if_neg (show ¬ f.fb = (Ev.setF D name g).mb from ha.2.1 _ hk)]; exact h.map
  · intro x hx
    obtain ⟨y, hy, rfl⟩ := List.mem_map.1 hx
    unfold updF
    split
    · rename_i c
      have e := nodup_eq h.names hy hk (by rw [← c, hfn])
      subst e
      exact ⟨by rw [hb]; exact (h.file _ hy).1, by rw [hb]; exact key_set hlt⟩
    · rename_i c
      refine ⟨(h.file _ hy).1, ?_⟩
      rw [List.getElem?_set, if_neg (fun e => c (by rw [← nodup_fb ha.2.2 hk hy e, hfn]))]
      exact (h.file _ hy).2
  · show (b :: D.mb :: (D.fs.map (updF name g)).map (·.1.fb)).Nodup
    rw [hfb]; exact h.apart
  · show ((D.fs.map (updF name g)).map (·.1.name)).Nodup
    rw [hnm]; exact h.names

theorem find_at (name : ByteArray) : ∀ {fs : List (Fil × Nat)} {x : Nat × AV}, findM .s (.str name) (fs.map entF) = some (some x) → ∃ f, fs[x.1]? = some f ∧ f.1.name = name := by
  intro fs x h
  obtain ⟨r, h1, h2⟩ := find_ent name fs
  rw [h1] at h
  cases h
  obtain ⟨f, a1, a2, _⟩ := h2
  exact ⟨f, a2, by have := List.find?_some a1; simp at this; exact this.symm⟩
theorem set_sameL {α : Type} {l : List α} {i : Nat} {x : α} (h : l[i]? = some x) : l.set i x = l := by
  apply List.ext_getElem?
  intro j
  rw [List.getElem?_set]
  split
  · rename_i e
    subst e
    rw [if_pos (List.getElem?_eq_some_iff.1 h).1, h]
  · rfl
/-- The map is told a file that it holds. -/
theorem mup_same {t : St} {n b : Nat} {D : Dsk} (h : DAt t n b D) {name : ByteArray} {f : Fil} (hg : getF D name = some f) : xtA t (.mup .s) [.map D.mb, .str name, .ptr f.fb 0] = some (.undef, t) := by
  obtain ⟨r, h1, h2⟩ := find_ent name D.fs
  have hm : mapB t D.mb = some (D.fs.map entF, D.clock) := by unfold mapB; rw [h.map]
  show mupA t .s (.map D.mb) (.str name) (.ptr f.fb 0) = _
  unfold mupA
  simp only [hm, h1]
  unfold getF at hg
  cases r with
  | none => simp only at h2; rw [h2] at hg; cases hg
  | some x =>
    obtain ⟨i, v⟩ := x
    obtain ⟨fk, a1, a2, a3⟩ := h2
    rw [a1] at hg
    obtain rfl : fk.1 = f := by simpa using hg
    have hn : fk.1.name = name := by have := List.find?_some a1; simp at this; exact this.symm
    simp only
    have e : putM (D.fs.map entF) i (.str name) (.ptr fk.1.fb 0) = D.fs.map entF := by
      unfold putM
      rw [List.getElem?_map, a2]
      show (D.fs.map entF).set i (.str name, .ptr fk.1.fb 0, fk.2) = _
      rw [← hn]
      exact set_sameL (by rw [List.getElem?_map, a2]; rfl)
    rw [e, set_same h.map]
end Go.Ev

/-! The disk: a new file. -/
namespace Go.Ev
set_option linter.unusedVariables false
set_option linter.unusedSimpArgs false
open Go.Ev.So Go.Proofs
variable {T : Nat → Option RF} [Has T]

/-- A new file. -/
def addF (D : Dsk) (name data : ByteArray) (fb : Nat) : Dsk := { D with clock := D.clock + 1, fs := D.fs ++ [(⟨name, data, 0, fb⟩, D.clock)] }
theorem getF_none {D : Dsk} {name : ByteArray} (h : getF D name = none) : ∀ f ∈ D.fs, f.1.name ≠ name := by
  unfold getF at h
  rw [Option.map_eq_none_iff, List.find?_eq_none] at h
  intro f hf e
  exact h f hf (by simp [e])
theorem mup_new {t : St} {n b : Nat} {D : Dsk} (h : DAt t n b D) {name : ByteArray} (hg : getF D name = none) (fb : Nat) :
    xtA t (.mup .s) [.map D.mb, .str name, .ptr fb 0] = some (.undef, t.set D.mb (.map (D.fs.map entF ++ [(.str name, .ptr fb 0, D.clock)]) (D.clock + 1))) := by
  obtain ⟨r, h1, h2⟩ := find_ent name D.fs
  have hm : mapB t D.mb = some (D.fs.map entF, D.clock) := by unfold mapB; rw [h.map]
  show mupA t .s (.map D.mb) (.str name) (.ptr fb 0) = _
  unfold mupA
  simp only [hm, h1]
  unfold getF at hg
  cases r with
  | none => simp only; rfl
  | some x =>
    obtain ⟨fk, a1, _⟩ := h2
    rw [a1] at hg; cases hg
theorem DAt.addF {t : St} {n b : Nat} {D : Dsk} (h : DAt t n b D) (hnt : n ≤ t.length) {name : ByteArray} (hg : getF D name = none) (data : ByteArray) (x : List Blk) (hx : x = [.cells true (cF ⟨name, data, 0, t.length⟩)]) :
    DAt ((t ++ x).set D.mb (.map (D.fs.map entF ++ [(.str name, .ptr t.length 0, D.clock)]) (D.clock + 1))) n b (addF D name data t.length) := by
  subst hx
  have hml := (List.getElem?_eq_some_iff.1 h.map).1
  have hbl := (List.getElem?_eq_some_iff.1 h.cells).1
  have ha := h.apart
  simp only [List.nodup_cons, List.mem_cons, not_or, List.mem_map, not_exists, not_and] at ha
  have hfl : ∀ f ∈ D.fs, f.1.fb < t.length := fun f hf => (List.getElem?_eq_some_iff.1 (h.file f hf).2).1
  refine ⟨h.low, ?_, h.mlow, ?_, ?_, ?_, ?_⟩
  · show _ = some (Blk.cells true (cD D))
    rw [List.getElem?_set, if_neg (fun e => ha.1.1 e.symm), List.getElem?_append_left hbl]; exact h.cells
  · show ((t ++ _).set D.mb _)[D.mb]? = some (Blk.map ((D.fs ++ [((⟨name, data, 0, t.length⟩ : Fil), D.clock)]).map entF) (D.clock + 1))
    rw [List.getElem?_set_self (by simp; omega), List.map_append]; rfl
  · intro f hf
    rcases List.mem_append.1 hf with k | k
    · refine ⟨(h.file f k).1, ?_⟩
      rw [List.getElem?_set, if_neg (fun e => ha.2.1 f k e.symm), List.getElem?_append_left (hfl f k)]
      exact (h.file f k).2
    · simp only [List.mem_singleton] at k
      subst k
      refine ⟨hnt, ?_⟩
      show ((t ++ _).set D.mb _)[t.length]? = _
      rw [List.getElem?_set, if_neg (by omega)]
      simp
  · show (b :: D.mb :: (D.fs ++ [((⟨name, data, 0, t.length⟩ : Fil), D.clock)]).map fun f : Fil × Nat => f.1.fb).Nodup
    rw [List.map_append]
    simp only [List.nodup_cons, List.mem_cons, List.mem_append, List.mem_map, not_or, not_exists, not_and, List.map_cons, List.map_nil, List.not_mem_nil, or_false, not_false_eq_true, and_true]
    refine ⟨⟨ha.1.1, fun f hf => ha.1.2 f hf, by omega⟩, ⟨fun f hf => ha.2.1 f hf, by omega⟩, ?_⟩
    rw [List.nodup_append]
    refine ⟨ha.2.2, by simp, ?_⟩
    intro i hi j hj
    simp only [List.mem_singleton] at hj
    subst hj
    obtain ⟨f, hf, rfl⟩ := List.mem_map.1 hi
    have := hfl f hf
    omega
  · show ((D.fs ++ [((⟨name, data, 0, t.length⟩ : Fil), D.clock)]).map fun f : Fil × Nat => f.1.name).Nodup
    rw [List.map_append, List.nodup_append]
    refine ⟨h.names, by simp, ?_⟩
    intro i hi j hj
    simp only [List.map_cons, List.map_nil, List.mem_singleton] at hj
    subst hj
    obtain ⟨f, hf, rfl⟩ := List.mem_map.1 hi
    exact getF_none hg f hf

theorem getF_setF (D : Dsk) (name : ByteArray) (g : Fil → Fil) (hn : ∀ x, (g x).name = x.name) : getF (setF D name g) name = (getF D name).map g := by
  unfold getF setF
  simp only [List.find?_map]
  have hp : ((fun f : Fil × Nat => decide (name = f.1.name)) ∘ updF name g) = fun f => decide (name = f.1.name) := by
    funext f
    simp only [Function.comp, updF]
    split
    · simp only [hn]
    · rfl
  rw [hp]
  cases h : D.fs.find? fun f => decide (name = f.1.name) with
  | none => rfl
  | some f =>
    have := List.find?_some h
    simp only [decide_eq_true_eq] at this
    simp only [Option.map_some, updF, if_pos this]

def appC (D : Dsk) (name data : ByteArray) : Int := if chkV D [name] ≠ 0 then chkV D [name] else match getF D name with
  | some f => if (data.size : Int) > 1048576 - f.data.size then 63 else 0
  | none => if D.fs.length ≥ 16 then 63 else if (data.size : Int) > 1048576 then 63 else 0
def appD (D : Dsk) (name data : ByteArray) (fb : Nat) : Dsk := if appC D name data ≠ 0 then D else match getF D name with
  | some f => spendD (setF D name fun x => { x with data := x.data ++ data })
  | none => spendD (addF D name (bts [] ++ data) fb)
theorem chkV_val (D : Dsk) (ns : List ByteArray) : chkV D ns = 0 ∨ chkV D ns = 60 ∨ chkV D ns = 61 := by
  unfold chkV; split
  · exact .inr (.inl rfl)
  · split
    · exact .inl rfl
    · exact .inr (.inr rfl)
end Go.Ev

/-! The disk: Sync, Cut (no loss), Down, On, Arm. -/
namespace Go.Ev
set_option linter.unusedVariables false
set_option linter.unusedSimpArgs false
open Go.Ev.So Go.Proofs
variable {T : Nat → Option RF} [Has T]

theorem getF_spend (D : Dsk) (name : ByteArray) : getF (spendD D) name = getF D name := rfl
def syncC (D : Dsk) (name : ByteArray) : Int := if chkV D [name] ≠ 0 then chkV D [name] else match getF D name with
  | some _ => 0
  | none => 62
theorem down_r (t : St) (n b : Nat) (D : Dsk) (hD : DAt t n b D) : RunD T f_files_Disk_Down [.ptr b 0] t (.bool D.down) t := by
  refine run_body (F := r_files_Disk_Down) (has rfl) (by simp [r_files_Disk_Down]) ?_
  simp only [r_files_Disk_Down, XX, CC, YY, Nat.reduceAdd, Nat.reduceSub, Nat.reduceLeDiff, Nat.reduceLT, Nat.reduceEqDiff, reduceIte, ↓reduceIte, Nat.reduceBEq, eqp_f, Bool.not_false, gv_tt, hD.ld.2.1]
  exact .inl ⟨rfl, rfl⟩
def onD (D : Dsk) : Dsk := { D with down := false, armed := false }
theorem on_r (t : St) (n b : Nat) (D : Dsk) (hD : DAt t n b D) : RunD T f_files_Disk_On [.ptr b 0] t (.tup []) (t.set b (.cells true (cD (onD D)))) := by
  refine run_body (F := r_files_Disk_On) (has rfl) (by simp [r_files_Disk_On]) ?_
  have s1 : stA t none (.ptr b 1) (.bool false) = some (t.set b (.cells true (cD { D with down := false }))) := by
    rw [st_one (by rfl), wr_own hD.cells, if_pos ⟨by simp [cD], by rfl⟩]; rfl
  have hD2 := hD.setD (D' := { D with down := false }) rfl rfl rfl
  have s2 : wrA (t.set b (.cells true (cD { D with down := false }))) b 2 [AV.bool false] = some (t.set b (.cells true (cD (onD D)))) := by
    rw [wr_own hD2.cells, if_pos ⟨by simp [cD], by rfl⟩, List.set_set]; rfl
  simp only [r_files_Disk_On, XX, CC, YY, Nat.reduceAdd, Nat.reduceSub, Nat.reduceLeDiff, Nat.reduceLT, Nat.reduceEqDiff, reduceIte, ↓reduceIte, Nat.reduceBEq, eqp_f, Bool.not_false, s1, s2]
  exact .inl ⟨rfl, rfl⟩
def armD (D : Dsk) (k keep : Int) : Dsk := if D.down then D else { D with armed := decide (k ≥ 0), left := k, keep := keep }
theorem arm_r (t : St) (n b : Nat) (D : Dsk) (k keep : Int) (hD : DAt t n b D) : Run T f_files_Disk_Arm [.ptr b 0, .int .i64 k, .int .i64 keep] t fun v t' => v = .tup [] ∧ t' = t.set b (.cells true (cD (armD D k keep))) := by
  refine run_body (F := r_files_Disk_Arm) (has rfl) (by simp [r_files_Disk_Arm]) ?_
  have hd := hD.ld.2.1
  unfold armD
  cases c : D.down with
  | true =>
    rw [c] at hd
    have hsame : t.set b (.cells true (cD D)) = t := set_sameL hD.cells
    simp only [r_files_Disk_Arm, XX, CC, YY, Nat.reduceAdd, Nat.reduceSub, Nat.reduceLeDiff, Nat.reduceLT, Nat.reduceEqDiff, reduceIte, ↓reduceIte, Nat.reduceBEq, eqp_f, Bool.not_false, gv_tt, hd, Bool.not_true]
    exact .inl ⟨rfl, hsame.symm⟩
  | false =>
    rw [c] at hd
    have s1 : stA t none (.ptr b 2) (.bool (decide (k ≥ 0))) = some (t.set b (.cells true (cD { D with armed := decide (k ≥ 0) }))) := by
      rw [st_one (by rfl), wr_own hD.cells, if_pos ⟨by simp [cD], by rfl⟩]; rfl
    have hD2 := hD.setD (D' := { D with armed := decide (k ≥ 0) }) rfl rfl rfl
    have s2 : wrA (t.set b (.cells true (cD { D with armed := decide (k ≥ 0) }))) b 3 [AV.int .i64 k] = some (t.set b (.cells true (cD { D with armed := decide (k ≥ 0), left := k }))) := by
      rw [wr_own hD2.cells, if_pos ⟨by simp [cD], by rfl⟩, List.set_set]; rfl
    have hD3 := hD.setD (D' := { D with armed := decide (k ≥ 0), left := k }) rfl rfl rfl
    have s3 : wrA (t.set b (.cells true (cD { D with armed := decide (k ≥ 0), left := k }))) b 4 [AV.int .i64 keep] = some (t.set b (.cells true (cD { D with armed := decide (k ≥ 0), left := k, keep := keep }))) := by
      rw [wr_own hD3.cells, if_pos ⟨by simp [cD], by rfl⟩, List.set_set]; rfl
    simp only [r_files_Disk_Arm, XX, CC, YY, Nat.reduceAdd, Nat.reduceSub, Nat.reduceLeDiff, Nat.reduceLT, Nat.reduceEqDiff, reduceIte, ↓reduceIte, Nat.reduceBEq, eqp_f, Bool.not_false, gv_tt, hd, s1, s2, s3]
    exact .inl ⟨rfl, by rw [c]⟩
end Go.Ev

/-! The disk: Cut (no loss), Steps. -/
namespace Go.Ev
set_option linter.unusedVariables false
set_option linter.unusedSimpArgs false
open Go.Ev.So Go.Proofs
variable {T : Nat → Option RF} [Has T]

def cutC (D : Dsk) (name : ByteArray) (m : Int) : Int := if chkV D [name] ≠ 0 then chkV D [name] else match getF D name with
  | some f => if m < 0 ∨ m > f.data.size then 1 else 0
  | none => 62
theorem steps_r (t : St) (n b : Nat) (D : Dsk) (hD : DAt t n b D) : RunD T f_files_Disk_Steps [.ptr b 0] t (.int .i64 D.steps) t := by
  refine run_body (F := r_files_Disk_Steps) (has rfl) (by simp [r_files_Disk_Steps]) ?_
  simp only [r_files_Disk_Steps, XX, CC, YY, Nat.reduceAdd, Nat.reduceSub, Nat.reduceLeDiff, Nat.reduceLT, Nat.reduceEqDiff, reduceIte, ↓reduceIte, Nat.reduceBEq, eqp_f, hD.ld.2.2.2.2.2]
  exact .inl ⟨rfl, rfl⟩
end Go.Ev

/-! The log: check, Size. -/
namespace Go.Ev
set_option linter.unusedVariables false
set_option linter.unusedSimpArgs false
open Go.Ev.So Go.Proofs
variable {T : Nat → Option RF} [Has T]

/-- A log: its disk's block, its file, its size, whether it is ended. -/
structure Lg where
  db : Nat
  name : ByteArray
  size : Int
  ended : Bool
def cG (L : Lg) : List AV := [.ptr L.db 0, .str L.name, .int .i64 L.size, .bool L.ended]
theorem lgld {t : St} {k : Nat} {L : Lg} (h : t[k]? = some (.cells true (cG L))) : ldA t none (.ptr k 0) = some (.ptr L.db 0) ∧ ldA t none (.ptr k 1) = some (.str L.name) ∧ ldA t none (.ptr k 2) = some (.int .i64 L.size) ∧ ldA t none (.ptr k 3) = some (.bool L.ended) := by
  refine ⟨?_, ?_, ?_, ?_⟩ <;> rw [ld_own h] <;> rfl
theorem lgsize_r (t : St) (k : Nat) (L : Lg) (h : t[k]? = some (.cells true (cG L))) : RunD T f_wal_Log_Size [.ptr k 0] t (.int .i64 L.size) t := by
  refine run_body (F := r_wal_Log_Size) (has rfl) (by simp [r_wal_Log_Size]) ?_
  simp only [r_wal_Log_Size, XX, CC, YY, Nat.reduceAdd, Nat.reduceSub, Nat.reduceLeDiff, Nat.reduceLT, Nat.reduceEqDiff, reduceIte, ↓reduceIte, Nat.reduceBEq, eqp_f, (lgld h).2.2.1]
  exact .inl ⟨rfl, rfl⟩
theorem lgsizenil_r (t : St) : RunD T f_wal_Log_Size [.nilp] t (.int .i64 0) t := by
  refine run_body (F := r_wal_Log_Size) (has rfl) (by simp [r_wal_Log_Size]) ?_
  simp only [r_wal_Log_Size, XX, CC, YY, Nat.reduceAdd, Nat.reduceSub, Nat.reduceLeDiff, Nat.reduceLT, Nat.reduceEqDiff, reduceIte, ↓reduceIte, Nat.reduceBEq, eqp_t]
  exact .inl ⟨rfl, rfl⟩
def lgEnd (L : Lg) (x : Bool) : Lg := { L with ended := x }
theorem lgchecknil_r (t : St) : RunD T f_wal_Log_check [.nilp] t (.int .i64 2) t := by
  refine run_body (F := r_wal_Log_check) (has rfl) (by simp [r_wal_Log_check]) ?_
  simp only [r_wal_Log_check, XX, CC, YY, Nat.reduceAdd, Nat.reduceSub, Nat.reduceLeDiff, Nat.reduceLT, Nat.reduceEqDiff, reduceIte, ↓reduceIte, Nat.reduceBEq, eqp_t]
  exact .inl ⟨rfl, rfl⟩
set_option maxHeartbeats 1000000 in
theorem lgcheck_r (t : St) (n k : Nat) (L : Lg) (D : Dsk) (h : t[k]? = some (.cells true (cG L))) (hD : DAt t n L.db D) : RunD T f_wal_Log_check [.ptr k 0] t (.int .i64 (if L.ended || D.down then 60 else 0)) (t.set k (.cells true (cG (lgEnd L (L.ended || D.down))))) := by
  refine run_body (F := r_wal_Log_check) (has rfl) (by simp [r_wal_Log_check]) ?_
  obtain ⟨l0, l1, l2, l3⟩ := lgld h
  have hlt := (List.getElem?_eq_some_iff.1 h).1
  have st : ∀ x : Bool, stA t none (.ptr k 3) (.bool x) = some (t.set k (.cells true (cG (lgEnd L x)))) := fun x => by
    rw [st_one (by rfl), wr_own h, if_pos ⟨by simp [cG], by rfl⟩]; rfl
  have l4 : ∀ x : Bool, ldA (t.set k (.cells true (cG (lgEnd L x)))) none (.ptr k 3) = some (.bool x) := fun x => (lgld (L := lgEnd L x) (key_set hlt)).2.2.2
  cases ce : L.ended with
  | true =>
    rw [ce] at l3
    simp only [r_wal_Log_check, XX, CC, YY, Nat.reduceAdd, Nat.reduceSub, Nat.reduceLeDiff, Nat.reduceLT, Nat.reduceEqDiff, reduceIte, ↓reduceIte, Nat.reduceBEq, eqp_f, l3, gv_ft, st, l4, Bool.true_or]
    exact .inl ⟨rfl, rfl⟩
  | false =>
    rw [ce] at l3
    simp only [r_wal_Log_check, XX, CC, YY, Nat.reduceAdd, Nat.reduceSub, Nat.reduceLeDiff, Nat.reduceLT, Nat.reduceEqDiff, reduceIte, ↓reduceIte, Nat.reduceBEq, eqp_f, l3, gv_ff, l0, Bool.false_or]
    refine (down_r t n L.db D hD).use ?_
    cases cd : D.down with
    | true =>
      simp only [XX, CC, YY, Nat.reduceAdd, Nat.reduceSub, Nat.reduceLeDiff, Nat.reduceLT, Nat.reduceEqDiff, reduceIte, ↓reduceIte, Nat.reduceBEq, st, l4]
      exact .inl ⟨rfl, rfl⟩
    | false =>
      simp only [XX, CC, YY, Nat.reduceAdd, Nat.reduceSub, Nat.reduceLeDiff, Nat.reduceLT, Nat.reduceEqDiff, reduceIte, ↓reduceIte, Nat.reduceBEq, st, l4]
      exact .inl ⟨rfl, rfl⟩
end Go.Ev

/-! The reference's disk: New, place, check, Read, Down, Steps. -/
namespace Go.Ev
set_option linter.unusedVariables false
set_option linter.unusedSimpArgs false
open Go.Ev.So Go.Proofs
variable {T : Nat → Option RF} [Has T]

abbrev RFil := ByteArray × ByteArray × Int
def cT (f : RFil) : List AV := [.str f.1, .str f.2.1, .int .i64 f.2.2]
theorem cT_len (f : RFil) : (cT f).length = 3 := id rfl
theorem cT_cell (f : RFil) : (cT f).all AV.cell = true := id rfl
theorem cT_un (f : RFil) : unders 0 (cT f) = true := id rfl
/-- The reference's disk: its slice, the files that it reads as, whether it is down, with what it is armed, its steps. -/
structure Rsk where
  v : AV
  l : List RFil
  down : Bool
  left : Int
  keep : Int
  n : Int
def cE (R : Rsk) : List AV := [R.v, .bool R.down, .int .i64 R.left, .int .i64 R.keep, .int .i64 R.n]
theorem rld {t : St} {b : Nat} {R : Rsk} (h : t[b]? = some (.cells true (cE R))) : ldA t none (.ptr b 0) = some R.v ∧ ldA t none (.ptr b 1) = some (.bool R.down) ∧ ldA t none (.ptr b 2) = some (.int .i64 R.left) ∧
    ldA t none (.ptr b 3) = some (.int .i64 R.keep) ∧ ldA t none (.ptr b 4) = some (.int .i64 R.n) := by
  refine ⟨?_, ?_, ?_, ?_, ?_⟩ <;> rw [ld_own h] <;> rfl
theorem rdT {t : St} {v : AV} {l : List RFil} (hv : Rd 3 cT t v l) {i : Nat} {q : RFil} (hi : l[i]? = some q) :
    ∃ b o, (∀ k : IntKind, ixaA 3 v (.int k (i : Int)) = some (.ptr b o)) ∧ ldA t none (.ptr b o) = some (.str q.1) ∧ ldA t none (.ptr b (o + 1)) = some (.str q.2.1) ∧ ldA t none (.ptr b (o + 2)) = some (.int .i64 q.2.2) := by
  obtain ⟨b, o, h1, h2⟩ := hv.get cT_len hi
  exact ⟨b, o, h1, h2 none 0 (.str q.1) rfl, h2 none 1 (.str q.2.1) rfl, h2 none 2 (.int .i64 q.2.2) rfl⟩
/-- where a file stands, or -1 -/
def idxR (name : ByteArray) : List RFil → Nat → Int
  | [], _ => -1
  | f :: l, i => if f.1 = name then i else idxR name l (i + 1)
theorem idxR_at (name : ByteArray) : ∀ (l : List RFil) (i : Nat), idxR name l i = -1 ∧ (∀ f ∈ l, f.1 ≠ name) ∨ ∃ j f, idxR name l i = ((i + j : Nat) : Int) ∧ l[j]? = some f ∧ f.1 = name
  | [], i => .inl ⟨rfl, by simp⟩
  | f :: l, i => by
    by_cases c : f.1 = name
    · exact .inr ⟨0, f, by simp [idxR, c], rfl, c⟩
    · have e : idxR name (f :: l) i = idxR name l (i + 1) := if_neg c
      rcases idxR_at name l (i + 1) with ⟨h1, h2⟩ | ⟨j, g, h1, h2, h3⟩
      · exact .inl ⟨by rw [e, h1], fun g hg => by rcases List.mem_cons.1 hg with r | r; rw [r]; exact c; exact h2 g r⟩
      · exact .inr ⟨j + 1, g, by rw [e, h1]; congr 1; omega, by simpa using h2, h3⟩
set_option maxHeartbeats 1000000 in
theorem rplace_r (t : St) (b : Nat) (R : Rsk) (name : ByteArray) (h : t[b]? = some (.cells true (cE R))) (hv : Rd 3 cT t R.v R.l) (hl : R.l.length < 1000000) : RunD T f_r06_Disk_place [.ptr b 0, .str name] t (.int .i64 (idxR name R.l 0)) t := by
  refine run_body (F := r_r06_Disk_place) (has rfl) (by simp [r_r06_Disk_place]) ?_
  have l0 := (rld h).1
  simp only [r_r06_Disk_place, XX, CC, YY, Nat.reduceAdd, Nat.reduceSub, Nat.reduceLeDiff, Nat.reduceLT, Nat.reduceEqDiff, reduceIte, ↓reduceIte, Nat.reduceBEq]
  refine awp_rounds (fun d e t' => t' = t ∧ ∃ i : Nat, i + d = R.l.length ∧ e.get 0 = .ptr b 0 ∧ e.get 1 = .str name ∧ e.get 5 = .int .i64 i ∧ idxR name R.l 0 = idxR name (R.l.drop i) i) R.l.length ?_ ?_
  · refine ⟨rfl, 0, by omega, ?_, ?_, ?_, rfl⟩ <;> (try simp only [XX, CC, YY, Nat.reduceAdd, Nat.reduceSub, Nat.reduceLeDiff, Nat.reduceLT, Nat.reduceEqDiff, reduceIte, ↓reduceIte, Nat.reduceBEq]) <;> rfl
  rintro J d e t' hJ ⟨ht, i, hi, g0, g1, g5, he⟩
  rw [ht]
  simp only [XX, CC, YY, Nat.reduceAdd, Nat.reduceSub, Nat.reduceLeDiff, Nat.reduceLT, Nat.reduceEqDiff, reduceIte, ↓reduceIte, Nat.reduceBEq, g0, g1, g5, l0, hv.len]
  by_cases c : i < R.l.length
  · have hq : R.l[i]? = some (R.l[i]'c) := List.getElem?_eq_getElem _
    have hd' : R.l.drop i = R.l[i]'c :: R.l.drop (i + 1) := List.drop_eq_getElem_cons _
    generalize R.l[i]'c = q at hq hd'
    rw [hd'] at he
    obtain ⟨b1, o1, j1, j2, _⟩ := rdT hv hq
    have hw1 : IntKind.i64.wrap ((i : Int) + 1) = ((i + 1 : Nat) : Int) := by rw [w64_in (by omega) (by omega)]; omega
    have em : q.1 = name ∨ ¬ q.1 = name := Classical.em _
    rcases em with cq | cq
    · have he' : idxR name R.l 0 = i := by rw [he]; exact if_pos cq
      simp only [dec_t (show (i : Int) < R.l.length by omega), XX, CC, YY, Nat.reduceAdd, Nat.reduceSub, Nat.reduceLeDiff, Nat.reduceLT, Nat.reduceEqDiff, reduceIte, ↓reduceIte, Nat.reduceBEq, g0, g1, g5, l0, j1, Nat.add_zero, j2, eq_S, dec_t cq]
      exact .inl ⟨by rw [he'], rfl⟩
    · have he' : idxR name R.l 0 = idxR name (R.l.drop (i + 1)) (i + 1) := by rw [he]; exact if_neg cq
      simp only [dec_t (show (i : Int) < R.l.length by omega), XX, CC, YY, Nat.reduceAdd, Nat.reduceSub, Nat.reduceLeDiff, Nat.reduceLT, Nat.reduceEqDiff, reduceIte, ↓reduceIte, Nat.reduceBEq, g0, g1, g5, l0, j1, Nat.add_zero, j2, eq_S, dec_f cq, hw1]
      refine hJ (d - 1) _ _ (by omega) ⟨rfl, i + 1, by omega, ?_, ?_, ?_, he'⟩ <;> (try simp only [XX, CC, YY, Nat.reduceAdd, Nat.reduceSub, Nat.reduceLeDiff, Nat.reduceLT, Nat.reduceEqDiff, reduceIte, ↓reduceIte, Nat.reduceBEq, g0, g1, g5])
  · rw [List.drop_of_length_le (by omega)] at he
    simp only [dec_f (show ¬ (i : Int) < R.l.length by omega), XX, CC, YY, Nat.reduceAdd, Nat.reduceSub, Nat.reduceLeDiff, Nat.reduceLT, Nat.reduceEqDiff, reduceIte, ↓reduceIte, Nat.reduceBEq]
    exact .inl ⟨by rw [he]; rfl, rfl⟩
def rchkV (R : Rsk) (name : ByteArray) : Int := if R.down then 60 else if nameB name then 0 else 61
theorem rcheck_r (t : St) (b : Nat) (R : Rsk) (name : ByteArray) (h : t[b]? = some (.cells true (cE R))) (hs : name.size < 140737488355328) : RunD T f_r06_Disk_check [.ptr b 0, .str name] t (.int .i64 (rchkV R name)) t := by
  refine run_body (F := r_r06_Disk_check) (has rfl) (by simp [r_r06_Disk_check]) ?_
  have l1 := (rld h).2.1
  unfold rchkV
  cases c : R.down with
  | true =>
    rw [c] at l1
    simp only [r_r06_Disk_check, XX, CC, YY, Nat.reduceAdd, Nat.reduceSub, Nat.reduceLeDiff, Nat.reduceLT, Nat.reduceEqDiff, reduceIte, ↓reduceIte, Nat.reduceBEq, eqp_f, l1]
    exact .inl ⟨rfl, rfl⟩
  | false =>
    rw [c] at l1
    simp only [r_r06_Disk_check, XX, CC, YY, Nat.reduceAdd, Nat.reduceSub, Nat.reduceLeDiff, Nat.reduceLT, Nat.reduceEqDiff, reduceIte, ↓reduceIte, Nat.reduceBEq, eqp_f, l1]
    refine (rname_r t name hs).use ?_
    cases cn : nameB name with
    | true => simp only [XX, CC, YY, Nat.reduceAdd, Nat.reduceSub, Nat.reduceLeDiff, Nat.reduceLT, Nat.reduceEqDiff, reduceIte, ↓reduceIte, Nat.reduceBEq, Bool.not_true]; exact .inl ⟨rfl, rfl⟩
    | false => simp only [XX, CC, YY, Nat.reduceAdd, Nat.reduceSub, Nat.reduceLeDiff, Nat.reduceLT, Nat.reduceEqDiff, reduceIte, ↓reduceIte, Nat.reduceBEq, Bool.not_false]; exact .inl ⟨rfl, rfl⟩
theorem rcheck_same (D : Dsk) (R : Rsk) (name : ByteArray) (h : D.down = R.down) : chkV D [name] = rchkV R name := by
  unfold chkV rchkV
  rw [h]
  simp
theorem rdown_r (t : St) (b : Nat) (R : Rsk) (h : t[b]? = some (.cells true (cE R))) : RunD T f_r06_Disk_Down [.ptr b 0] t (.bool R.down) t := by
  refine run_body (F := r_r06_Disk_Down) (has rfl) (by simp [r_r06_Disk_Down]) ?_
  simp only [r_r06_Disk_Down, XX, CC, YY, Nat.reduceAdd, Nat.reduceSub, Nat.reduceLeDiff, Nat.reduceLT, Nat.reduceEqDiff, reduceIte, ↓reduceIte, Nat.reduceBEq, eqp_f, Bool.not_false, gv_tt, (rld h).2.1]
  exact .inl ⟨rfl, rfl⟩
theorem rsteps_r (t : St) (b : Nat) (R : Rsk) (h : t[b]? = some (.cells true (cE R))) : RunD T f_r06_Disk_Steps [.ptr b 0] t (.int .i64 R.n) t := by
  refine run_body (F := r_r06_Disk_Steps) (has rfl) (by simp [r_r06_Disk_Steps]) ?_
  simp only [r_r06_Disk_Steps, XX, CC, YY, Nat.reduceAdd, Nat.reduceSub, Nat.reduceLeDiff, Nat.reduceLT, Nat.reduceEqDiff, reduceIte, ↓reduceIte, Nat.reduceBEq, eqp_f, (rld h).2.2.2.2]
  exact .inl ⟨rfl, rfl⟩
def rreadV (R : Rsk) (name : ByteArray) : ByteArray × Int := if rchkV R name ≠ 0 then (bts [], rchkV R name) else match R.l.find? fun f => decide (f.1 = name) with
  | some f => (f.2.1, 0)
  | none => (bts [], 62)
theorem idx_find (name : ByteArray) (l : List RFil) : idxR name l 0 = -1 ∧ (l.find? fun f => decide (f.1 = name)) = none ∨ ∃ (j : Nat) (f : RFil), idxR name l 0 = (j : Int) ∧ l[j]? = some f ∧ (l.find? fun f => decide (f.1 = name)) = some f := by
  have key : ∀ (l : List RFil) (i : Nat), idxR name l i = -1 ∧ (l.find? fun f => decide (f.1 = name)) = none ∨ ∃ (j : Nat) (f : RFil), idxR name l i = ((i + j : Nat) : Int) ∧ l[j]? = some f ∧ (l.find? fun f => decide (f.1 = name)) = some f := by
    intro l
    induction l with
    | nil => intro i; exact .inl ⟨rfl, rfl⟩
    | cons f l ih =>
      intro i
      by_cases c : f.1 = name
      · exact .inr ⟨0, f, by simp [idxR, c], rfl, by rw [List.find?_cons, decide_eq_true c]⟩
      · have e : idxR name (f :: l) i = idxR name l (i + 1) := if_neg c
        have e2 : ((f :: l).find? fun f => decide (f.1 = name)) = l.find? fun f => decide (f.1 = name) := by rw [List.find?_cons, decide_eq_false c]
        rcases ih (i + 1) with ⟨h1, h2⟩ | ⟨j, g, h1, h2, h3⟩
        · exact .inl ⟨by rw [e, h1], by rw [e2, h2]⟩
        · exact .inr ⟨j + 1, g, by rw [e, h1]; congr 1; omega, by simpa using h2, by rw [e2, h3]⟩
  rcases key l 0 with h | ⟨j, f, h1, h2, h3⟩
  · exact .inl h
  · exact .inr ⟨j, f, by rw [h1]; simp, h2, h3⟩
set_option maxHeartbeats 1000000 in
theorem rread_r (t : St) (b : Nat) (R : Rsk) (name : ByteArray) (h : t[b]? = some (.cells true (cE R))) (hv : Rd 3 cT t R.v R.l) (hl : R.l.length < 1000000) (hs : name.size < 140737488355328) :
    RunD T f_r06_Disk_Read [.ptr b 0, .str name] t (.tup [.str (rreadV R name).1, .int .i64 (rreadV R name).2]) t := by
  refine run_body (F := r_r06_Disk_Read) (has rfl) (by simp [r_r06_Disk_Read]) ?_
  have l0 := (rld h).1
  simp only [r_r06_Disk_Read, XX, CC, YY, Nat.reduceAdd, Nat.reduceSub, Nat.reduceLeDiff, Nat.reduceLT, Nat.reduceEqDiff, reduceIte, ↓reduceIte, Nat.reduceBEq]
  refine (rcheck_r t b R name h hs).use ?_
  unfold rreadV
  generalize rchkV R name = e
  have em : e = 0 ∨ ¬ e = 0 := Classical.em _
  rcases em with c | c
  · subst c
    rw [if_neg (by simp)]
    simp only [XX, CC, YY, Nat.reduceAdd, Nat.reduceSub, Nat.reduceLeDiff, Nat.reduceLT, Nat.reduceEqDiff, reduceIte, ↓reduceIte, Nat.reduceBEq, show ((0 : Int) == 0) = true from rfl, Bool.not_true]
    refine (rplace_r t b R name h hv hl).use ?_
    rcases idx_find name R.l with ⟨h1, h2⟩ | ⟨j, f, h1, h2, h3⟩
    · rw [h1, h2]
      simp only [XX, CC, YY, Nat.reduceAdd, Nat.reduceSub, Nat.reduceLeDiff, Nat.reduceLT, Nat.reduceEqDiff, reduceIte, ↓reduceIte, Nat.reduceBEq, show decide ((-1 : Int) < 0) = true from rfl]
      exact .inl ⟨rfl, rfl⟩
    · obtain ⟨b1, o1, j1, _, j3, _⟩ := rdT hv h2
      rw [h1, h3]
      simp only [XX, CC, YY, Nat.reduceAdd, Nat.reduceSub, Nat.reduceLeDiff, Nat.reduceLT, Nat.reduceEqDiff, reduceIte, ↓reduceIte, Nat.reduceBEq, dec_f (show ¬ (j : Int) < 0 by omega), l0, j1, j3]
      exact .inl ⟨rfl, rfl⟩
  · have c' : (e == 0) = false := by simp [c]
    rw [if_pos c]
    simp only [XX, CC, YY, Nat.reduceAdd, Nat.reduceSub, Nat.reduceLeDiff, Nat.reduceLT, Nat.reduceEqDiff, reduceIte, ↓reduceIte, Nat.reduceBEq, c', Bool.not_false]
    exact .inl ⟨rfl, rfl⟩
end Go.Ev

/-! The reference's disk: New, On. -/
namespace Go.Ev
set_option linter.unusedVariables false
set_option linter.unusedSimpArgs false
open Go.Ev.So Go.Proofs
variable {T : Nat → Option RF} [Has T]

def rnew : Rsk := ⟨.nils, [], false, -1, 0, 0⟩
theorem rnew_r (t : St) : Run T f_r06_New [] t fun v t' => v = .ptr t.length 0 ∧ t' = t ++ [.cells true (cE rnew)] := by
  refine run_body (F := r_r06_New) (has rfl) (by simp [r_r06_New]) ?_
  have hf : fillA [AV.nils, .bool false, .int .i64 0, .int .i64 0, .int .i64 0] [(2, 1, .int .i64 (-1))] = some (cE rnew) := rfl
  have hb : boxA (some 5) (.agg (cE rnew)) = some (cE rnew) := rfl
  simp only [r_r06_New, XX, CC, YY, Nat.reduceAdd, Nat.reduceSub, Nat.reduceLeDiff, Nat.reduceLT, Nat.reduceEqDiff, reduceIte, ↓reduceIte, Nat.reduceBEq, hf, hb]
  exact .inl ⟨by simp, by simp⟩
def ron (R : Rsk) : Rsk := { R with down := false, left := -1 }
theorem ron_r (t : St) (b : Nat) (R : Rsk) (h : t[b]? = some (.cells true (cE R))) : Run T f_r06_Disk_On [.ptr b 0] t fun v t' => v = .tup [] ∧ t' = t.set b (.cells true (cE (ron R))) := by
  refine run_body (F := r_r06_Disk_On) (has rfl) (by simp [r_r06_Disk_On]) ?_
  have hlt := (List.getElem?_eq_some_iff.1 h).1
  have s1 : stA t none (.ptr b 1) (.bool false) = some (t.set b (.cells true (cE { R with down := false }))) := by
    rw [st_one (by rfl), wr_own h, if_pos ⟨by simp [cE], by rfl⟩]; rfl
  have h2 : (t.set b (.cells true (cE { R with down := false })))[b]? = some (.cells true (cE { R with down := false })) := key_set hlt
  have s2 : wrA (t.set b (.cells true (cE { R with down := false }))) b 2 [AV.int .i64 (-1)] = some (t.set b (.cells true (cE (ron R)))) := by
    rw [wr_own h2, if_pos ⟨by simp [cE], by rfl⟩, List.set_set]; rfl
  have s2' : stA (t.set b (.cells true (cE { R with down := false }))) none (.ptr b 2) (.int .i64 (-1)) = some (t.set b (.cells true (cE (ron R)))) := by
    rw [st_one (by rfl), s2]
  simp only [r_r06_Disk_On, XX, CC, YY, Nat.reduceAdd, Nat.reduceSub, Nat.reduceLeDiff, Nat.reduceLT, Nat.reduceEqDiff, reduceIte, ↓reduceIte, Nat.reduceBEq, eqp_f, Bool.not_false, s1, s2, s2']
  exact .inl ⟨rfl, rfl⟩

def rpow (R : Rsk) : Rsk := { R with left := if R.left > 0 then IntKind.i64.wrap (R.left - 1) else R.left, n := IntKind.i64.wrap (R.n + 1) }
set_option maxHeartbeats 1000000 in
theorem rpower_r (t : St) (b : Nat) (R : Rsk) (h : t[b]? = some (.cells true (cE R))) (hn : R.left ≠ 0) : Run T f_r06_Disk_power [.ptr b 0] t fun v t' => v = .bool true ∧ t' = t.set b (.cells true (cE (rpow R))) := by
  refine run_body (F := r_r06_Disk_power) (has rfl) (by simp [r_r06_Disk_power]) ?_
  have hlt := (List.getElem?_eq_some_iff.1 h).1
  obtain ⟨_, _, l2, _, l4⟩ := rld h
  have hz : (R.left == 0) = false := by simp [hn]
  have em : R.left > 0 ∨ ¬ R.left > 0 := Classical.em _
  rcases em with c | c
  · have s1 : stA t none (.ptr b 2) (.int .i64 (IntKind.i64.wrap (R.left - 1))) = some (t.set b (.cells true (cE { R with left := IntKind.i64.wrap (R.left - 1) }))) := by
      rw [st_one (by rfl), wr_own h, if_pos ⟨by simp [cE], by rfl⟩]; rfl
    have h2 : (t.set b (.cells true (cE { R with left := IntKind.i64.wrap (R.left - 1) })))[b]? = some (.cells true (cE { R with left := IntKind.i64.wrap (R.left - 1) })) := key_set hlt
    have l4' := (rld h2).2.2.2.2
    have e : cE (rpow R) = cE { R with left := IntKind.i64.wrap (R.left - 1), n := IntKind.i64.wrap (R.n + 1) } := by unfold rpow; rw [if_pos c]
    have s2 : wrA (t.set b (.cells true (cE { R with left := IntKind.i64.wrap (R.left - 1) }))) b 4 [AV.int .i64 (IntKind.i64.wrap (R.n + 1))] = some (t.set b (.cells true (cE (rpow R)))) := by
      rw [wr_own h2, if_pos ⟨by simp [cE], by rfl⟩, List.set_set, e]; rfl
    have s2' : stA (t.set b (.cells true (cE { R with left := IntKind.i64.wrap (R.left - 1) }))) none (.ptr b 4) (.int .i64 (IntKind.i64.wrap (R.n + 1))) = some (t.set b (.cells true (cE (rpow R)))) := by
      rw [st_one (by rfl), s2]
    simp only [r_r06_Disk_power, XX, CC, YY, Nat.reduceAdd, Nat.reduceSub, Nat.reduceLeDiff, Nat.reduceLT, Nat.reduceEqDiff, reduceIte, ↓reduceIte, Nat.reduceBEq, l2, hz, dec_t c, s1, l4', s2, s2']
    exact .inl ⟨rfl, rfl⟩
  · have e : cE (rpow R) = cE { R with n := IntKind.i64.wrap (R.n + 1) } := by unfold rpow; rw [if_neg c]
    have s2 : stA t none (.ptr b 4) (.int .i64 (IntKind.i64.wrap (R.n + 1))) = some (t.set b (.cells true (cE (rpow R)))) := by
      rw [st_one (by rfl), wr_own h, if_pos ⟨by simp [cE], by rfl⟩, e]; rfl
    simp only [r_r06_Disk_power, XX, CC, YY, Nat.reduceAdd, Nat.reduceSub, Nat.reduceLeDiff, Nat.reduceLT, Nat.reduceEqDiff, reduceIte, ↓reduceIte, Nat.reduceBEq, l2, hz, dec_f c, l4, s2]
    exact .inl ⟨rfl, rfl⟩
end Go.Ev

/-! The disk where the power goes: what is left of the files, and the store that holds it. -/
namespace Go.Ev
set_option linter.unusedVariables false
set_option linter.unusedSimpArgs false
open Go.Ev.So Go.Proofs

/-- how many bytes are kept -/
def keptF (keep : Int) (d : ByteArray) (safe : Int) : Int := if keep > 0 then safe + keep % ((d.size : Int) - safe + 1) else safe
def loseF (keep : Int) (f : Fil) : Fil := { f with data := f.data.extract 0 (keptF keep f.data f.safe).toNat, safe := keptF keep f.data f.safe }
/-- A file's bytes and safe ones are as they may be. -/
def FOk (d : ByteArray) (safe : Int) : Prop := 0 ≤ safe ∧ safe ≤ (d.size : Int) ∧ d.size ≤ 1048576
theorem kept_in {keep : Int} {d : ByteArray} {safe : Int} (h : FOk d safe) : safe ≤ keptF keep d safe ∧ keptF keep d safe ≤ (d.size : Int) := by
  unfold FOk at h
  unfold keptF
  split
  · have h1 := Int.emod_nonneg keep (b := (d.size : Int) - safe + 1) (by omega)
    have h2 := Int.emod_lt_of_pos keep (b := (d.size : Int) - safe + 1) (by omega)
    omega
  · omega
theorem extract_size {d : ByteArray} {n : Int} (h0 : 0 ≤ n) (h : n ≤ (d.size : Int)) : ((d.extract 0 n.toNat).size : Int) = n := by
  rw [ByteArray.size_extract]; omega
theorem lose_ok {keep : Int} {d : ByteArray} {safe : Int} (h : FOk d safe) : FOk (d.extract 0 (keptF keep d safe).toNat) (keptF keep d safe) := by
  obtain ⟨h1, h2⟩ := kept_in (keep := keep) h
  have h3 := h
  unfold FOk at h3
  have e := extract_size (d := d) (n := keptF keep d safe) (by omega) h2
  refine ⟨by omega, by omega, ?_⟩
  have : ((d.extract 0 (keptF keep d safe).toNat).size : Int) ≤ 1048576 := by rw [e]; omega
  omega
/-- A disk as the program makes it. -/
structure DOk (D : Dsk) : Prop where
  files : ∀ f ∈ D.fs, FOk f.1.data f.1.safe
  few : D.fs.length ≤ 16
  clock : ∀ f ∈ D.fs, f.2 < D.clock
  stamps : (D.fs.map (·.2)).Nodup

/-- the store behind the loss, of those files whose stamps p tells -/
def loseP (p : Nat → Bool) (keep : Int) : List (Fil × Nat) → St → St
  | [], s => s
  | f :: fs, s => loseP p keep fs (if p f.2 = true then s.set f.1.fb (.cells true (cF (loseF keep f.1))) else s)
theorem loseP_len {p : Nat → Bool} {keep : Int} : ∀ {fs : List (Fil × Nat)} {s : St}, (loseP p keep fs s).length = s.length
  | [], s => rfl
  | f :: fs, s => by
    rw [loseP, loseP_len]
    split <;> simp
theorem loseP_out {p : Nat → Bool} {keep : Int} : ∀ {fs : List (Fil × Nat)} {s : St} {i : Nat}, (∀ f ∈ fs, p f.2 = true → f.1.fb ≠ i) → (loseP p keep fs s)[i]? = s[i]?
  | [], s, i, h => rfl
  | f :: fs, s, i, h => by
    rw [loseP, loseP_out fun g hg => h g (List.mem_cons_of_mem _ hg)]
    split
    · rename_i c
      exact List.getElem?_set_ne (h f (List.mem_cons_self ..) c)
    · rfl
theorem loseP_in {p : Nat → Bool} {keep : Int} : ∀ {fs : List (Fil × Nat)} {s : St} {f : Fil × Nat}, (fs.map (·.1.fb)).Nodup → (∀ g ∈ fs, g.1.fb < s.length) → f ∈ fs → p f.2 = true → (loseP p keep fs s)[f.1.fb]? = some (.cells true (cF (loseF keep f.1)))
  | g :: fs, s, f, hn, hl, hf, hp => by
    rw [List.map_cons, List.nodup_cons] at hn
    rcases List.mem_cons.1 hf with rfl | hf
    · rw [loseP, loseP_out fun g hg _ e => hn.1 (by rw [← e]; exact List.mem_map_of_mem hg), if_pos hp, List.getElem?_set_self (hl _ (List.mem_cons_self ..))]
    · rw [loseP]
      refine loseP_in hn.2 ?_ hf hp
      intro x hx
      have := hl x (List.mem_cons_of_mem _ hx)
      split
      · simpa using this
      · exact this
/-- One file more. -/
theorem loseP_step {p q : Nat → Bool} {keep : Int} {fs : List (Fil × Nat)} {s : St} {f : Fil × Nat} (hn : (fs.map (·.1.fb)).Nodup) (hs : (fs.map (·.2)).Nodup) (hl : ∀ g ∈ fs, g.1.fb < s.length) (hf : f ∈ fs)
    (hq : ∀ k, q k = true ↔ (p k = true ∨ k = f.2)) : (loseP p keep fs s).set f.1.fb (.cells true (cF (loseF keep f.1))) = loseP q keep fs s := by
  apply List.ext_getElem?
  intro i
  by_cases hi : i = f.1.fb
  · subst hi
    rw [List.getElem?_set_self (by rw [loseP_len]; exact hl f hf), loseP_in hn hl hf ((hq _).2 (.inr rfl))]
  · rw [List.getElem?_set_ne (fun e => hi e.symm)]
    by_cases hex : ∃ g ∈ fs, q g.2 = true ∧ g.1.fb = i
    · obtain ⟨g, hg, hgq, rfl⟩ := hex
      rw [loseP_in hn hl hg hgq]
      rcases (hq _).1 hgq with h | h
      · exact loseP_in hn hl hg h
      · exfalso
        apply hi
        have : g = f := by
          obtain ⟨a, ha, rfl⟩ := List.getElem_of_mem hg
          obtain ⟨b, hb, rfl⟩ := List.getElem_of_mem hf
          have hpw := List.pairwise_iff_getElem.1 hs
          rcases Nat.lt_trichotomy a b with k | k | k
          · exact absurd (by rw [List.getElem_map, List.getElem_map]; exact h) (hpw a b (by simpa using ha) (by simpa using hb) k)
          · subst k; rfl
          · exact absurd (by rw [List.getElem_map, List.getElem_map]; exact h.symm) (hpw b a (by simpa using hb) (by simpa using ha) k)
        rw [this]
    · have h1 : ∀ g ∈ fs, q g.2 = true → g.1.fb ≠ i := fun g hg hgq e => hex ⟨g, hg, hgq, e⟩
      rw [loseP_out h1, loseP_out fun g hg hgp => h1 g hg ((hq _).2 (.inl hgp))]

/-- The power goes. -/
def loseD (D : Dsk) (keep : Int) : Dsk := { D with down := true, armed := false, fs := D.fs.map fun f => (loseF keep f.1, f.2) }
def loseS (s : St) (b : Nat) (D : Dsk) (keep : Int) : St := (loseP (fun _ => true) keep D.fs s).set b (.cells true (cD (loseD D keep)))
/-- What the loss of power comes to. -/
def LoseR (args : List AV) (s : St) (v : AV) (s' : St) : Prop := ∃ n b D keep, args = [.ptr b 0, .int .i64 keep] ∧ DAt s n b D ∧ DOk D ∧ v = .tup [] ∧ s' = loseS s b D keep
theorem loseF_name (keep : Int) (f : Fil) : (loseF keep f).name = f.name := rfl
theorem loseF_fb (keep : Int) (f : Fil) : (loseF keep f).fb = f.fb := rfl

/-- The blocks of a disk. -/
def DFoot (b : Nat) (D : Dsk) (i : Nat) : Prop := i = b ∨ i = D.mb ∨ ∃ f ∈ D.fs, i = f.1.fb
/-- From disk D to disk D'. -/
structure DStep (n b : Nat) (D D' : Dsk) (t t' : St) : Prop where
  at_ : DAt t' n b D'
  ok : DOk D'
  len : t.length ≤ t'.length
  same : ∀ i, i < t.length → ¬ DFoot b D i → t'[i]? = t[i]?
  foot : ∀ i, DFoot b D' i → DFoot b D i ∨ t.length ≤ i
theorem DStep.refl {n b : Nat} {D : Dsk} {t : St} (h : DAt t n b D) (ho : DOk D) : DStep n b D D t t := ⟨h, ho, Nat.le_refl _, fun _ _ _ => rfl, fun _ h => .inl h⟩
theorem DFoot.lt {t : St} {n b : Nat} {D : Dsk} (h : DAt t n b D) {i : Nat} (hi : DFoot b D i) : i < t.length := by
  rcases hi with rfl | rfl | ⟨f, hf, rfl⟩
  · exact (List.getElem?_eq_some_iff.1 h.cells).1
  · exact (List.getElem?_eq_some_iff.1 h.map).1
  · exact (List.getElem?_eq_some_iff.1 (h.file f hf).2).1
theorem DFoot.ge {t : St} {n b : Nat} {D : Dsk} (h : DAt t n b D) {i : Nat} (hi : DFoot b D i) : n ≤ i := by
  rcases hi with rfl | rfl | ⟨f, hf, rfl⟩
  · exact h.low
  · exact h.mlow
  · exact (h.file f hf).1
theorem DStep.trans {n b : Nat} {D D1 D2 : Dsk} {t t1 t2 : St} (h : DStep n b D D1 t t1) (k : DStep n b D1 D2 t1 t2) : DStep n b D D2 t t2 :=
  ⟨k.at_, k.ok, Nat.le_trans h.len k.len, fun i hi hn => by
    rw [k.same i (Nat.lt_of_lt_of_le hi h.len) fun hf => (h.foot i hf).elim hn (by omega)]
    exact h.same i hi hn, fun i hi => by
    have := h.len
    rcases k.foot i hi with e | e
    · exact h.foot i e
    · exact .inr (by omega)⟩
/-- Where other blocks are written. -/
theorem DAt.other {t t' : St} {n b : Nat} {D : Dsk} (h : DAt t n b D) (hs : ∀ i, DFoot b D i → t'[i]? = t[i]?) : DAt t' n b D :=
  ⟨h.low, by rw [hs b (.inl rfl)]; exact h.cells, h.mlow, by rw [hs _ (.inr (.inl rfl))]; exact h.map, fun f hf => ⟨(h.file f hf).1, by rw [hs _ (.inr (.inr ⟨f, hf, rfl⟩))]; exact (h.file f hf).2⟩, h.apart, h.names⟩
theorem DOk.same {D D' : Dsk} (h : DOk D) (hc : D'.clock = D.clock) (hf : D'.fs = D.fs) : DOk D' :=
  ⟨by rw [hf]; exact h.files, by rw [hf]; exact h.few, by rw [hf, hc]; exact h.clock, by rw [hf]; exact h.stamps⟩

theorem lose_step {t : St} {n b : Nat} {D : Dsk} (h : DAt t n b D) (ho : DOk D) (keep : Int) : DStep n b D (loseD D keep) t (loseS t b D keep) := by
  have ha := h.apart
  simp only [List.nodup_cons, List.mem_cons, not_or, List.mem_map, not_exists, not_and] at ha
  have hl : ∀ g ∈ D.fs, g.1.fb < t.length := fun g hg => (List.getElem?_eq_some_iff.1 (h.file g hg).2).1
  have hbl := (List.getElem?_eq_some_iff.1 h.cells).1
  have hmap : ∀ {β : Type} (k : Fil × Nat → β), (∀ f : Fil × Nat, k (loseF keep f.1, f.2) = k f) → (loseD D keep).fs.map k = D.fs.map k := fun k hk => by
    show (D.fs.map fun f => (loseF keep f.1, f.2)).map k = _
    rw [List.map_map]
    exact List.map_congr_left fun f _ => hk f
  refine ⟨⟨h.low, ?_, h.mlow, ?_, ?_, ?_, ?_⟩, ⟨?_, ?_, ?_, ?_⟩, ?_, ?_, ?_⟩
  · unfold loseS; rw [List.getElem?_set_self (by rw [loseP_len]; exact hbl)]
  · show (loseS t b D keep)[D.mb]? = some (Blk.map ((loseD D keep).fs.map entF) D.clock)
    unfold loseS
    rw [hmap entF fun f => rfl, List.getElem?_set_ne ha.1.1, loseP_out fun f hf _ => ha.2.1 f hf]
    exact h.map
  · intro f hf
    obtain ⟨g, hg, rfl⟩ := List.mem_map.1 hf
    refine ⟨(h.file g hg).1, ?_⟩
    show (loseS t b D keep)[g.1.fb]? = _
    unfold loseS
    rw [List.getElem?_set_ne (fun e => ha.1.2 g hg e.symm)]
    exact loseP_in ha.2.2 hl hg rfl
  · show (b :: D.mb :: (loseD D keep).fs.map fun f => f.1.fb).Nodup
    rw [hmap (fun f => f.1.fb) fun f => rfl]; exact h.apart
  · rw [hmap (fun f => f.1.name) fun f => rfl]; exact h.names
  · intro f hf
    obtain ⟨g, hg, rfl⟩ := List.mem_map.1 hf
    exact lose_ok (ho.files g hg)
  · show (D.fs.map fun f => (loseF keep f.1, f.2)).length ≤ 16
    rw [List.length_map]; exact ho.few
  · intro f hf
    obtain ⟨g, hg, rfl⟩ := List.mem_map.1 hf
    exact ho.clock g hg
  · rw [hmap (fun f => f.2) fun f => rfl]; exact ho.stamps
  · unfold loseS; rw [List.length_set, loseP_len]; exact Nat.le_refl _
  · intro i _ hn
    unfold loseS
    rw [List.getElem?_set_ne (fun e => hn (.inl e.symm)), loseP_out fun f hf _ e => hn (.inr (.inr ⟨f, hf, e.symm⟩))]
  · rintro i (rfl | rfl | ⟨f, hf, rfl⟩)
    · exact .inl (.inl rfl)
    · exact .inl (.inr (.inl rfl))
    · obtain ⟨g, hg, rfl⟩ := List.mem_map.1 hf
      exact .inl (.inr (.inr ⟨g, hg, rfl⟩))
end Go.Ev

/-! For a function whose contract is proved apart: parts of its code, where a call starts, regions part by part. -/
namespace Go.Ev
set_option linter.unusedVariables false
set_option linter.unusedSimpArgs false
variable {P : Program} {E : Ex} {dd : List Deferred}

def cfst : Code → Code
  | .seq a _ => a
  | c => c
def csnd : Code → Code
  | .seq _ b => b
  | c => c
def cinn : Code → Code
  | .block _ c => c
  | .loop c => c
  | c => c
def cops : Code → Array Oper
  | .region _ ops _ => ops
  | _ => #[]
def oper0 : Oper := { dst := none, op := .alloc 0, type := 0, pos := "", after := #[], guard := none }
def copN (c : Code) (i : Nat) : Oper := ((cops c)[i]?).getD oper0

/-- The start of a call. -/
theorem rel_start {m : Inj} {s : St} {w : World} (hS : Sim m s w) {args : List AV} {vs : Array Value} (hv : VRs m args vs.toList) {N : Nat} (hlen : args.length ≤ N) : Rel [] m s w N args s { tmps := vs ++ Array.replicate (N - vs.size) undef, defers := [] } w := by
  have hvl : vs.size = args.length := by rw [← Array.length_toList]; exact VRs.length hv
  refine ⟨m, hS, ?_, Goes.refl _ _ _, by simp; omega, rfl⟩
  intro t
  unfold Env.get
  by_cases ht : t < args.length
  · obtain ⟨v, hv1, hv2⟩ := VRs.get hv (i := t) (a := args[t]) (by simp [ht])
    have e1 : args.getD t .undef = args[t] := by simp [List.getD_eq_getElem?_getD, ht]
    rw [e1]
    have e2 : (vs ++ Array.replicate (N - vs.size) undef).getD t undef = v := by
      rw [Array.getD_eq_getD_getElem?, Array.getElem?_append_left (by omega), ← Array.getElem?_toList, hv1]; rfl
    rw [e2]
    exact hv2
  · have e1 : args.getD t AV.undef = .undef := by rw [List.getD_eq_getElem?_getD, List.getElem?_eq_none (by omega)]; rfl
    rw [e1]
    trivial

/-- A region in the order of its text, its first operations. -/
theorem reg_tail {X : Oracle} (hX : XS P X) (hE : ExOK P E) {ops : Array Oper} {N : Nat} {Q : Exit → Act → World → Prop} {k : Env → St → Prop} {m0 : Inj} {s0 : St} {w0 : World} {l2 : List Nat}
    (hQ : ∀ e s a w, k e s → Rel dd m0 s0 w0 N e s a w → wpOps P ops Q l2 a w) : ∀ (l : List Nat) (rs : List ROp), l.length = rs.length → (∀ (j i : Nat) (r : ROp), l[j]? = some i → rs[j]? = some r → ∃ o, ops[i]? = some o ∧ compR1 P E N ops o = some r) →
    ∀ (e : Env) (s : St) (a : Act) (w : World), Rel dd m0 s0 w0 N e s a w → opsA X rs e s k → wpOps P ops Q (l ++ l2) a w
  | [], rs, hlen, hc, e, s, a, w, hrel, h => by
    have : rs = [] := by simpa using hlen.symm
    subst this
    exact hQ _ _ _ _ h hrel
  | i :: l, [], hlen, _, _, _, _, _, _, _ => by simp at hlen
  | i :: l, r :: rs, hlen, hc, e, s, a, w, ⟨m, hS, hR, hG, hN, hD⟩, h => by
    obtain ⟨o, ho, hcr⟩ := hc 0 i r rfl rfl
    obtain ⟨h1, h2, h3, h4⟩ := compR1_spec hcr
    have rest : ∀ v s' m' u w', opsA X rs (putO e r.dst v) s' k → Sim m' s' w' → Goes m s w m' s' w' → VR m' v u → wpOps P ops Q (l ++ l2) (a.put o.dst u) w' := by
      intro v s' m' u w' hk hS' hG' hv
      refine reg_tail hX hE hQ l rs (by simpa using hlen) (fun j i' r' hj hr => hc (j + 1) i' r' (by simpa using hj) (by simpa using hr)) _ s' _ w' ⟨m', hS', ?_, hG.trans hG', by rw [put_size]; exact hN, by rw [put_defers]; exact hD⟩ hk
      rw [h1]
      exact ER.putO (ER.mono hG'.le hR) hN h2 hv
    have runs : opA X r.op e s (fun v s' => opsA X rs (putO e r.dst v) s' k) → o.wp P a w (wpOps P ops Q (l ++ l2)) Q := by
      intro hr
      rcases h4 with h4 | h4
      · exact op_sound hX hE h4 hR hS hr rest
      · rw [h4] at hr; exact absurd hr (by simp [opA, pureA])
    simp only [List.cons_append, wpOps, ho]
    simp only [opsA] at h
    split at h
    · rename_i hg
      rw [hg] at h3
      rw [guard_none_run h3, if_pos rfl]
      exact .inl (runs h)
    · rename_i t want hg
      rw [hg] at h3
      split at h
      · rename_i hb
        rw [guard_run h3 (hR t) hb, if_pos rfl]
        exact .inl (runs h)
      · rename_i hb
        rw [guard_run h3 (hR t) hb, if_neg (by decide)]
        exact rest (.tup []) s m undef w h hS (Goes.refl _ _ _) ⟨#[], rfl, rfl⟩
      · exact h.elim
/-- One operation by itself. -/
theorem one_op {ops : Array Oper} {Q : Exit → Act → World → Prop} {i : Nat} {l : List Nat} {o : Oper} (ho : ops[i]? = some o) (hg : o.guard = none) {a : Act} {w w' : World} {u : Value} (h : (execOp a.eval o).run P w = .ok (.value u) w') (hk : wpOps P ops Q l (a.put o.dst u) w') :
    wpOps P ops Q (i :: l) a w := by
  have hw : Region.wanted o (yielded ops a.tmps) = true := by simp [Region.wanted, hg]
  simp only [wpOps, ho, hw, if_true]
  exact .inl (wp_value h hk)
theorem filt_lt {α : Type} {p q : α → Bool} : ∀ {l : List α}, (∀ x ∈ l, q x = true → p x = true) → ∀ {a : α}, a ∈ l → p a = true → q a = false → (l.filter q).length < (l.filter p).length
  | x :: l, h, a, ha, hp, hq => by
    have hle : ∀ (l : List α), (∀ x ∈ l, q x = true → p x = true) → (l.filter q).length ≤ (l.filter p).length := by
      intro l
      induction l with
      | nil => intro _; exact Nat.le_refl _
      | cons y l ih =>
        intro h
        have := ih fun x hx => h x (List.mem_cons_of_mem _ hx)
        simp only [List.filter_cons]
        cases c : q y with
        | true => rw [h y (List.mem_cons_self ..) c]; simp; omega
        | false => cases p y <;> simp <;> omega
    have hl := hle l fun x hx => h x (List.mem_cons_of_mem _ hx)
    simp only [List.filter_cons]
    rcases List.mem_cons.1 ha with rfl | ha
    · rw [hp, hq]; simp; omega
    · have := filt_lt (fun x hx => h x (List.mem_cons_of_mem _ hx)) ha hp hq
      cases c : q x with
      | true => rw [h x (List.mem_cons_self ..) c]; simp; omega
      | false => cases p x <;> simp <;> omega
/-- The end of a call. -/
theorem cq_drop {m0 m : Inj} {s s1 s' : St} {w w1 : World} {v : Value} {r : AV} (h0 : Sim m0 s w) (hS : Sim m s1 w1) (hG : Goes m0 s w m s1 w1) (hv : VR m r v) (g : Gc s r s1 r s') : CQ m0 s w (fun a t => a = r ∧ t = s') (.returned v) w1 := by
  obtain ⟨m2, g1, g2, g3⟩ := g.sound h0 hS hG hv
  exact ⟨r, s', m2, v, ⟨rfl, rfl⟩, rfl, g1, g2, g3⟩
end Go.Ev

/-! The loss of power: the program's function comes to it, in whatever order the files come. -/
namespace Go.Ev
set_option linter.unusedVariables false
set_option linter.unusedSimpArgs false
open Go.Ev.So Go.Proofs
open Go.ChangeMaps (setBlock)

def RC.a1 : RC → RC
  | .seq a _ => a
  | c => c
def RC.a2 : RC → RC
  | .seq _ b => b
  | c => c
def RC.a0 : RC → RC
  | .block _ c => c
  | .loop c => c
  | c => c
def RC.rops : RC → List ROp
  | .reg ops => ops
  | _ => []

noncomputable def lzC : Code := Tryd.f47.body.getD .skip
noncomputable def lzX : Code := cinn (cinn (csnd (cfst lzC)))
noncomputable def lzR0 : Code := cfst (cfst lzC)
noncomputable def lzR1 : Code := cfst lzX
noncomputable def lzR2 : Code := cfst (cinn (csnd (csnd lzX)))
noncomputable def lzB : Code := csnd (cinn (csnd (csnd lzX)))
noncomputable def lzE : Code := csnd lzC
theorem lz_body : Tryd.f47.body = some (.seq (.seq (.region 0 (cops lzR0) false) (.block 0 (.loop (.seq (.region 1 (cops lzR1) false) (.seq (.cond (.tmp 12) .skip (.exit 0)) (.block 1 (.seq (.region 2 (cops lzR2) false) lzB))))))) lzE) := by kernel_rfl
def rzX : RC := r_files_Disk_lose.body.a1.a2.a0.a0
def rzB : RC := rzX.a2.a2.a0.a2
def rzE : RC := r_files_Disk_lose.body.a2
theorem lz_cB : compC Tryd.prog ex0 55 lzB = some rzB := by kernel_rfl
theorem lz_cE : compC Tryd.prog ex0 55 lzE = some rzE := by kernel_rfl
theorem lz_o04 : (cops lzR0)[4]? = some (copN lzR0 4) ∧ (copN lzR0 4).op = Op.range 66 (.tmp 9) ∧ (copN lzR0 4).dst = some 10 ∧ (copN lzR0 4).guard = none ∧ (cops lzR0).size = 5 := ⟨by kernel_rfl, by kernel_rfl, by kernel_rfl, by kernel_rfl, by kernel_rfl⟩
theorem lz_o10 : (cops lzR1)[0]? = some (copN lzR1 0) ∧ (copN lzR1 0).op = Op.next (.tmp 10) false ∧ (copN lzR1 0).dst = some 11 ∧ (copN lzR1 0).guard = none ∧ (cops lzR1).size = 2 := ⟨by kernel_rfl, by kernel_rfl, by kernel_rfl, by kernel_rfl, by kernel_rfl⟩
theorem lz_o20 : (cops lzR2)[0]? = some (copN lzR2 0) ∧ (copN lzR2 0).op = Op.entry (.tmp 10) ∧ (copN lzR2 0).dst = some 13 ∧ (copN lzR2 0).guard = none ∧ (cops lzR2).size = 3 := ⟨by kernel_rfl, by kernel_rfl, by kernel_rfl, by kernel_rfl, by kernel_rfl⟩
theorem lz_map : Tryd.prog.underlying 66 = some (.map 9 77) := by kernel_rfl
def rops0 : List ROp := [⟨some 6, none, .mv (.t 0)⟩, ⟨some 7, none, .nck (.t 6)⟩, ⟨some 8, none, .off 0 (.t 7)⟩, ⟨some 9, none, .ld none (.t 8)⟩]
theorem lz_r0 : compR1 Tryd.prog ex0 55 (cops lzR0) (copN lzR0 0) = some ⟨some 6, none, .mv (.t 0)⟩ ∧ compR1 Tryd.prog ex0 55 (cops lzR0) (copN lzR0 1) = some ⟨some 7, none, .nck (.t 6)⟩ ∧
    compR1 Tryd.prog ex0 55 (cops lzR0) (copN lzR0 2) = some ⟨some 8, none, .off 0 (.t 7)⟩ ∧ compR1 Tryd.prog ex0 55 (cops lzR0) (copN lzR0 3) = some ⟨some 9, none, .ld none (.t 8)⟩ := ⟨by kernel_rfl, by kernel_rfl, by kernel_rfl, by kernel_rfl⟩
theorem lz_g0 : (cops lzR0)[0]? = some (copN lzR0 0) ∧ (cops lzR0)[1]? = some (copN lzR0 1) ∧ (cops lzR0)[2]? = some (copN lzR0 2) ∧ (cops lzR0)[3]? = some (copN lzR0 3) := ⟨by kernel_rfl, by kernel_rfl, by kernel_rfl, by kernel_rfl⟩
theorem lz_r1 : (cops lzR1)[1]? = some (copN lzR1 1) ∧ compR1 Tryd.prog ex0 55 (cops lzR1) (copN lzR1 1) = some ⟨some 12, none, .ext 0 (.t 11)⟩ := ⟨by kernel_rfl, by kernel_rfl⟩
theorem lz_r2 : (cops lzR2)[1]? = some (copN lzR2 1) ∧ (cops lzR2)[2]? = some (copN lzR2 2) ∧ compR1 Tryd.prog ex0 55 (cops lzR2) (copN lzR2 1) = some ⟨some 14, none, .ext 1 (.t 13)⟩ ∧ compR1 Tryd.prog ex0 55 (cops lzR2) (copN lzR2 2) = some ⟨some 5, none, .mv (.t 14)⟩ := ⟨by kernel_rfl, by kernel_rfl, by kernel_rfl, by kernel_rfl⟩

set_option maxHeartbeats 2000000 in
/-- One file's loss. -/
theorem lz_file (t : St) (f : Fil) (keep : Int) (e : Env) (hf : FOk f.data f.safe) (ht : t[f.fb]? = some (.cells true (cF f))) (g1 : e.get 1 = .int .i64 keep) (g5 : e.get 5 = .ptr f.fb 0) :
    awp (Run T0) rzB (fun x e' t' => x = .nrm ∧ t' = t.set f.fb (.cells true (cF (loseF keep f))) ∧ e'.get 0 = e.get 0 ∧ e'.get 1 = e.get 1 ∧ e'.get 10 = e.get 10) e t := by
  have hlt := (List.getElem?_eq_some_iff.1 ht).1
  have l0 : ldA t none (.ptr f.fb 0) = some (.str f.data) := by rw [ld_own ht]; rfl
  have l1 : ldA t none (.ptr f.fb (0 + 1)) = some (.int .i64 f.safe) := by rw [ld_own ht]; rfl
  obtain ⟨k1, k2⟩ := kept_in (keep := keep) hf
  have hf' := hf
  unfold FOk at hf'
  have hsl : slsA (.str f.data) none (some (.int .i64 (keptF keep f.data f.safe))) = some (.str (f.data.extract 0 (keptF keep f.data f.safe).toNat)) := by
    simp only [slsA, boundA]
    rw [if_pos (by omega)]
  have em : keep > 0 ∨ ¬ keep > 0 := Classical.em _
  rcases em with c | c
  · have w1 : IntKind.i64.wrap ((f.data.size : Int) - f.safe) = (f.data.size : Int) - f.safe := w64_in (by omega) (by omega)
    have w2 : IntKind.i64.wrap ((f.data.size : Int) - f.safe + 1) = (f.data.size : Int) - f.safe + 1 := w64_in (by omega) (by omega)
    have hrem : binA .rem (.int .i64 keep) (.int .i64 ((f.data.size : Int) - f.safe + 1)) = some (.int .i64 (keep % ((f.data.size : Int) - f.safe + 1))) := by
      simp only [binA]
      rw [if_pos ⟨trivial, by omega⟩, Int.tmod_eq_emod_of_nonneg (by omega)]
    have hk0 : f.safe + keep % ((f.data.size : Int) - f.safe + 1) = keptF keep f.data f.safe := by unfold keptF; rw [if_pos c]
    have w3 : IntKind.i64.wrap (f.safe + keep % ((f.data.size : Int) - f.safe + 1)) = keptF keep f.data f.safe := by rw [hk0]; exact w64_in (by omega) (by omega)
    have s1 : stA t none (.ptr f.fb (0 + 1)) (.int .i64 (keptF keep f.data f.safe)) = some (t.set f.fb (.cells true (cF { f with safe := keptF keep f.data f.safe }))) := by
      rw [st_one (by rfl), wr_own ht, if_pos ⟨by simp [cF], by rfl⟩]; rfl
    have ht2 : (t.set f.fb (.cells true (cF { f with safe := keptF keep f.data f.safe })))[f.fb]? = some (.cells true (cF { f with safe := keptF keep f.data f.safe })) := key_set hlt
    have l0' : ldA (t.set f.fb (.cells true (cF { f with safe := keptF keep f.data f.safe }))) none (.ptr f.fb 0) = some (.str f.data) := by rw [ld_own ht2]; rfl
    have l1' : ldA (t.set f.fb (.cells true (cF { f with safe := keptF keep f.data f.safe }))) none (.ptr f.fb (0 + 1)) = some (.int .i64 (keptF keep f.data f.safe)) := by rw [ld_own ht2]; rfl
    have s2 : stA (t.set f.fb (.cells true (cF { f with safe := keptF keep f.data f.safe }))) none (.ptr f.fb 0) (.str (f.data.extract 0 (keptF keep f.data f.safe).toNat)) = some (t.set f.fb (.cells true (cF (loseF keep f)))) := by
      rw [st_one (by rfl), wr_own ht2, if_pos ⟨by simp [cF], by rfl⟩, List.set_set]; rfl
    simp only [rzB, rzX, RC.a0, RC.a1, RC.a2, r_files_Disk_lose, XX, CC, YY, Nat.reduceAdd, Nat.reduceSub, Nat.reduceLeDiff, Nat.reduceLT, Nat.reduceEqDiff, reduceIte, ↓reduceIte, Nat.reduceBEq, g1, dec_t c]
    refine drw_in [] rfl ?_
    simp only [List.append_nil, DD, CC, YY, Nat.reduceAdd, Nat.reduceSub, Nat.reduceLeDiff, Nat.reduceLT, Nat.reduceEqDiff, reduceIte, ↓reduceIte, Nat.reduceBEq, g1, g5, l0, l1, w1, w2, hrem, w3, s1]
    refine drw_in [] rfl ?_
    simp only [List.append_nil, DD, CC, YY, Nat.reduceAdd, Nat.reduceSub, Nat.reduceLeDiff, Nat.reduceLT, Nat.reduceEqDiff, reduceIte, ↓reduceIte, Nat.reduceBEq, g1, g5, l0', l1', hsl, s2]
    all_goals (refine ⟨trivial, trivial, ?_, ?_, ?_⟩ <;> first | trivial | rfl)
  · have hk0 : keptF keep f.data f.safe = f.safe := by unfold keptF; rw [if_neg c]
    rw [hk0] at hsl
    have s2 : stA t none (.ptr f.fb 0) (.str (f.data.extract 0 f.safe.toNat)) = some (t.set f.fb (.cells true (cF (loseF keep f)))) := by
      rw [st_one (by rfl), wr_own ht, if_pos ⟨by simp [cF], by rfl⟩]
      unfold loseF
      rw [hk0]; rfl
    simp only [rzB, rzX, RC.a0, RC.a1, RC.a2, r_files_Disk_lose, XX, CC, YY, Nat.reduceAdd, Nat.reduceSub, Nat.reduceLeDiff, Nat.reduceLT, Nat.reduceEqDiff, reduceIte, ↓reduceIte, Nat.reduceBEq, g1, dec_f c]
    refine drw_in [] rfl ?_
    simp only [List.append_nil, DD, CC, YY, Nat.reduceAdd, Nat.reduceSub, Nat.reduceLeDiff, Nat.reduceLT, Nat.reduceEqDiff, reduceIte, ↓reduceIte, Nat.reduceBEq, g1, g5, l0, l1, hsl, s2]
    all_goals (refine ⟨trivial, trivial, ?_, ?_, ?_⟩ <;> first | trivial | rfl)

/-- The iterator over a map. -/
def iterO (c clock : Nat) (seen : Array Nat) : Obj := .mapIter (some c) clock seen clock
/-- Where the loop stands: some files are lost. -/
structure LzI (n b : Nat) (D : Dsk) (keep : Int) (s : St) (m0 : Inj) (w0 : World) (c r0 : Nat) (p : Nat → Bool) (seen : Array Nat) (e : Env) (m : Inj) (a : Act) (w : World) : Prop where
  sim : Sim m (loseP p keep D.fs s ++ [.obj (iterO c D.clock seen)]) w
  er : ER m e a
  goes : Goes m0 s w0 m (loseP p keep D.fs s ++ [.obj (iterO c D.clock seen)]) w
  size : a.tmps.size = 55
  defers : a.defers = []
  g0 : e.get 0 = .ptr b 0
  g1 : e.get 1 = .int .i64 keep
  g10 : e.get 10 = .ptr s.length 0
  it : m s.length = some ⟨r0, 0, 0⟩
  mp : ∃ d z, m D.mb = some ⟨c, d, z⟩
section
variable {n b : Nat} {D : Dsk} {keep : Int} {s : St} {m0 : Inj} {w0 : World} {c r0 : Nat} {p : Nat → Bool} {seen : Array Nat} {e : Env} {m : Inj} {a : Act} {w : World}
theorem lose_map (hD : DAt s n b D) (p : Nat → Bool) : (loseP p keep D.fs s)[D.mb]? = some (.map (D.fs.map entF) D.clock) := by
  have ha := hD.apart
  simp only [List.nodup_cons, List.mem_cons, not_or, List.mem_map, not_exists, not_and] at ha
  rw [loseP_out fun f hf _ => ha.2.1 f hf]; exact hD.map
theorem MR.mem {m : Inj} : ∀ {es : List (AV × AV × Nat)} {cs : List MapEntry}, MR m es cs → ∀ {x : MapEntry}, x ∈ cs → ∃ k v b, (k, v, b) ∈ es ∧ VR m k x.key ∧ VR m v x.val ∧ x.born = b
  | [], _, h, x, hx => by rw [show _ = [] from h] at hx; simp at hx
  | (k, v, b) :: es, _, ⟨y, r, rfl, h1, h2, h3, h⟩, x, hx => by
    rcases List.mem_cons.1 hx with rfl | hx
    · exact ⟨k, v, b, by simp, h1, h2, h3⟩
    · obtain ⟨k', v', b', g1, g2⟩ := h.mem hx
      exact ⟨k', v', b', by simp [g1], g2⟩
theorem MR.has {m : Inj} : ∀ {es : List (AV × AV × Nat)} {cs : List MapEntry}, MR m es cs → ∀ {k v : AV} {b : Nat}, (k, v, b) ∈ es → ∃ x ∈ cs, VR m k x.key ∧ VR m v x.val ∧ x.born = b
  | (k, v, b) :: es, _, ⟨y, r, rfl, h1, h2, h3, h⟩, k', v', b', hx => by
    rcases List.mem_cons.1 hx with e | hx
    · cases e; exact ⟨y, by simp, h1, h2, h3⟩
    · obtain ⟨x, g1, g2⟩ := h.has hx
      exact ⟨x, by simp [g1], g2⟩
theorem MR.born {m : Inj} : ∀ {es : List (AV × AV × Nat)} {cs : List MapEntry}, MR m es cs → cs.map (·.born) = es.map (·.2.2)
  | [], _, h => by rw [show _ = [] from h]; rfl
  | (k, v, b) :: es, _, ⟨y, r, rfl, h1, h2, h3, h⟩ => by simp [h3, h.born]
/-- The map and the iterator as the model has them. -/
theorem LzI.heap (hD : DAt s n b D) (I : LzI n b D keep s m0 w0 c r0 p seen e m a w) : ∃ cs : Array MapEntry, w.heap[c]? = some (.map cs D.clock) ∧ MR m (D.fs.map entF) cs.toList ∧ w.heap[r0]? = some (iterO c D.clock seen) ∧ a.tmps.getD 10 undef = .pointer (some ⟨r0, 0, none⟩) := by
  obtain ⟨d, z, hm⟩ := I.mp
  have hml := (List.getElem?_eq_some_iff.1 hD.map).1
  obtain ⟨cs, h1, h2⟩ := map_obj I.sim hm (es := D.fs.map entF) (c := D.clock) (by rw [List.getElem?_append_left (by rw [loseP_len]; exact hml)]; exact lose_map hD _)
  obtain ⟨bb, o, h3, h4, h5⟩ := I.sim.at_ _ _ I.it
  have e1 : (loseP p keep D.fs s ++ [Blk.obj (iterO c D.clock seen)])[s.length]? = some (.obj (iterO c D.clock seen)) := by
    rw [List.getElem?_append_right (by rw [loseP_len]; exact Nat.le_refl _), loseP_len, Nat.sub_self]; rfl
  rw [e1] at h3
  cases h3
  have h5' : o = iterO c D.clock seen := h5
  subst h5'
  have h6 := I.er 10
  rw [I.g10] at h6
  obtain ⟨l, h7, h8⟩ := h6
  rw [I.it] at h7
  cases h7
  exact ⟨cs, h1, h2, h4, h8⟩
end
end Go.Ev

/-! The loss of power: the loop over the files, and the function's contract. -/
namespace Go.Ev
set_option linter.unusedVariables false
set_option linter.unusedSimpArgs false
open Go.Ev.So Go.Proofs
open Go.ChangeMaps (setBlock)
open Go.MapKept (heap_set)

noncomputable def lzXc : Code := .seq (.region 1 (cops lzR1) false) (.seq (.cond (.tmp 12) .skip (.exit 0)) (.block 1 (.seq (.region 2 (cops lzR2) false) lzB)))
section
variable {n b : Nat} {D : Dsk} {keep : Int} {s : St} {m0 : Inj} {w0 : World} {c r0 : Nat} {p : Nat → Bool} {seen : Array Nat} {e : Env} {m : Inj} {a : Act} {w : World}
/-- On from a place of the loop. -/
theorem LzI.on (I : LzI n b D keep s m0 w0 c r0 p seen e m a w) {p' : Nat → Bool} {seen' : Array Nat} {e2 : Env} {s2 : St} {a2 : Act} {w2 : World} (R : Rel [] m (loseP p keep D.fs s ++ [.obj (iterO c D.clock seen)]) w 55 e2 s2 a2 w2)
    (hs : s2 = loseP p' keep D.fs s ++ [.obj (iterO c D.clock seen')]) (g0 : e2.get 0 = e.get 0) (g1 : e2.get 1 = e.get 1) (g10 : e2.get 10 = e.get 10) : ∃ m2, LzI n b D keep s m0 w0 c r0 p' seen' e2 m2 a2 w2 := by
  subst hs
  obtain ⟨m2, hS, hR, hG, hN, hd⟩ := R
  obtain ⟨d, z, hm⟩ := I.mp
  exact ⟨m2, hS, hR, I.goes.trans hG, hN, hd, g0.trans I.g0, g1.trans I.g1, g10.trans I.g10, hG.le _ _ I.it, d, z, hG.le _ _ hm⟩
theorem LzI.rel (I : LzI n b D keep s m0 w0 c r0 p seen e m a w) {t : Nat} (ht : t < 55) {v : AV} {u : Value} (hv : VR m v u) : Rel [] m (loseP p keep D.fs s ++ [.obj (iterO c D.clock seen)]) w 55 (e.put t v) (loseP p keep D.fs s ++ [.obj (iterO c D.clock seen)]) (a.put (some t) u) w :=
  ⟨m, I.sim, ER.put I.er (by rw [I.size]; exact ht) hv, Goes.refl _ _ _, by rw [put_size]; exact I.size, by rw [put_defers]; exact I.defers⟩
/-- The iterator's step, in the store. -/
theorem LzI.step (I : LzI n b D keep s m0 w0 c r0 p seen e m a w) {w1 : World} (h1 : w1 = w ∨ w1 = w.drew) (hr : w.heap[r0]? = some (iterO c D.clock seen)) (k : Nat) :
    Sim m (loseP p keep D.fs s ++ [.obj (iterO c D.clock (seen.push k))]) (setBlock w1 r0 (iterO c D.clock (seen.push k))) ∧
      Goes m (loseP p keep D.fs s ++ [.obj (iterO c D.clock seen)]) w m (loseP p keep D.fs s ++ [.obj (iterO c D.clock (seen.push k))]) (setBlock w1 r0 (iterO c D.clock (seen.push k))) := by
  have hS1 : Sim m (loseP p keep D.fs s ++ [.obj (iterO c D.clock seen)]) w1 := by rcases h1 with rfl | rfl; exact I.sim; exact I.sim.heap rfl
  have hG1 : Goes m (loseP p keep D.fs s ++ [.obj (iterO c D.clock seen)]) w m (loseP p keep D.fs s ++ [.obj (iterO c D.clock seen)]) w1 := by
    rcases h1 with rfl | rfl
    · exact Goes.refl _ _ _
    · exact Goes.heap rfl rfl rfl rfl
  have hr1 : w1.heap[r0]? = some (iterO c D.clock seen) := by rcases h1 with rfl | rfl <;> exact hr
  have eset : ∀ x : Obj, (loseP p keep D.fs s ++ [Blk.obj (iterO c D.clock seen)]).set s.length (.obj x) = loseP p keep D.fs s ++ [Blk.obj x] := fun x => by
    rw [List.set_append_right _ _ (by rw [loseP_len]; exact Nat.le_refl _), loseP_len, Nat.sub_self]; rfl
  have eget : ∀ x : Obj, (loseP p keep D.fs s ++ [Blk.obj x])[s.length]? = some (.obj x) := fun x => by
    rw [List.getElem?_append_right (by rw [loseP_len]; exact Nat.le_refl _), loseP_len, Nat.sub_self]; rfl
  have nro : ∀ x : Obj, ¬ ro (loseP p keep D.fs s ++ [Blk.obj x]) s.length := by
    rintro x (h | ⟨cs, h⟩) <;> rw [eget] at h <;> cases h
  have := hS1.put I.it (nro _) (B := .obj (iterO c D.clock (seen.push k))) (by rw [eset]; exact nro _) (w' := setBlock w1 r0 (iterO c D.clock (seen.push k))) (fun c' hc => (heap_set hr1).2 c' hc) (by simp [setBlock]) rfl rfl rfl ⟨_, (heap_set hr1).1, rfl⟩
  rw [eset] at this
  exact ⟨this.1, hG1.trans this.2⟩

theorem lz_in {f : Fil × Nat} (hf : f ∈ D.fs) : (AV.str f.1.name, AV.ptr f.1.fb 0, f.2) ∈ D.fs.map entF := List.mem_map_of_mem (f := entF) hf
theorem lz_of {k v : AV} {bb : Nat} (h : (k, v, bb) ∈ D.fs.map entF) : ∃ f ∈ D.fs, k = .str f.1.name ∧ v = .ptr f.1.fb 0 ∧ bb = f.2 := by
  obtain ⟨f, hf, e⟩ := List.mem_map.1 h
  cases e
  exact ⟨f, hf, rfl, rfl, rfl⟩
theorem lz_keep (hD : DAt s n b D) {f : Fil × Nat} (hf : f ∈ D.fs) (hp : p f.2 = false) (x : Obj) : (loseP p keep D.fs s ++ [Blk.obj x])[f.1.fb]? = some (.cells true (cF f.1)) := by
  have ha := hD.apart
  simp only [List.nodup_cons] at ha
  have hlt := (List.getElem?_eq_some_iff.1 (hD.file f hf).2).1
  rw [List.getElem?_append_left (by rw [loseP_len]; exact hlt), loseP_out]
  · exact (hD.file f hf).2
  · intro g hg hpg e
    have := nodup_fb ha.2.2 hg hf e
    subst this
    rw [hp] at hpg; cases hpg

set_option maxHeartbeats 4000000 in
theorem lz_round (hD : DAt s n b D) (hO : DOk D) {Q : Exit → Act → World → Prop}
    (hQ : ∀ p seen e m a w, LzI n b D keep s m0 w0 c r0 p seen e m a w → (∀ k, p k = seen.contains k) → (∀ f ∈ D.fs, seen.contains f.2 = true) → Q (.exit 0) a w)
    (p : Nat → Bool) (seen : Array Nat) (e : Env) (m : Inj) (a : Act) (w : World) (hp : ∀ k, p k = seen.contains k) (I : LzI n b D keep s m0 w0 c r0 p seen e m a w)
    (next : ∀ f ∈ D.fs, seen.contains f.2 = false → ∀ (p' : Nat → Bool) (e' : Env) (m' : Inj) (a' : Act) (w' : World), (∀ k, p' k = (seen.push f.2).contains k) → LzI n b D keep s m0 w0 c r0 p' (seen.push f.2) e' m' a' w' → LoopW Tryd.prog lzXc Q a' w') :
    LoopW Tryd.prog lzXc Q a w := by
  obtain ⟨cs, h1, h2, h3, h4⟩ := I.heap hD
  have hold : ∀ x ∈ cs.toList, x.born < D.clock := fun x hx => by
    obtain ⟨k, v, bb, g1, _, _, g2⟩ := h2.mem hx
    obtain ⟨f, hf, _, _, rfl⟩ := lz_of g1
    rw [g2]; exact hO.clock f hf
  have ev10 : a.eval (.tmp 10) = .pointer (some ⟨r0, 0, none⟩) := h4
  refine loopW_of ?_
  unfold lzXc
  refine wp_seq ?_
  refine wp_region ?_
  rw [lz_o10.2.2.2.2]
  show wpOps _ _ _ [0, 1] a w
  rcases run_next_at (P := Tryd.prog) w (copN lzR1 0).type r0 c D.clock D.clock seen cs D.clock h3 h1 hold (Nat.le_refl _) with ⟨h0, hrun⟩ | ⟨x, hx, w1, hal, hrun⟩
  · -- nothing is left
    refine one_op lz_o10.1 lz_o10.2.2.2.1 (u := .tuple #[.bool false]) (w' := w) (by simp [execOp, lz_o10.2.1, ev10, hrun, Result.andThen]) ?_
    rw [lz_o10.2.2.1]
    refine reg_sound (dd := []) sound0 exok (k := fun e2 s2 => s2 = loseP p keep D.fs s ++ [.obj (iterO c D.clock seen)] ∧ e2.get 12 = .bool false ∧ e2.get 0 = e.get 0 ∧ e2.get 1 = e.get 1 ∧ e2.get 10 = e.get 10) ?_ [1] [⟨some 12, none, .ext 0 (.t 11)⟩] rfl ?_ _ _ _ _
      (I.rel (t := 11) (v := .tup [.bool false]) (by decide) ⟨#[.bool false], rfl, _, _, rfl, rfl, rfl⟩) ?_
    · rintro e2 s2 a2 w2 ⟨hs2, g12, g0, g1, g10⟩ R
      have e12 : a2.eval (.tmp 12) = .bool false := by
        obtain ⟨_, _, hR, _⟩ := R
        have := hR 12
        rw [g12] at this; exact this
      obtain ⟨m2, I2⟩ := I.on R hs2 g0 g1 g10
      refine wp_seq (wp_cond_false e12 (wp_exit ?_))
      refine hQ p seen e2 m2 a2 w2 I2 hp fun f hf => ?_
      obtain ⟨x, hx, _, _, hb⟩ := h2.has (lz_in hf)
      have := all_seen cs seen h0 x hx
      rwa [hb] at this
    · rintro j i r hj hr
      cases j with
      | zero => cases hj; cases hr; exact ⟨_, lz_r1.1, lz_r1.2⟩
      | succ j => simp at hj
    · simp only [XX, CC, YY, Nat.reduceAdd, Nat.reduceSub, Nat.reduceLeDiff, Nat.reduceLT, Nat.reduceEqDiff, reduceIte, ↓reduceIte, Nat.reduceBEq]
  · -- an entry
    obtain ⟨hxm, hxs⟩ := mem_left hx
    obtain ⟨k, v, bb, g1, vk, vv, hb⟩ := h2.mem hxm
    obtain ⟨f, hf, rfl, rfl, rfl⟩ := lz_of g1
    rw [hb] at hxs hrun
    obtain ⟨hS1, hG1⟩ := I.step hal h3 f.2
    refine one_op lz_o10.1 lz_o10.2.2.2.1 (u := .tuple #[.bool true, x.key, x.val]) (w' := setBlock w1 r0 (iterO c D.clock (seen.push f.2))) (by simp [execOp, lz_o10.2.1, ev10, hrun, Result.andThen]; rfl) ?_
    rw [lz_o10.2.2.1]
    have hvt : VR m (.tup [.bool true, .str f.1.name, .ptr f.1.fb 0]) (.tuple #[.bool true, x.key, x.val]) := ⟨#[.bool true, x.key, x.val], rfl, _, _, rfl, rfl, _, _, rfl, vk, _, _, rfl, vv, rfl⟩
    refine reg_sound (dd := []) sound0 exok (m0 := m) (s0 := loseP p keep D.fs s ++ [.obj (iterO c D.clock seen)]) (w0 := w) (N := 55) (k := fun e2 s2 => s2 = loseP p keep D.fs s ++ [.obj (iterO c D.clock (seen.push f.2))] ∧ e2.get 12 = .bool true ∧ e2.get 0 = e.get 0 ∧ e2.get 1 = e.get 1 ∧ e2.get 10 = e.get 10) ?_ [1] [⟨some 12, none, .ext 0 (.t 11)⟩] rfl ?_
      (e.put 11 (.tup [.bool true, .str f.1.name, .ptr f.1.fb 0])) (loseP p keep D.fs s ++ [.obj (iterO c D.clock (seen.push f.2))]) _ _ ⟨m, hS1, ER.put I.er (by rw [I.size]; decide) hvt, hG1, by rw [put_size]; exact I.size, by rw [put_defers]; exact I.defers⟩ ?_
    · rintro e2 s2 a2 w2 ⟨hs2, g12, g0, g1, g10⟩ R
      have e12 : a2.eval (.tmp 12) = .bool true := by
        obtain ⟨_, _, hR, _⟩ := R
        have := hR 12
        rw [g12] at this; exact this
      obtain ⟨m2, I2⟩ := I.on (p' := p) (seen' := seen.push f.2) R hs2 g0 g1 g10
      refine wp_seq (wp_cond_true e12 (wp_skip ?_))
      refine wp_block (wp_seq (wp_region ?_))
      rw [lz_o20.2.2.2.2]
      show wpOps _ _ _ [0, 1, 2] a2 w2
      obtain ⟨cs2, q1, q2, q3, q4⟩ := I2.heap hD
      obtain ⟨x2, hx2, _, vv2, hb2⟩ := q2.has (lz_in hf)
      obtain ⟨_, _, _, _, vk2, _, _⟩ := q2.mem hx2
      have hnd : (cs2.toList.map (·.born)).Nodup := by
        rw [q2.born, List.map_map]; exact hO.stamps
      have hent := run_entry_at (P := Tryd.prog) w2 r0 c D.clock seen cs2 D.clock x2 (by rw [hb2]; exact q3) q1 hx2 hnd
      have ev10' : a2.eval (.tmp 10) = .pointer (some ⟨r0, 0, none⟩) := q4
      refine one_op lz_o20.1 lz_o20.2.2.2.1 (u := .tuple #[x2.key, x2.val]) (w' := w2) (by simp [execOp, lz_o20.2.1, ev10', hent, Result.andThen]) ?_
      rw [lz_o20.2.2.1]
      have hvt2 : VR m2 (.tup [.undef, .ptr f.1.fb 0]) (.tuple #[x2.key, x2.val]) := ⟨#[x2.key, x2.val], rfl, _, _, rfl, trivial, _, _, rfl, vv2, rfl⟩
      refine reg_sound (dd := []) sound0 exok (k := fun e3 s3 => s3 = loseP p keep D.fs s ++ [.obj (iterO c D.clock (seen.push f.2))] ∧ e3.get 5 = .ptr f.1.fb 0 ∧ e3.get 0 = e2.get 0 ∧ e3.get 1 = e2.get 1 ∧ e3.get 10 = e2.get 10) ?_ [1, 2] [⟨some 14, none, .ext 1 (.t 13)⟩, ⟨some 5, none, .mv (.t 14)⟩] rfl ?_ _ _ _ _
        (I2.rel (t := 13) (v := .tup [.undef, .ptr f.1.fb 0]) (by decide) hvt2) ?_
      · rintro e3 s3 a3 w3 ⟨hs3, g5, g0', g1', g10'⟩ R3
        subst hs3
        refine code_sound (dd := []) sound0 exok mixed lzB rzB lz_cB _ _ ?_ e3 _ a3 w3 R3 (lz_file _ f.1 keep e3 (hO.files f hf) (lz_keep hD hf (by rw [hp]; exact hxs) _) (g1'.trans I2.g1) g5)
        rintro xe e4 s4 a4 w4 ⟨rfl, hs4, j0, j1, j10⟩ R4
        have ha := hD.apart
        simp only [List.nodup_cons] at ha
        have hl : ∀ g ∈ D.fs, g.1.fb < s.length := fun g hg => (List.getElem?_eq_some_iff.1 (hD.file g hg).2).1
        have hs5 : s4 = loseP (fun k => (seen.push f.2).contains k) keep D.fs s ++ [.obj (iterO c D.clock (seen.push f.2))] := by
          rw [hs4, List.set_append_left _ _ (by rw [loseP_len]; exact hl f hf)]
          congr 1
          refine loseP_step ha.2.2 hO.stamps hl hf fun k => ?_
          rw [contains_push, hp]
          simp only [Bool.or_eq_true, beq_iff_eq]
        obtain ⟨m5, I5⟩ := I2.on R4 hs5 (j0.trans g0') (j1.trans g1') (j10.trans g10')
        exact next f hf hxs _ e4 m5 a4 w4 (fun _ => rfl) I5
      · rintro j i r hj hr
        match j with
        | 0 => cases hj; cases hr; exact ⟨_, lz_r2.1, lz_r2.2.2.1⟩
        | 1 => cases hj; cases hr; exact ⟨_, lz_r2.2.1, lz_r2.2.2.2⟩
        | j + 2 => simp at hj
      · simp only [XX, CC, YY, Nat.reduceAdd, Nat.reduceSub, Nat.reduceLeDiff, Nat.reduceLT, Nat.reduceEqDiff, reduceIte, ↓reduceIte, Nat.reduceBEq]
    · rintro j i r hj hr
      cases j with
      | zero => cases hj; cases hr; exact ⟨_, lz_r1.1, lz_r1.2⟩
      | succ j => simp at hj
    · simp only [XX, CC, YY, Nat.reduceAdd, Nat.reduceSub, Nat.reduceLeDiff, Nat.reduceLT, Nat.reduceEqDiff, reduceIte, ↓reduceIte, Nat.reduceBEq]

set_option maxHeartbeats 4000000 in
theorem lz_loop (hD : DAt s n b D) (hO : DOk D) {Q : Exit → Act → World → Prop}
    (hQ : ∀ p seen e m a w, LzI n b D keep s m0 w0 c r0 p seen e m a w → (∀ k, p k = seen.contains k) → (∀ f ∈ D.fs, seen.contains f.2 = true) → Q (.exit 0) a w) :
    ∀ (d : Nat) (p : Nat → Bool) (seen : Array Nat) (e : Env) (m : Inj) (a : Act) (w : World), (D.fs.filter fun f => !seen.contains f.2).length ≤ d → (∀ k, p k = seen.contains k) → LzI n b D keep s m0 w0 c r0 p seen e m a w → LoopW Tryd.prog lzXc Q a w := by
  intro d
  induction d with
  | zero =>
    intro p seen e m a w hd hp I
    exact lz_round hD hO hQ p seen e m a w hp I fun f hf hs => by
      exfalso
      have : f ∈ D.fs.filter fun f => !seen.contains f.2 := by rw [List.mem_filter]; exact ⟨hf, by rw [hs]; rfl⟩
      have := List.length_pos_of_mem this
      omega
  | succ d ih =>
    intro p seen e m a w hd hp I
    refine lz_round hD hO hQ p seen e m a w hp I fun f hf hs p' e' m' a' w' hp' I' => ih p' (seen.push f.2) e' m' a' w' ?_ hp' I'
    have := filt_lt (p := fun g : Fil × Nat => !seen.contains g.2) (q := fun g => !(seen.push f.2).contains g.2) (l := D.fs) (fun x _ hx => by
      simp only [Bool.not_eq_true', contains_push, Bool.or_eq_false_iff] at hx ⊢; exact hx.1) hf (by rw [hs]; rfl) (by simp [contains_push])
    omega

set_option maxHeartbeats 4000000 in
theorem lz_end (hD : DAt s n b D) (x : Obj) (g0 : e.get 0 = .ptr b 0) :
    awp (Run T0) rzE (fun y e' t' => y = .nrm ∧ t' = loseS s b D keep ++ [.obj x]) e (loseP (fun _ => true) keep D.fs s ++ [.obj x]) := by
  have ha := hD.apart
  simp only [List.nodup_cons, List.mem_cons, not_or, List.mem_map, not_exists, not_and] at ha
  have hbl := (List.getElem?_eq_some_iff.1 hD.cells).1
  have hb : (loseP (fun _ => true) keep D.fs s ++ [Blk.obj x])[b]? = some (.cells true (cD D)) := by
    rw [List.getElem?_append_left (by rw [loseP_len]; exact hbl), loseP_out fun f hf _ => ha.1.2 f hf]; exact hD.cells
  generalize ht : loseP (fun _ => true) keep D.fs s ++ [Blk.obj x] = t at *
  have hlt := (List.getElem?_eq_some_iff.1 hb).1
  have s1 : stA t none (.ptr b (0 + 1)) (.bool true) = some (t.set b (.cells true (cD { D with down := true }))) := by
    rw [st_one (by rfl), wr_own hb, if_pos ⟨by simp [cD], by rfl⟩]; rfl
  have s2 : stA (t.set b (.cells true (cD { D with down := true }))) none (.ptr b (0 + 2)) (.bool false) = some (t.set b (.cells true (cD (loseD D keep)))) := by
    rw [st_one (by rfl), wr_own (key_set hlt), if_pos ⟨by simp [cD], by rfl⟩, List.set_set]; rfl
  have s2' : wrA (t.set b (.cells true (cD { D with down := true }))) b 2 [AV.bool false] = some (t.set b (.cells true (cD (loseD D keep)))) := by
    rw [wr_own (key_set hlt), if_pos ⟨by simp [cD], by rfl⟩, List.set_set]; rfl
  simp only [rzE, RC.a2, r_files_Disk_lose, XX, CC, YY, Nat.reduceAdd, Nat.reduceSub, Nat.reduceLeDiff, Nat.reduceLT, Nat.reduceEqDiff, reduceIte, ↓reduceIte, Nat.reduceBEq, g0, s1, s2, s2']
  rw [← ht, List.set_append_left _ _ (by rw [loseP_len]; exact hbl)]; rfl

theorem lz_gc (hD : DAt s n b D) (x : Obj) : Gc s (.tup []) (loseS s b D keep ++ [.obj x]) (.tup []) (loseS s b D keep) := by
  have hll : (loseS s b D keep).length = s.length := by unfold loseS; rw [List.length_set, loseP_len]
  have ha := hD.apart
  simp only [List.nodup_cons, List.mem_cons, not_or, List.mem_map, not_exists, not_and] at ha
  refine ⟨⟨[], [], ?_, rfl, List.nodup_nil, by simp, by simp [hll], ?_, rfl, by simp⟩⟩
  · rw [List.take_append_of_le_length (by omega), List.take_of_length_le (by omega), List.append_nil]
  · intro i bl hi h
    rw [List.getElem?_append_left (by omega)] at h
    have hf : ∀ j, j < s.length → keepF s.length [] (loseS s b D keep ++ [Blk.obj x]).length j = j := fun j hj => by unfold keepF; rw [if_pos hj]
    by_cases hib : i = b
    · subst hib
      unfold loseS at h
      rw [List.getElem?_set_self (by rw [loseP_len]; exact hi)] at h
      cases h
      right
      have hm := hf D.mb (List.getElem?_eq_some_iff.1 hD.map).1
      simp only [Blk.ren, cD, AV.rens, AV.ren]
      rw [show (loseD D keep).mb = D.mb from rfl, hm]
    · unfold loseS at h
      rw [List.getElem?_set_ne (fun e => hib e.symm)] at h
      by_cases hex : ∃ f ∈ D.fs, f.1.fb = i
      · obtain ⟨f, hfm, rfl⟩ := hex
        have hl : ∀ g ∈ D.fs, g.1.fb < s.length := fun g hg => (List.getElem?_eq_some_iff.1 (hD.file g hg).2).1
        rw [loseP_in ha.2.2 hl hfm rfl] at h
        cases h
        right
        rfl
      · left
        rw [loseP_out fun f hfm _ e => hex ⟨f, hfm, e⟩] at h
        exact h
end
theorem loseP_all {p : Nat → Bool} {keep : Int} : ∀ {fs : List (Fil × Nat)} {s : St}, (∀ f ∈ fs, p f.2 = true) → loseP p keep fs s = loseP (fun _ => true) keep fs s
  | [], s, h => rfl
  | f :: fs, s, h => by
    rw [loseP, loseP, if_pos (h f (List.mem_cons_self ..)), if_pos rfl]
    exact loseP_all fun g hg => h g (List.mem_cons_of_mem _ hg)
set_option maxHeartbeats 4000000 in
theorem lose_calls (args : List AV) (s : St) (v : AV) (s' : St) (hR : LoseR args s v s') (m : Inj) (w : World) (vs : Array Value) (hS : Sim m s w) (hv : VRs m args vs.toList) :
    Calls Tryd.prog f_files_Disk_lose vs w (CQ m s w fun a t => a = v ∧ t = s') := by
  obtain ⟨n, b, D, keep, rfl, hD, hO, rfl, rfl⟩ := hR
  have hml := (List.getElem?_eq_some_iff.1 hD.map).1
  refine calls_of_wp Tryd.func47 lz_body ?_
  have R0 := rel_start hS hv (N := 55) (by simp)
  refine wp_seq (wp_seq (wp_region ?_))
  rw [lz_o04.2.2.2.2]
  show wpOps _ _ _ ([0, 1, 2, 3] ++ [4]) _ _
  refine reg_tail (dd := []) sound0 exok (k := fun e2 s2 => s2 = s ∧ e2.get 9 = .map D.mb ∧ e2.get 0 = .ptr b 0 ∧ e2.get 1 = .int .i64 keep) ?_ [0, 1, 2, 3] rops0 rfl ?_ _ _ _ _ R0 ?_
  · rintro e2 s2 a2 w2 ⟨rfl, g9, g0, g1⟩ R2
    obtain ⟨m2, hS2, hE2, hG2, hN2, hd2⟩ := R2
    have h9 := hE2 9
    rw [g9] at h9
    obtain ⟨l, hl, hv9⟩ := h9
    have ev9 : a2.eval (.tmp 9) = .map (some l.c) := hv9
    obtain ⟨cs, q1, q2⟩ := map_obj hS2 hl hD.map
    refine one_op lz_o04.1 lz_o04.2.2.2.1 (u := .pointer (some ⟨w2.heap.size, 0, none⟩)) (w' := w2.alloc (iterO l.c D.clock #[])) (by simp [execOp, lz_o04.2.1, ev9, run_range_map w2 _ _ _ _ _ _ lz_map q1, Result.andThen]; rfl) ?_
    rw [lz_o04.2.2.1]
    obtain ⟨hS3, hG3⟩ := hS2.lay (B := .obj (iterO l.c D.clock #[])) (o := iterO l.c D.clock #[]) (z := 0) (w' := w2.alloc (iterO l.c D.clock #[])) (fun _ _ => rfl) rfl rfl rfl rfl
    have hp0 : ∀ (fs : List (Fil × Nat)) (t : St), loseP (fun _ => false) keep fs t = t := by
      intro fs
      induction fs with
      | nil => intro t; rfl
      | cons f fs ih => intro t; rw [loseP, ih]; rfl
    have I0 : LzI n b D keep s2 m w l.c w2.heap.size (fun _ => false) #[] (e2.put 10 (.ptr s2.length 0)) (m2.put s2.length ⟨w2.heap.size, 0, 0⟩) (a2.put (some 10) (.pointer (some ⟨w2.heap.size, 0, none⟩))) (w2.alloc (iterO l.c D.clock #[])) := by
      refine ⟨by rw [hp0]; exact hS3, ER.put (ER.mono hG3.le hE2) (by rw [hN2]; decide) ⟨_, put_self _ _ _, rfl⟩, by rw [hp0]; exact hG2.trans hG3, by rw [put_size]; exact hN2, by rw [put_defers]; exact hd2, ?_, ?_, ?_, put_self _ _ _, l.d, l.z, hG3.le _ _ hl⟩
      · rw [Env.get_put, if_neg (by decide)]; exact g0
      · rw [Env.get_put, if_neg (by decide)]; exact g1
      · rw [Env.get_put, if_pos rfl]
    refine wp_block (wp_of_loopW (lz_loop hD hO ?_ D.fs.length _ #[] _ _ _ _ (List.length_filter_le _ _) (fun k => by simp) I0))
    intro p seen e m3 a3 w3 I hp hall
    have hS5 := I.sim
    have hG5 := I.goes
    rw [loseP_all (p := p) (fun f hf => by rw [hp]; exact hall f hf)] at hS5 hG5
    refine code_sound (dd := []) sound0 exok mixed lzE rzE lz_cE _ _ ?_ e _ a3 w3 (m0 := m) (s0 := s2) (w0 := w) (N := 55) ⟨m3, hS5, I.er, hG5, I.size, I.defers⟩ (lz_end hD _ I.g0)
    rintro x e4 s4 a4 w4 ⟨rfl, rfl⟩ ⟨m4, hS4, hE4, hG4, hN4, hd4⟩
    obtain ⟨u, hu, hru⟩ := results_run (P := Tryd.prog) (fn := Tryd.f47) (rs := []) (vs := []) hS4 hE4 (by kernel_rfl) rfl
    refine ⟨hd4, u, hru, ?_⟩
    exact cq_drop hS hS4 hG4 hu (lz_gc hD _)
  · rintro j i r hj hr
    match j with
    | 0 => cases hj; cases hr; exact ⟨_, lz_g0.1, lz_r0.1⟩
    | 1 => cases hj; cases hr; exact ⟨_, lz_g0.2.1, lz_r0.2.1⟩
    | 2 => cases hj; cases hr; exact ⟨_, lz_g0.2.2.1, lz_r0.2.2.1⟩
    | 3 => cases hj; cases hr; exact ⟨_, lz_g0.2.2.2, lz_r0.2.2.2⟩
    | j + 4 => simp at hj
  · have l9 := hD.ld.1
    simp only [rops0, XX, CC, YY, Nat.reduceAdd, Nat.reduceSub, Nat.reduceLeDiff, Nat.reduceLT, Nat.reduceEqDiff, reduceIte, ↓reduceIte, Nat.reduceBEq, l9]
end Go.Ev

/-! Regions in a round of a range over a function: what is known of them outside holds there. -/
namespace Go.Ev
set_option linter.unusedVariables false
set_option linter.unusedSimpArgs false
variable {P : Program} {E : Ex} {dd : List Deferred}

def wd (r : Option Nat) : Fence := { Fence.wide with round := r }
theorem calls_in {r : Option Nat} {n : Nat} {f : FuncId} {args : Array Value} {w : World} {R : Ending → World → Prop} (h : Calls P f args w R) : CallsIn (wd r) n P f args w R := callsIn_wide.2 h
theorem rows_in {r : Option Nat} {n : Nat} {row : String} {args : Array Value} {w : World} {R : Value → World → Prop} (h : Rows P row args w R) : RowsIn (wd r) n P row args w R := fun c cs _ => by
  obtain ⟨v, w', h1, h2⟩ := h c cs
  exact ⟨v, w', h1, stepsIn_wide.2 h2⟩
theorem op_in {r : Option Nat} {n : Nat} {o : Oper} {a : Act} {w : World} {K : Act → World → Prop} {Q : Exit → Act → World → Prop} (hdef : ∀ c, o.op ≠ .defer c) (h : o.wp P a w K Q) : o.wpIn (wd r) n P a w K Q := by
  refine ⟨fun f _ => trivial, ?_⟩
  have e : o.semAt (wd r).round a.eval = execOp a.eval o := by
    cases r with
    | none => rfl
    | some l => exact Oper.semAt_some l _ _ hdef
  rw [e]
  unfold Oper.wp at h
  generalize (execOp a.eval o).run P w = res at h ⊢
  cases res with
  | ok v w' =>
    cases v with
    | enter f args => exact ⟨fun h => (by cases h), calls_in h⟩
    | row row args => exact ⟨fun h => (by cases h), rows_in h⟩
    | value v => exact h
    | skip => exact h
    | defer d => exact h
    | _ => exact h.elim
  | halt x w' =>
    cases x with
    | panic v => exact h
    | _ => exact h.elim
theorem comp_def {o : Op} {t : TypeId} {r : RO} (h : compOp P E o t = some r) (c : Call) : o ≠ .defer c := by
  rintro rfl
  simp [compOp, compOp0, compXT] at h

/-- A region in a round. p: a slot that no operation writes. -/
theorem reg_in {X : Oracle} (hX : XS P X) (hE : ExOK P E) {ops : Array Oper} {N : Nat} {Q : Exit → Act → World → Prop} {k : Env → St → Prop} {m0 : Inj} {s0 : St} {w0 : World} {l2 : List Nat} {r : Option Nat} {n p : Nat} {pv : Value}
    (hQ : ∀ e s a w, k e s → Rel dd m0 s0 w0 N e s a w → a.tmps.getD p undef = pv → wpOpsIn (wd r) n P ops Q l2 a w) : ∀ (l : List Nat) (rs : List ROp), l.length = rs.length → (∀ (j i : Nat) (r : ROp), l[j]? = some i → rs[j]? = some r → ∃ o, ops[i]? = some o ∧ compR1 P E N ops o = some r) →
    (rs.all fun r => r.dst != some p) = true → ∀ (e : Env) (s : St) (a : Act) (w : World), Rel dd m0 s0 w0 N e s a w → a.tmps.getD p undef = pv → opsA X rs e s k → wpOpsIn (wd r) n P ops Q (l ++ l2) a w
  | [], rs, hlen, hc, hp, e, s, a, w, hrel, hpv, h => by
    have : rs = [] := by simpa using hlen.symm
    subst this
    exact hQ _ _ _ _ h hrel hpv
  | i :: l, [], hlen, _, _, _, _, _, _, _, _, _ => by simp at hlen
  | i :: l, ro :: rs, hlen, hc, hp, e, s, a, w, ⟨m, hS, hR, hG, hN, hD⟩, hpv, h => by
    obtain ⟨o, ho, hcr⟩ := hc 0 i ro rfl rfl
    obtain ⟨h1, h2, h3, h4⟩ := compR1_spec hcr
    rw [List.all_cons, Bool.and_eq_true] at hp
    have hpd : o.dst ≠ some p := by rw [← h1]; simpa using hp.1
    have put_p : ∀ u, (a.put o.dst u).tmps.getD p undef = pv := fun u => by
      rw [← hpv]
      cases hd : o.dst with
      | none => rfl
      | some d =>
        have : d ≠ p := fun e => hpd (by rw [hd, e])
        simp only [Act.put, Array.getD_eq_getD_getElem?]
        rw [Array.getElem?_setIfInBounds_ne this]
    have rest : ∀ v s' m' u w', opsA X rs (putO e ro.dst v) s' k → Sim m' s' w' → Goes m s w m' s' w' → VR m' v u → wpOpsIn (wd r) n P ops Q (l ++ l2) (a.put o.dst u) w' := by
      intro v s' m' u w' hk hS' hG' hv
      refine reg_in hX hE hQ l rs (by simpa using hlen) (fun j i' r' hj hr => hc (j + 1) i' r' (by simpa using hj) (by simpa using hr)) hp.2 _ s' _ w' ⟨m', hS', ?_, hG.trans hG', by rw [put_size]; exact hN, by rw [put_defers]; exact hD⟩ (put_p u) hk
      rw [h1]
      exact ER.putO (ER.mono hG'.le hR) hN h2 hv
    have runs : opA X ro.op e s (fun v s' => opsA X rs (putO e ro.dst v) s' k) → o.wpIn (wd r) n P a w (wpOpsIn (wd r) n P ops Q (l ++ l2)) Q := by
      intro hr
      rcases h4 with h4 | h4
      · exact op_in (comp_def h4) (op_sound hX hE h4 hR hS hr rest)
      · rw [h4] at hr; exact absurd hr (by simp [opA, pureA])
    simp only [List.cons_append, wpOpsIn, ho]
    simp only [opsA] at h
    split at h
    · rename_i hg
      rw [hg] at h3
      rw [guard_none_run h3, if_pos rfl]
      exact runs h
    · rename_i t want hg
      rw [hg] at h3
      split at h
      · rename_i hb
        rw [guard_run h3 (hR t) hb, if_pos rfl]
        exact runs h
      · rename_i hb
        rw [guard_run h3 (hR t) hb, if_neg (by decide)]
        exact ⟨fun _ _ => trivial, rest (.tup []) s m undef w h hS (Goes.refl _ _ _) ⟨#[], rfl, rfl⟩⟩
      · exact h.elim
/-- One operation by itself, in a round. -/
theorem one_in {r : Option Nat} {n : Nat} {ops : Array Oper} {Q : Exit → Act → World → Prop} {i : Nat} {l : List Nat} {o : Oper} (ho : ops[i]? = some o) (hg : o.guard = none) (hdef : ∀ c, o.op ≠ .defer c) {a : Act} {w w' : World} {u : Value} (h : (execOp a.eval o).run P w = .ok (.value u) w') (hk : wpOpsIn (wd r) n P ops Q l (a.put o.dst u) w') :
    wpOpsIn (wd r) n P ops Q (i :: l) a w := by
  have hw : Region.wanted o (yielded ops a.tmps) = true := by simp [Region.wanted, hg]
  simp only [wpOpsIn, ho, hw, if_true]
  exact op_in hdef (wp_value h hk)

/-- The world grows by blocks that are no cells of the run's. -/
theorem grown_sim {m : Inj} {t : St} {W W' : World} {row : Option Nat} (h : Sim m t W) (hg : W.grownBy W' row) (hr : ∀ i l, m i = some l → row = some l.c → t[i]? = some .dead) : Sim m t W' := by
  refine ⟨fun i l hi => ?_, h.inj⟩
  obtain ⟨b, o, h1, h2, h3⟩ := h.at_ i l hi
  by_cases hc : row = some l.c
  · have hd := hr i l hi hc
    rw [h1] at hd
    cases hd
    have hlt := (h.lt hi).2
    obtain ⟨o', ho'⟩ : ∃ o', W'.heap[l.c]? = some o' := ⟨_, Array.getElem?_eq_getElem (Nat.lt_of_lt_of_le hlt hg.size)⟩
    exact ⟨.dead, o', h1, ho', trivial⟩
  · exact ⟨b, o, h1, (hg.block l.c (h.lt hi).2 (fun e => hc e.symm)).trans h2, h3⟩
theorem grown_goes {m0 m : Inj} {s t : St} {w W W' : World} {row : Option Nat} (h : Goes m0 s w m t W) (hg : W.grownBy W' row) (hr : ∀ c, row = some c → w.heap.size ≤ c) : Goes m0 s w m t W' :=
  ⟨h.le, h.new, h.len, hg.os.trans h.os, hg.tape.trans h.tape, hg.output.trans h.output, Nat.le_trans h.size hg.size, fun c hc hH => by
    obtain ⟨k1, k2⟩ := h.keep c hc hH
    exact ⟨(hg.block c (Nat.lt_of_lt_of_le hc h.size) (fun e => by have := hr c e.symm; omega)).trans k1, k2⟩⟩
theorem hc_of {N : Nat} {ops : Array Oper} {rs : List ROp} (h : compRs P E N ops ops.toList = some rs) (a len : Nat) : ∀ (j i : Nat) (r : ROp), (List.range' a len)[j]? = some i → ((rs.drop a).take len)[j]? = some r → ∃ o, ops[i]? = some o ∧ compR1 P E N ops o = some r := by
  intro j i r hj hr
  obtain ⟨hl, hg⟩ := compRs_get h
  have hjl : j < len := by
    have := (List.getElem?_eq_some_iff.1 hj).1
    simpa using this
  rw [List.getElem?_range' hjl] at hj
  simp only [Nat.one_mul, Option.some.injEq] at hj
  subst hj
  rw [List.getElem?_take, if_pos hjl, List.getElem?_drop] at hr
  have hlt := (List.getElem?_eq_some_iff.1 hr).1
  rw [hl] at hlt
  obtain ⟨r', h1, h2⟩ := hg (a + j) _ (List.getElem?_eq_getElem hlt)
  rw [hr] at h1
  cases h1
  exact ⟨_, by rw [← Array.getElem?_toList]; exact List.getElem?_eq_getElem hlt, h2⟩
/-- Where nothing of the run's own was handed in, all that lay lies as it lay. -/
theorem goes_grown {m m' : Inj} {s s' : St} {W W' : World} (h : Goes m s W m' s' W') (hro : ∀ i l, m i = some l → ro s i) : W.grownBy W' none :=
  ⟨h.os, h.tape, h.output, h.size, fun c hc _ => (h.keep c hc fun i l hi _ => hro i l hi).1⟩
theorem eval_of {m : Inj} {e : Env} {a : Act} (h : ER m e a) {t : Nat} {b : Bool} (he : e.get t = .bool b) : a.eval (.tmp t) = .bool b := by
  have := h t
  rw [he] at this; exact this
end Go.Ev

/-! The iterator over the frames of a string. -/
namespace Go.Ev
set_option linter.unusedVariables false
set_option linter.unusedSimpArgs false
open Go.Ev.So Go.Proofs

noncomputable def frC : Code := Tryd.f60.body.getD .skip
noncomputable def frY : Code := cinn (cinn (cinn (csnd frC)))
noncomputable def frR1 : Code := cfst frY
noncomputable def frR2 : Code := cfst (csnd frY)
noncomputable def frR3 : Code := cfst (cfst (csnd (csnd frY)))
noncomputable def frR4 : Code := cfst (csnd (csnd (csnd frY)))
noncomputable def frR5 : Code := cfst (cfst (csnd (csnd (csnd (csnd frY)))))
noncomputable def frR6 : Code := csnd (csnd (csnd (csnd (csnd frY))))
theorem fr_body : Tryd.f60.body = some (.seq (.region 0 (cops (cfst frC)) false) (.block 0 (.loop (.block 1 (.seq (.region 1 (cops frR1) false) (.seq (.region 2 (cops frR2) false) (.seq (.seq (.region 3 (cops frR3) false) (.cond (.tmp 33) .ret .skip)) (.seq (.region 4 (cops frR4) false) (.seq (.seq (.region 5 (cops frR5) false) (.cond (.tmp 56) .ret .skip)) (.region 6 (cops frR6) false)))))))))) := by kernel_rfl
def RC.fa : RC → RC
  | .seq a _ => a
  | c => c
def RC.fb : RC → RC
  | .seq _ b => b
  | c => c
def RC.fi : RC → RC
  | .block _ c => c
  | .loop c => c
  | c => c
def RC.ops : RC → List ROp
  | .reg ops => ops
  | _ => []
def fqY : RC := r_wal_frames_1.body.fb.fi.fi.fi
def fq0 : List ROp := r_wal_frames_1.body.fa.ops
def fq1 : List ROp := fqY.fa.ops
def fq2 : List ROp := fqY.fb.fa.ops
def fq3 : List ROp := fqY.fb.fb.fa.fa.ops
def fq4 : List ROp := fqY.fb.fb.fb.fa.ops
def fq5 : List ROp := fqY.fb.fb.fb.fb.fa.fa.ops
def fq6 : List ROp := fqY.fb.fb.fb.fb.fb.ops
theorem fr_c0 : compRs Tryd.prog ex0 62 (cops (cfst frC)) (cops (cfst frC)).toList = some fq0 := by kernel_rfl
theorem fr_c1 : compRs Tryd.prog ex0 62 (cops frR1) (cops frR1).toList = some fq1 := by kernel_rfl
theorem fr_c2 : compRs Tryd.prog ex0 62 (cops frR2) (cops frR2).toList = some fq2 := by kernel_rfl
theorem fr_c3 : compRs Tryd.prog ex0 62 (cops frR3) (cops frR3).toList = some fq3 := by kernel_rfl
theorem fr_c4 : compRs Tryd.prog ex0 62 (cops frR4) (cops frR4).toList = some fq4 := by kernel_rfl
theorem fr_c5 : compRs Tryd.prog ex0 62 (cops frR5) (cops frR5).toList = some fq5 := by kernel_rfl
theorem fr_c6 : compRs Tryd.prog ex0 62 (cops frR6) (cops frR6).toList = some fq6 := by kernel_rfl
theorem fr_n : (cops (cfst frC)).size = 1 ∧ (cops frR1).size = 8 ∧ (cops frR2).size = 9 ∧ (cops frR3).size = 12 ∧ (cops frR4).size = 11 ∧ (cops frR5).size = 14 ∧ (cops frR6).size = 6 := ⟨by kernel_rfl, by kernel_rfl, by kernel_rfl, by kernel_rfl, by kernel_rfl, by kernel_rfl, by kernel_rfl⟩
theorem fr_yield : (cops frR5)[11]? = some (copN frR5 11) ∧ (copN frR5 11).op = Op.call { callee := .value (.tmp 52), args := #[.tmp 53], argTypes := #[9] } ∧ (copN frR5 11).dst = some 54 ∧ compG (cops frR5) (copN frR5 11) = some (some (51, false)) := ⟨by kernel_rfl, by kernel_rfl, by kernel_rfl, by kernel_rfl⟩

/-- A string's four bytes at a place, as the program reads them. -/
theorem get32_val (a : ByteArray) (q : Int) : ∃ (g : Nat) (o : Bool), get32A a q = .tup [.int .u32 g, .bool o] ∧ (o = true → ∃ b, cutV a q 4 = some b ∧ g = getB b.toList) ∧ (o = false → cutV a q 4 = none) ∧ g < 4294967296 := by
  unfold get32A
  cases h : cutV a q 4 with
  | none => exact ⟨0, false, rfl, (by intro h; cases h), fun _ => rfl, by decide⟩
  | some b => exact ⟨getB b.toList, true, rfl, fun _ => ⟨b, rfl, rfl⟩, (by intro h; cases h), all_lt (by rw [toList_size, cutV_size h]; decide)⟩
theorem cut_val (a : ByteArray) (q n : Int) : ∃ (x : ByteArray) (o : Bool), cutA a q n = .tup [.str x, .bool o] ∧ (o = true → cutV a q n = some x) ∧ (o = false → cutV a q n = none) := by
  unfold cutA
  cases h : cutV a q n with
  | none => exact ⟨_, false, rfl, (by intro h; cases h), fun _ => rfl⟩
  | some b => exact ⟨b, true, rfl, fun _ => rfl, (by intro h; cases h)⟩

set_option maxHeartbeats 1000000 in
theorem fr_1 (e : Env) (s : St) (a : ByteArray) (p g : Nat) (o : Bool) (ha : a.size < 1000000000) (hp : p < 2000000000) (g1 : e.get 1 = .ptr 0 0) (g3 : e.get 3 = .int .i64 p) (hs : ldA s none (.ptr 0 0) = some (.str a)) (hg : get32A a p = .tup [.int .u32 g, .bool o]) :
    opsA (Run T0) fq1 e s fun e' s' => s' = s ∧ e'.get 1 = .ptr 0 0 ∧ e'.get 3 = .int .i64 p ∧ e'.get 4 = .int .u32 g ∧ e'.get 5 = .bool o := by
  simp only [fq1, fqY, RC.fa, RC.fb, RC.fi, RC.ops, r_wal_frames_1, XX, CC, YY, Nat.reduceAdd, Nat.reduceSub, Nat.reduceLeDiff, Nat.reduceLT, Nat.reduceEqDiff, reduceIte, ↓reduceIte, Nat.reduceBEq, g1, g3, hs]
  refine (get32_r s a p ha (by omega)).use ?_
  rw [hg]
  simp only [XX, CC, YY, Nat.reduceAdd, Nat.reduceSub, Nat.reduceLeDiff, Nat.reduceLT, Nat.reduceEqDiff, reduceIte, ↓reduceIte, Nat.reduceBEq, g1, g3]
set_option maxHeartbeats 1000000 in
theorem fr_2 (e : Env) (s : St) (a : ByteArray) (p g g' : Nat) (o o' : Bool) (ha : a.size < 1000000000) (hp : p < 2000000000) (g1 : e.get 1 = .ptr 0 0) (g3 : e.get 3 = .int .i64 p) (g4 : e.get 4 = .int .u32 g) (g5 : e.get 5 = .bool o) (hs : ldA s none (.ptr 0 0) = some (.str a)) (hg : get32A a (p + 4 : Nat) = .tup [.int .u32 g', .bool o']) :
    opsA (Run T0) fq2 e s fun e' s' => s' = s ∧ e'.get 1 = .ptr 0 0 ∧ e'.get 3 = .int .i64 p ∧ e'.get 4 = .int .u32 g ∧ e'.get 5 = .bool o ∧ e'.get 6 = .int .u32 g' ∧ e'.get 7 = .bool o' := by
  have h4 : IntKind.i64.wrap ((p : Int) + 4) = ((p + 4 : Nat) : Int) := by rw [w64_in (by omega) (by omega)]; omega
  simp only [fq2, fqY, RC.fa, RC.fb, RC.fi, RC.ops, r_wal_frames_1, XX, CC, YY, Nat.reduceAdd, Nat.reduceSub, Nat.reduceLeDiff, Nat.reduceLT, Nat.reduceEqDiff, reduceIte, ↓reduceIte, Nat.reduceBEq, g1, g3, hs, h4]
  refine (get32_r s a (p + 4 : Nat) ha (by omega)).use ?_
  rw [hg]
  simp only [XX, CC, YY, Nat.reduceAdd, Nat.reduceSub, Nat.reduceLeDiff, Nat.reduceLT, Nat.reduceEqDiff, reduceIte, ↓reduceIte, Nat.reduceBEq, g1, g3, g4, g5]
set_option maxHeartbeats 1000000 in
theorem fr_3 (e : Env) (s : St) (a : ByteArray) (p g g' : Nat) (o o' : Bool) (hg : g < 4294967296) (g1 : e.get 1 = .ptr 0 0) (g3 : e.get 3 = .int .i64 p) (g4 : e.get 4 = .int .u32 g) (g5 : e.get 5 = .bool o) (g6 : e.get 6 = .int .u32 g') (g7 : e.get 7 = .bool o') :
    opsA (Run T0) fq3 e s fun e' s' => s' = s ∧ e'.get 1 = .ptr 0 0 ∧ e'.get 3 = .int .i64 p ∧ e'.get 4 = .int .u32 g ∧ e'.get 5 = .bool o ∧ e'.get 6 = .int .u32 g' ∧ e'.get 7 = .bool o' ∧ e'.get 33 = .bool (!(o && o' && decide (1 ≤ (g : Int) ∧ (g : Int) ≤ 65536))) := by
  have hw : IntKind.i64.wrap (g : Int) = (g : Int) := w64_in (by omega) (by omega)
  cases o with
  | false =>
    simp only [fq3, fqY, RC.fa, RC.fb, RC.fi, RC.ops, r_wal_frames_1, XX, CC, YY, Nat.reduceAdd, Nat.reduceSub, Nat.reduceLeDiff, Nat.reduceLT, Nat.reduceEqDiff, reduceIte, ↓reduceIte, Nat.reduceBEq, g1, g3, g4, g5, g6, g7, Bool.not_false, gv_ft]
    rfl
  | true =>
    cases o' with
    | false =>
      simp only [fq3, fqY, RC.fa, RC.fb, RC.fi, RC.ops, r_wal_frames_1, XX, CC, YY, Nat.reduceAdd, Nat.reduceSub, Nat.reduceLeDiff, Nat.reduceLT, Nat.reduceEqDiff, reduceIte, ↓reduceIte, Nat.reduceBEq, g1, g3, g4, g5, g6, g7, Bool.not_false, Bool.not_true, gv_ft, gv_ff]
      rfl
    | true =>
      simp only [fq3, fqY, RC.fa, RC.fb, RC.fi, RC.ops, r_wal_frames_1, XX, CC, YY, Nat.reduceAdd, Nat.reduceSub, Nat.reduceLeDiff, Nat.reduceLT, Nat.reduceEqDiff, reduceIte, ↓reduceIte, Nat.reduceBEq, g1, g3, g4, g5, g6, g7, Bool.not_false, Bool.not_true, gv_ft, gv_ff, hw]
      refine (isrec_r s g).use ?_
      simp only [XX, CC, YY, Nat.reduceAdd, Nat.reduceSub, Nat.reduceLeDiff, Nat.reduceLT, Nat.reduceEqDiff, reduceIte, ↓reduceIte, Nat.reduceBEq, g1, g3, g4, g5, g6, g7, Bool.not_false, Bool.not_true, gv_ft, gv_ff, Bool.true_and]
set_option maxHeartbeats 1000000 in
theorem fr_4 (e : Env) (s : St) (a x : ByteArray) (p g g' : Nat) (o : Bool) (ha : a.size < 1000000000) (hp : p < 2000000000) (hgl : g < 4294967296) (g1 : e.get 1 = .ptr 0 0) (g3 : e.get 3 = .int .i64 p) (g4 : e.get 4 = .int .u32 g) (g6 : e.get 6 = .int .u32 g') (hs : ldA s none (.ptr 0 0) = some (.str a)) (hc : cutA a (p + 8 : Nat) g = .tup [.str x, .bool o]) :
    opsA (Run T0) fq4 e s fun e' s' => s' = s ∧ e'.get 1 = .ptr 0 0 ∧ e'.get 3 = .int .i64 p ∧ e'.get 5 = .bool o ∧ e'.get 6 = .int .u32 g' ∧ e'.get 8 = .str x := by
  have h8 : IntKind.i64.wrap ((p : Int) + 8) = ((p + 8 : Nat) : Int) := by rw [w64_in (by omega) (by omega)]; omega
  have hw : IntKind.i64.wrap (g : Int) = (g : Int) := w64_in (by omega) (by omega)
  simp only [fq4, fqY, RC.fa, RC.fb, RC.fi, RC.ops, r_wal_frames_1, XX, CC, YY, Nat.reduceAdd, Nat.reduceSub, Nat.reduceLeDiff, Nat.reduceLT, Nat.reduceEqDiff, reduceIte, ↓reduceIte, Nat.reduceBEq, g1, g3, g4, hs, h8, hw]
  refine (cut_r s a (p + 8 : Nat) g ha (by omega) (by omega)).use ?_
  rw [hc]
  simp only [XX, CC, YY, Nat.reduceAdd, Nat.reduceSub, Nat.reduceLeDiff, Nat.reduceLT, Nat.reduceEqDiff, reduceIte, ↓reduceIte, Nat.reduceBEq, g1, g3, g6]
set_option maxHeartbeats 1000000 in
/-- The last test fails ahead of yield. -/
theorem fr_5n (e : Env) (s : St) (x : ByteArray) (p g' : Nat) (o : Bool) (hx : o = true → x.size < 1000000000) (g1 : e.get 1 = .ptr 0 0) (g3 : e.get 3 = .int .i64 p) (g5 : e.get 5 = .bool o) (g6 : e.get 6 = .int .u32 g') (g8 : e.get 8 = .str x) (hb : o = true → ¬ crcV x = g') :
    opsA (Run T0) fq5 e s fun e' s' => s' = s ∧ e'.get 56 = .bool true := by
  cases o with
  | false =>
    simp only [fq5, fqY, RC.fa, RC.fb, RC.fi, RC.ops, r_wal_frames_1, XX, CC, YY, Nat.reduceAdd, Nat.reduceSub, Nat.reduceLeDiff, Nat.reduceLT, Nat.reduceEqDiff, reduceIte, ↓reduceIte, Nat.reduceBEq, g1, g3, g5, g6, g8, Bool.not_false, gv_ft]
  | true =>
    have e1 : (((crcV x : Nat) : Int) == ((g' : Nat) : Int)) = false := by have := hb rfl; simp; omega
    simp only [fq5, fqY, RC.fa, RC.fb, RC.fi, RC.ops, r_wal_frames_1, XX, CC, YY, Nat.reduceAdd, Nat.reduceSub, Nat.reduceLeDiff, Nat.reduceLT, Nat.reduceEqDiff, reduceIte, ↓reduceIte, Nat.reduceBEq, g1, g3, g5, g6, g8, Bool.not_true, gv_ff]
    refine (crc_r s x (hx rfl)).use ?_
    simp only [XX, CC, YY, Nat.reduceAdd, Nat.reduceSub, Nat.reduceLeDiff, Nat.reduceLT, Nat.reduceEqDiff, reduceIte, ↓reduceIte, Nat.reduceBEq, g1, g3, g5, g6, g8, Bool.not_true, gv_ff, gv_ft, e1, Bool.not_false]
set_option maxHeartbeats 1000000 in
/-- The last test up to yield. -/
theorem fr_5y (e : Env) (s : St) (x : ByteArray) (p g' : Nat) (hx : x.size < 1000000000) (g1 : e.get 1 = .ptr 0 0) (g3 : e.get 3 = .int .i64 p) (g5 : e.get 5 = .bool true) (g6 : e.get 6 = .int .u32 g') (g8 : e.get 8 = .str x) (hb : crcV x = g') :
    opsA (Run T0) ((fq5.drop 0).take 9) e s fun e' s' => s' = s ∧ e'.get 1 = .ptr 0 0 ∧ e'.get 3 = .int .i64 p ∧ e'.get 8 = .str x ∧ e'.get 51 = .bool false := by
  have e1 : (((crcV x : Nat) : Int) == ((g' : Nat) : Int)) = true := by simp [hb]
  have e2 : (fq5.drop 0).take 9 = fq5.take 9 := rfl
  rw [e2]
  simp only [fq5, fqY, RC.fa, RC.fb, RC.fi, RC.ops, r_wal_frames_1, List.take_succ_cons, List.take_zero, XX, CC, YY, Nat.reduceAdd, Nat.reduceSub, Nat.reduceLeDiff, Nat.reduceLT, Nat.reduceEqDiff, reduceIte, ↓reduceIte, Nat.reduceBEq, g1, g3, g5, g6, g8, Bool.not_true, gv_ff]
  refine (crc_r s x hx).use ?_
  simp only [XX, CC, YY, Nat.reduceAdd, Nat.reduceSub, Nat.reduceLeDiff, Nat.reduceLT, Nat.reduceEqDiff, reduceIte, ↓reduceIte, Nat.reduceBEq, g1, g3, g5, g6, g8, Bool.not_true, gv_ff, gv_ft, e1, Bool.not_false]
set_option maxHeartbeats 1000000 in
/-- Behind yield. -/
theorem fr_5z (e : Env) (s : St) (b : Bool) (g51 : e.get 51 = .bool false) (g54 : e.get 54 = .bool b) :
    opsA (Run T0) ((fq5.drop 12).take 2) e s fun e' s' => s' = s ∧ e'.get 1 = e.get 1 ∧ e'.get 3 = e.get 3 ∧ e'.get 8 = e.get 8 ∧ e'.get 56 = .bool (!b) := by
  simp only [fq5, fqY, RC.fa, RC.fb, RC.fi, RC.ops, r_wal_frames_1, List.drop_succ_cons, List.drop_zero, List.take_succ_cons, List.take_zero, XX, CC, YY, Nat.reduceAdd, Nat.reduceSub, Nat.reduceLeDiff, Nat.reduceLT, Nat.reduceEqDiff, reduceIte, ↓reduceIte, Nat.reduceBEq, g51, g54, gv_ff]
theorem fr_6 (e : Env) (s : St) (x : ByteArray) (p : Nat) (hp : p + 8 + x.size < 1000000000) (g1 : e.get 1 = .ptr 0 0) (g3 : e.get 3 = .int .i64 p) (g8 : e.get 8 = .str x) :
    opsA (Run T0) fq6 e s fun e' s' => s' = s ∧ e'.get 1 = .ptr 0 0 ∧ e'.get 3 = .int .i64 (p + 8 + x.size : Nat) := by
  have w1 : IntKind.i64.wrap ((8 : Int) + (x.size : Int)) = ((8 + x.size : Nat) : Int) := by rw [w64_in (by omega) (by omega)]; omega
  have w2 : IntKind.i64.wrap ((p : Int) + ((8 + x.size : Nat) : Int)) = ((p + 8 + x.size : Nat) : Int) := by rw [w64_in (by omega) (by omega)]; omega
  simp only [fq6, fqY, RC.fa, RC.fb, RC.fi, RC.ops, r_wal_frames_1, XX, CC, YY, Nat.reduceAdd, Nat.reduceSub, Nat.reduceLeDiff, Nat.reduceLT, Nat.reduceEqDiff, reduceIte, ↓reduceIte, Nat.reduceBEq, g1, g3, g8, w1, w2]
theorem fr_0 (e : Env) (s : St) (g1 : e.get 1 = .ptr 0 0) : opsA (Run T0) fq0 e s fun e' s' => s' = s ∧ e'.get 1 = .ptr 0 0 ∧ e'.get 3 = .int .i64 (0 : Nat) := by
  simp only [fq0, RC.fa, RC.ops, r_wal_frames_1, XX, CC, YY, Nat.reduceAdd, Nat.reduceSub, Nat.reduceLeDiff, Nat.reduceLT, Nat.reduceEqDiff, reduceIte, ↓reduceIte, Nat.reduceBEq, g1]
  rfl
end Go.Ev
