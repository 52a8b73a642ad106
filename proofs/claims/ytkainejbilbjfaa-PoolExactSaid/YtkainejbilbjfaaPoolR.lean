import Derived.Test.YtkainejbilbjfaaPoolG
/-! The reference's Up by one, and Mod. -/
namespace Go.Ev
set_option linter.unusedVariables false
set_option linter.unusedSimpArgs false
open Go.Ev.Sp

theorem up_bit (a i : Nat) (hi : i + 1 < 128) : bitN (2 * a % 340282366920938463463374607431768211456) i = bitN a (i + 1) := by
  unfold bitN
  have e1 : (340282366920938463463374607431768211456 : Nat) = 2 ^ (127 - i) * 2 ^ (i + 1) := by rw [← Nat.pow_add, show 127 - i + (i + 1) = 128 by omega]
  rw [e1, Nat.mod_mul_right_div_self, Nat.mod_mod_of_dvd _ ⟨2 ^ i, by rw [Nat.pow_succ, Nat.mul_comm]⟩]
  rw [show 127 - i = 127 - (i + 1) + 1 by omega, Nat.pow_succ, Nat.mul_comm _ 2, ← Nat.div_div_eq_div_mul, Nat.mul_div_cancel_left _ (by decide)]
theorem top_step (A i : Nat) (hi : i < 128) : A / 2 ^ (127 - i) * 2 ^ (127 - i) = A / 2 ^ (128 - i) * 2 ^ (128 - i) + bitN A i * 2 ^ (127 - i) ∧ A / 2 ^ (127 - i) = 2 * (A / 2 ^ (128 - i)) + bitN A i := by
  have e : 2 ^ (128 - i) = 2 ^ (127 - i) * 2 := by rw [show 128 - i = 127 - i + 1 by omega, Nat.pow_succ]
  have h2 : A / 2 ^ (127 - i) = 2 * (A / 2 ^ (128 - i)) + bitN A i := by
    unfold bitN
    rw [e, ← Nat.div_div_eq_div_mul]; omega
  refine ⟨?_, h2⟩
  rw [h2, e, Nat.add_mul, Nat.mul_comm (2 ^ (127 - i)) 2, ← Nat.mul_assoc, Nat.mul_comm (A / _) 2]
theorem top_bit (A i : Nat) (hi : i < 128) : bitN (A / 2 ^ (128 - i) * 2 ^ (128 - i)) i = 0 := by
  unfold bitN
  rw [show 128 - i = 127 - i + 1 by omega, Nat.pow_succ, Nat.mul_comm (2 ^ (127 - i)) 2, ← Nat.mul_assoc, Nat.mul_div_cancel _ (Nat.two_pow_pos _), Nat.mul_mod_left]
theorem top_lt (A i : Nat) (hA : A < 340282366920938463463374607431768211456) : A / 2 ^ (128 - i) * 2 ^ (128 - i) < 340282366920938463463374607431768211456 := Nat.lt_of_le_of_lt (Nat.div_mul_le_self _ _) hA

set_option maxHeartbeats 4000000 in
theorem rup1_r (s : St) (a : Nat) (ha : a < 340282366920938463463374607431768211456) : RunD T f_r01_Up [aA a, .int .i64 1] s (aA (2 * a % 340282366920938463463374607431768211456)) s := by
  refine run_body (F := r_r01_Up) rfl (by simp [r_r01_Up]) ?_
  have hAw : 2 * a % 340282366920938463463374607431768211456 < 340282366920938463463374607431768211456 := Nat.mod_lt _ (by decide)
  obtain ⟨A, hA⟩ : ∃ A, A = 2 * a % 340282366920938463463374607431768211456 := ⟨_, rfl⟩
  rw [← hA] at hAw
  have hev : A % 2 = 0 := by rw [hA]; omega
  have hbits : ∀ i, i + 1 < 128 → bitN A i = bitN a (i + 1) := fun i hi => by rw [hA]; exact up_bit a i hi
  rw [← hA]
  simp only [r_r01_Up, XX, CC, Nat.reduceAdd, Nat.reduceSub, Nat.reduceLeDiff, Nat.reduceLT, Nat.reduceEqDiff, reduceIte, ↓reduceIte, Nat.reduceBEq, dec_f (show ¬ (1 : Int) < 0 by decide)]
  refine awp_rounds (fun d e t => Ext s t ∧ t[s.length]? = some (.cells true (cA a)) ∧ t[s.length + 1]? = some (.cells true (cA 0)) ∧ ∃ i : Nat, t[s.length + 2]? = some (.cells true (cA (A / 2 ^ (128 - i) * 2 ^ (128 - i)))) ∧
    i + d = 127 ∧ e.get 1 = .int .i64 1 ∧ e.get 2 = .ptr s.length 0 ∧ e.get 4 = .ptr (s.length + 1) 0 ∧ e.get 5 = .ptr (s.length + 2) 0 ∧ e.get 6 = .int .i64 i) 127 ?_ ?_
  · refine ⟨⟨_, rfl⟩, by simp, by simp; rfl, 0, ?_, by omega, ?_, ?_, ?_, ?_, ?_⟩ <;> (try simp only [XX, CC, Nat.reduceAdd, Nat.reduceSub, Nat.reduceLeDiff, Nat.reduceLT, Nat.reduceEqDiff, reduceIte, ↓reduceIte, Nat.reduceBEq])
    · rw [show A / 2 ^ (128 - 0) = 0 from Nat.div_eq_of_lt hAw, Nat.zero_mul]; simp; rfl
    · rfl
  rintro J d e t hJ ⟨hx, ba, b0, i, bo, hi, g1, g2, g4, g5, g6⟩
  have ka := blkA ba
  have ko := blkA bo
  have htl : s.length + 2 < t.length := (List.getElem?_eq_some_iff.1 bo).1
  have hwi : IntKind.i64.wrap ((i : Int) + 1) = ((i + 1 : Nat) : Int) := w64_nat (by omega)
  cases d with
  | zero =>
    have hi127 : i = 127 := by omega
    subst hi127
    have hfin : A / 2 ^ (128 - 127) * 2 ^ (128 - 127) = A := by simp; omega
    rw [hfin] at bo ko
    simp only [XX, CC, Nat.reduceAdd, Nat.reduceSub, Nat.reduceLeDiff, Nat.reduceLT, Nat.reduceEqDiff, reduceIte, ↓reduceIte, Nat.reduceBEq, g1, g2, g4, g5, g6, hwi, dec_t (show ((127 : Nat) : Int) < 128 by decide), dec_t (show (1 : Int) < 128 by decide), dec_f (show ¬ ((127 + 1 : Nat) : Int) < 128 by decide), ko, wr_A b0, blkA (key_set (t := t) (b := s.length + 1) (x := .cells true (cA A)) (by omega))]
    exact ret_drop (hx.set (by omega) _) rfl ⟨rfl, rfl⟩
  | succ d =>
    have hb := hbits i (by omega)
    have hlt := bitN_lt A i
    obtain ⟨st, _⟩ := top_step A i (by omega)
    rcases (show bitN A i = 0 ∨ bitN A i = 1 by omega) with hc | hc
    · have c1 : (((bitN a (i + 1) : Nat) : Int) == 1) = false := by rw [← hb, hc]; rfl
      simp only [XX, CC, Nat.reduceAdd, Nat.reduceSub, Nat.reduceLeDiff, Nat.reduceLT, Nat.reduceEqDiff, reduceIte, ↓reduceIte, Nat.reduceBEq, g1, g2, g4, g5, g6, hwi, dec_t (show (i : Int) < 128 by omega), dec_t (show (1 : Int) < 128 by decide), dec_t (show ((i + 1 : Nat) : Int) < 128 by omega), ka]
      refine (bit_r _ a (i + 1) (by omega) ha).use ?_
      simp only [XX, CC, Nat.reduceAdd, Nat.reduceSub, Nat.reduceLeDiff, Nat.reduceLT, Nat.reduceEqDiff, reduceIte, ↓reduceIte, Nat.reduceBEq, c1, g6, hwi]
      refine hJ d _ _ (by omega) ⟨hx, ba, b0, i + 1, ?_, by omega, ?_, ?_, ?_, ?_, ?_⟩ <;> (try simp only [XX, CC, Nat.reduceAdd, Nat.reduceSub, Nat.reduceLeDiff, Nat.reduceLT, Nat.reduceEqDiff, reduceIte, ↓reduceIte, Nat.reduceBEq, g1, g2, g4, g5])
      rw [show 128 - (i + 1) = 127 - i by omega, st, hc, Nat.zero_mul, Nat.add_zero]; exact bo
    · have c1 : (((bitN a (i + 1) : Nat) : Int) == 1) = true := by rw [← hb, hc]; rfl
      simp only [XX, CC, Nat.reduceAdd, Nat.reduceSub, Nat.reduceLeDiff, Nat.reduceLT, Nat.reduceEqDiff, reduceIte, ↓reduceIte, Nat.reduceBEq, g1, g2, g4, g5, g6, hwi, dec_t (show (i : Int) < 128 by omega), dec_t (show (1 : Int) < 128 by decide), dec_t (show ((i + 1 : Nat) : Int) < 128 by omega), ka]
      refine (bit_r _ a (i + 1) (by omega) ha).use ?_
      simp only [XX, CC, Nat.reduceAdd, Nat.reduceSub, Nat.reduceLeDiff, Nat.reduceLT, Nat.reduceEqDiff, reduceIte, ↓reduceIte, Nat.reduceBEq, c1, g5, g6, ko]
      refine (with_r _ _ i (by omega) (top_lt A i hAw) (top_bit A i (by omega))).use ?_
      simp only [XX, CC, Nat.reduceAdd, Nat.reduceSub, Nat.reduceLeDiff, Nat.reduceLT, Nat.reduceEqDiff, reduceIte, ↓reduceIte, Nat.reduceBEq, g5, g6, hwi, wr_A bo]
      refine hJ d _ _ (by omega) ⟨hx.set (by omega) _, ?_, ?_, i + 1, ?_, by omega, ?_, ?_, ?_, ?_, ?_⟩ <;> (try simp only [XX, CC, Nat.reduceAdd, Nat.reduceSub, Nat.reduceLeDiff, Nat.reduceLT, Nat.reduceEqDiff, reduceIte, ↓reduceIte, Nat.reduceBEq, g1, g2, g4, g5])
      · rw [set_at ba (by omega)]
      · rw [set_at b0 (by omega)]
      · rw [key_set (by omega), show 128 - (i + 1) = 127 - i by omega, st, hc, Nat.one_mul]

def modC : RC := r_r01_Mod.body.snd.snd.snd.fst.snd.inn.inn.snd.fst.inn.snd.snd.snd
def modB (TAIL : RC) : RC :=
  let b := r_r01_Mod.body
  let w := b.snd.snd.snd
  let l := w.fst.snd.inn.inn
  let c := l.snd.fst.inn
  .seq b.fst (.seq b.snd.fst (.seq b.snd.snd.fst (.seq (.seq w.fst.fst (.block 0 (.loop (.seq l.fst (.seq (.block 1 (.seq c.fst (.seq c.snd.fst (.seq c.snd.snd.fst TAIL)))) l.snd.snd))))) w.snd)))
set_option maxHeartbeats 4000000 in
theorem mod_fin (s t : St) (e : Env) (Q : XE → Env → St → Prop) (a b r u i bit : Nat) (high : Bool) (hb : b < 340282366920938463463374607431768211456) (hrb : r < b) (hbit : bit < 2) (hu : u = 2 * r % 340282366920938463463374607431768211456 + bit) (huM : u < 340282366920938463463374607431768211456) (hh : high = decide (170141183460469231731687303715884105728 ≤ r))
    (hx : Ext s t) (ba : t[s.length]? = some (.cells true (cA a))) (bb : t[s.length + 1]? = some (.cells true (cA b))) (b0 : t[s.length + 2]? = some (.cells true (cA 0))) (bu : t[s.length + 3]? = some (.cells true (cA u)))
    (g2 : e.get 2 = .ptr s.length 0) (g3 : e.get 3 = .ptr (s.length + 1) 0) (g4 : e.get 4 = .ptr (s.length + 2) 0) (g6 : e.get 6 = .ptr (s.length + 3) 0) (g7 : e.get 7 = .int .i64 i) (g8 : e.get 8 = .bool high)
    (hK : ∀ e' t', Ext s t' → t'[s.length]? = some (.cells true (cA a)) → t'[s.length + 1]? = some (.cells true (cA b)) → t'[s.length + 2]? = some (.cells true (cA 0)) → t'[s.length + 3]? = some (.cells true (cA ((2 * r + bit) % b))) →
      e'.get 2 = .ptr s.length 0 → e'.get 3 = .ptr (s.length + 1) 0 → e'.get 4 = .ptr (s.length + 2) 0 → e'.get 6 = .ptr (s.length + 3) 0 → e'.get 7 = .int .i64 i → Q .nrm e' t') :
    awp (Run T) modC Q e t := by
  have kb := blkA bb
  have ku := blkA bu
  have htl : s.length + 3 < t.length := (List.getElem?_eq_some_iff.1 bu).1
  have sub : b ≤ 2 * r + bit → (u + 340282366920938463463374607431768211456 - b) % 340282366920938463463374607431768211456 = (2 * r + bit) % b := fun h => by
    have : (2 * r + bit) % b = 2 * r + bit - b := by rw [Nat.mod_eq_sub_mod h, Nat.mod_eq_of_lt (by omega)]
    rw [this]; omega
  cases high with
  | true =>
    have h1 : 170141183460469231731687303715884105728 ≤ r := by simpa using hh.symm
    simp only [modC, r_r01_Mod, RC.fst, RC.snd, RC.inn, XX, CC, Nat.reduceAdd, Nat.reduceSub, Nat.reduceLeDiff, Nat.reduceLT, Nat.reduceEqDiff, reduceIte, ↓reduceIte, Nat.reduceBEq, g2, g3, g4, g6, g7, g8, ku, kb]
    refine (rsub_r _ u b huM hb).use ?_
    rw [sub (by omega)]
    simp only [XX, CC, Nat.reduceAdd, Nat.reduceSub, Nat.reduceLeDiff, Nat.reduceLT, Nat.reduceEqDiff, reduceIte, ↓reduceIte, Nat.reduceBEq, g6, wr_A bu]
    refine hK _ _ (hx.set (by omega) _) ?_ ?_ ?_ ?_ ?_ ?_ ?_ ?_ ?_ <;> (try simp only [XX, CC, Nat.reduceAdd, Nat.reduceSub, Nat.reduceLeDiff, Nat.reduceLT, Nat.reduceEqDiff, reduceIte, ↓reduceIte, Nat.reduceBEq, g2, g3, g4, g6, g7])
    · rw [set_at ba (by omega)]
    · rw [set_at bb (by omega)]
    · rw [set_at b0 (by omega)]
    · exact key_set htl
  | false =>
    have h1 : ¬ 170141183460469231731687303715884105728 ≤ r := by simpa using hh.symm
    have hu2 : u = 2 * r + bit := by omega
    by_cases hc : b ≤ u
    · simp only [modC, r_r01_Mod, RC.fst, RC.snd, RC.inn, XX, CC, Nat.reduceAdd, Nat.reduceSub, Nat.reduceLeDiff, Nat.reduceLT, Nat.reduceEqDiff, reduceIte, ↓reduceIte, Nat.reduceBEq, g2, g3, g4, g6, g7, g8, ku, kb]
      refine (rcmp_r _ u b huM hb).use ?_
      simp only [cmpN_dge, dec_t hc, XX, CC, Nat.reduceAdd, Nat.reduceSub, Nat.reduceLeDiff, Nat.reduceLT, Nat.reduceEqDiff, reduceIte, ↓reduceIte, Nat.reduceBEq, g6, g3, ku, kb]
      refine (rsub_r _ u b huM hb).use ?_
      rw [sub (by omega)]
      simp only [XX, CC, Nat.reduceAdd, Nat.reduceSub, Nat.reduceLeDiff, Nat.reduceLT, Nat.reduceEqDiff, reduceIte, ↓reduceIte, Nat.reduceBEq, g6, wr_A bu]
      refine hK _ _ (hx.set (by omega) _) ?_ ?_ ?_ ?_ ?_ ?_ ?_ ?_ ?_ <;> (try simp only [XX, CC, Nat.reduceAdd, Nat.reduceSub, Nat.reduceLeDiff, Nat.reduceLT, Nat.reduceEqDiff, reduceIte, ↓reduceIte, Nat.reduceBEq, g2, g3, g4, g6, g7])
      · rw [set_at ba (by omega)]
      · rw [set_at bb (by omega)]
      · rw [set_at b0 (by omega)]
      · exact key_set htl
    · simp only [modC, r_r01_Mod, RC.fst, RC.snd, RC.inn, XX, CC, Nat.reduceAdd, Nat.reduceSub, Nat.reduceLeDiff, Nat.reduceLT, Nat.reduceEqDiff, reduceIte, ↓reduceIte, Nat.reduceBEq, g2, g3, g4, g6, g7, g8, ku, kb]
      refine (rcmp_r _ u b huM hb).use ?_
      simp only [cmpN_dge, dec_f hc, XX, CC, Nat.reduceAdd, Nat.reduceSub, Nat.reduceLeDiff, Nat.reduceLT, Nat.reduceEqDiff, reduceIte, ↓reduceIte, Nat.reduceBEq, g6, g3]
      refine hK _ _ hx ba bb b0 ?_ ?_ ?_ ?_ ?_ ?_ <;> (try simp only [XX, CC, Nat.reduceAdd, Nat.reduceSub, Nat.reduceLeDiff, Nat.reduceLT, Nat.reduceEqDiff, reduceIte, ↓reduceIte, Nat.reduceBEq, g2, g3, g4, g6, g7])
      rw [Nat.mod_eq_of_lt (by omega), ← hu2]; exact bu

set_option maxHeartbeats 8000000 in
/-- tenancyref01.Mod -/
theorem rmod_r (s : St) (a b : Nat) (ha : a < 340282366920938463463374607431768211456) (hb : b < 340282366920938463463374607431768211456) : RunD T f_r01_Mod [aA a, aA b] s (if b = 0 then .tup [aA 0, .bool false] else .tup [aA (a % b), .bool true]) s := by
  refine run_body (F := r_r01_Mod) rfl (by simp [r_r01_Mod]) ?_
  have kB := fun x l => (blkA (t := s ++ (x :: .cells true (cA b) :: l)) (b := s.length + 1) (q := b) (by simp)).1
  by_cases h0 : b = 0
  · rw [if_pos h0]
    simp only [r_r01_Mod, XX, CC, Nat.reduceAdd, Nat.reduceSub, Nat.reduceLeDiff, Nat.reduceLT, Nat.reduceEqDiff, reduceIte, ↓reduceIte, Nat.reduceBEq, eq_A0, dec_t h0]
    exact ret_drop ⟨_, rfl⟩ rfl ⟨rfl, rfl⟩
  rw [if_neg h0]
  obtain ⟨TAIL, hT⟩ : ∃ c, c = modC := ⟨_, rfl⟩
  have hfin := mod_fin
  rw [← hT] at hfin
  have hbody : r_r01_Mod.body = modB TAIL := by rw [hT]; rfl
  rw [hbody]
  simp only [modB, RC.fst, RC.snd, RC.inn, r_r01_Mod, XX, CC, Nat.reduceAdd, Nat.reduceSub, Nat.reduceLeDiff, Nat.reduceLT, Nat.reduceEqDiff, reduceIte, ↓reduceIte, Nat.reduceBEq, eq_A0, dec_f h0]
  refine awp_rounds (fun d e t => Ext s t ∧ t[s.length]? = some (.cells true (cA a)) ∧ t[s.length + 1]? = some (.cells true (cA b)) ∧ t[s.length + 2]? = some (.cells true (cA 0)) ∧ ∃ i : Nat, t[s.length + 3]? = some (.cells true (cA (a / 2 ^ (128 - i) % b))) ∧
    i + d = 128 ∧ e.get 2 = .ptr s.length 0 ∧ e.get 3 = .ptr (s.length + 1) 0 ∧ e.get 4 = .ptr (s.length + 2) 0 ∧ e.get 6 = .ptr (s.length + 3) 0 ∧ e.get 7 = .int .i64 i) 128 ?_ ?_
  · refine ⟨⟨_, rfl⟩, by simp, by simp, by simp; rfl, 0, ?_, by omega, ?_, ?_, ?_, ?_, ?_⟩ <;> (try simp only [XX, CC, Nat.reduceAdd, Nat.reduceSub, Nat.reduceLeDiff, Nat.reduceLT, Nat.reduceEqDiff, reduceIte, ↓reduceIte, Nat.reduceBEq])
    · rw [show a / 2 ^ (128 - 0) = 0 from Nat.div_eq_of_lt ha, Nat.zero_mod]; simp; rfl
    · rfl
  rintro J d e t hJ ⟨hx, ba, bb, b0, i, br, hi, g2, g3, g4, g6, g7⟩
  have ka := blkA ba
  have kb := blkA bb
  have kr := blkA br
  have htl : s.length + 3 < t.length := (List.getElem?_eq_some_iff.1 br).1
  cases d with
  | zero =>
    have hi128 : i = 128 := by omega
    subst hi128
    have hfin : a / 2 ^ (128 - 128) % b = a % b := by simp
    rw [hfin] at br kr
    simp only [XX, CC, Nat.reduceAdd, Nat.reduceSub, Nat.reduceLeDiff, Nat.reduceLT, Nat.reduceEqDiff, reduceIte, ↓reduceIte, Nat.reduceBEq, g2, g3, g4, g6, g7, dec_f (show ¬ ((128 : Nat) : Int) < 128 by decide), kr, wr_A b0, blkA (key_set (t := t) (b := s.length + 2) (x := .cells true (cA (a % b))) (by omega))]
    exact ret_drop (hx.set (by omega) _) rfl ⟨rfl, rfl⟩
  | succ d =>
    obtain ⟨_, st⟩ := top_step a i (by omega)
    have hlt := bitN_lt a i
    have hrb : a / 2 ^ (128 - i) % b < b := Nat.mod_lt _ (by omega)
    have hnext : a / 2 ^ (128 - (i + 1)) % b = (2 * (a / 2 ^ (128 - i) % b) + bitN a i) % b := by
      rw [show 128 - (i + 1) = 127 - i by omega, st, Nat.add_mod, Nat.mul_mod, Nat.add_mod (2 * _), Nat.mul_mod 2 (_ % b), Nat.mod_mod]
    have hwi : IntKind.i64.wrap ((i : Int) + 1) = ((i + 1 : Nat) : Int) := w64_nat (by omega)
    generalize a / 2 ^ (128 - i) % b = r at br kr hrb hnext
    have hrM : r < 340282366920938463463374607431768211456 := by omega
    have hUw : 2 * r % 340282366920938463463374607431768211456 < 340282366920938463463374607431768211456 := Nat.mod_lt _ (by decide)
    have b127 : bitN (2 * r % 340282366920938463463374607431768211456) 127 = 0 := by unfold bitN; simp <;> omega
    have hh : bitN r 0 = if 170141183460469231731687303715884105728 ≤ r then 1 else 0 := by
      unfold bitN
      rw [show (2 : Nat) ^ (127 - 0) = 170141183460469231731687303715884105728 from rfl]
      split <;> omega
    obtain ⟨u, hu⟩ : ∃ u, u = 2 * r % 340282366920938463463374607431768211456 + bitN a i := ⟨_, rfl⟩
    have huM : u < 340282366920938463463374607431768211456 := by omega
    have hhigh : (((bitN r 0 : Nat) : Int) == 1) = decide (170141183460469231731687303715884105728 ≤ r) := by
      rw [hh]
      by_cases h : 170141183460469231731687303715884105728 ≤ r
      · rw [if_pos h, dec_t h]; rfl
      · rw [if_neg h, dec_f h]; rfl
    have go : ∀ (e : Env) (t : St), Ext s t → t[s.length]? = some (.cells true (cA a)) → t[s.length + 1]? = some (.cells true (cA b)) → t[s.length + 2]? = some (.cells true (cA 0)) → t[s.length + 3]? = some (.cells true (cA u)) →
        e.get 2 = .ptr s.length 0 → e.get 3 = .ptr (s.length + 1) 0 → e.get 4 = .ptr (s.length + 2) 0 → e.get 6 = .ptr (s.length + 3) 0 → e.get 7 = .int .i64 i → e.get 8 = .bool (decide (170141183460469231731687303715884105728 ≤ r)) → ∀ Q : XE → Env → St → Prop,
        (∀ e' t', Ext s t' → t'[s.length]? = some (.cells true (cA a)) → t'[s.length + 1]? = some (.cells true (cA b)) → t'[s.length + 2]? = some (.cells true (cA 0)) → t'[s.length + 3]? = some (.cells true (cA (a / 2 ^ (128 - (i + 1)) % b))) →
          e'.get 2 = .ptr s.length 0 → e'.get 3 = .ptr (s.length + 1) 0 → e'.get 4 = .ptr (s.length + 2) 0 → e'.get 6 = .ptr (s.length + 3) 0 → e'.get 7 = .int .i64 i → Q .nrm e' t') → awp (Run T) TAIL Q e t :=
      fun e t hx ba bb b0 bu g2 g3 g4 g6 g7 g8 Q hK => hfin s t e Q a b r u i (bitN a i) _ hb hrb hlt hu huM rfl hx ba bb b0 bu g2 g3 g4 g6 g7 g8 (by rw [← hnext]; exact hK)
    have last : ∀ e' t', Ext s t' → t'[s.length]? = some (.cells true (cA a)) → t'[s.length + 1]? = some (.cells true (cA b)) → t'[s.length + 2]? = some (.cells true (cA 0)) → t'[s.length + 3]? = some (.cells true (cA (a / 2 ^ (128 - (i + 1)) % b))) →
        e'.get 2 = .ptr s.length 0 → e'.get 3 = .ptr (s.length + 1) 0 → e'.get 4 = .ptr (s.length + 2) 0 → e'.get 6 = .ptr (s.length + 3) 0 → e'.get 7 = .int .i64 (i + 1 : Nat) → J e' t' := fun e' t' x p1 p2 p3 p4 q2 q3 q4 q6 q7 => hJ d e' t' (by omega) ⟨x, p1, p2, p3, i + 1, p4, by omega, q2, q3, q4, q6, q7⟩
    have ku := fun (t : St) (z : Nat) (h : s.length + 3 < t.length) => blkA (key_set (t := t) (b := s.length + 3) (x := .cells true (cA z)) h)
    rcases (show bitN a i = 0 ∨ bitN a i = 1 by omega) with hc | hc
    · have c1 : (((bitN a i : Nat) : Int) == 1) = false := by rw [hc]; rfl
      have hu0 : 2 * r % 340282366920938463463374607431768211456 = u := by omega
      simp only [XX, CC, Nat.reduceAdd, Nat.reduceSub, Nat.reduceLeDiff, Nat.reduceLT, Nat.reduceEqDiff, reduceIte, ↓reduceIte, Nat.reduceBEq, g2, g3, g4, g6, g7, dec_t (show (i : Int) < 128 by omega), kr]
      refine (bit_r _ r 0 (by omega) hrM).use ?_
      simp only [XX, CC, Nat.reduceAdd, Nat.reduceSub, Nat.reduceLeDiff, Nat.reduceLT, Nat.reduceEqDiff, reduceIte, ↓reduceIte, Nat.reduceBEq, hhigh, g2, g3, g4, g6, g7, kr]
      refine (rup1_r _ r hrM).use ?_
      rw [hu0]
      have ka' := blkA (t := t.set (s.length + 3) (.cells true (cA u))) (b := s.length) (q := a) (by rw [set_at ba (by omega)])
      simp only [XX, CC, Nat.reduceAdd, Nat.reduceSub, Nat.reduceLeDiff, Nat.reduceLT, Nat.reduceEqDiff, reduceIte, ↓reduceIte, Nat.reduceBEq, g2, g3, g4, g6, g7, wr_A br, ka']
      refine (bit_r _ a i (by omega) ha).use ?_
      simp only [XX, CC, Nat.reduceAdd, Nat.reduceSub, Nat.reduceLeDiff, Nat.reduceLT, Nat.reduceEqDiff, reduceIte, ↓reduceIte, Nat.reduceBEq, c1]
      refine go _ _ (hx.set (by omega) _) (by rw [set_at ba (by omega)]) (by rw [set_at bb (by omega)]) (by rw [set_at b0 (by omega)]) (key_set htl) ?_ ?_ ?_ ?_ ?_ ?_ _ ?_
      rotate_left 6
      · intro e' t' x p1 p2 p3 p4 q2 q3 q4 q6 q7
        simp only [XX, CC, Nat.reduceAdd, Nat.reduceSub, Nat.reduceLeDiff, Nat.reduceLT, Nat.reduceEqDiff, reduceIte, ↓reduceIte, Nat.reduceBEq, q7, hwi]
        refine last _ _ x p1 p2 p3 p4 ?_ ?_ ?_ ?_ ?_ <;> simp only [XX, CC, Nat.reduceAdd, Nat.reduceSub, Nat.reduceLeDiff, Nat.reduceLT, Nat.reduceEqDiff, reduceIte, ↓reduceIte, Nat.reduceBEq, q2, q3, q4, q6]
      all_goals simp only [XX, CC, Nat.reduceAdd, Nat.reduceSub, Nat.reduceLeDiff, Nat.reduceLT, Nat.reduceEqDiff, reduceIte, ↓reduceIte, Nat.reduceBEq, g2, g3, g4, g6, g7]
    · have c1 : (((bitN a i : Nat) : Int) == 1) = true := by rw [hc]; rfl
      simp only [XX, CC, Nat.reduceAdd, Nat.reduceSub, Nat.reduceLeDiff, Nat.reduceLT, Nat.reduceEqDiff, reduceIte, ↓reduceIte, Nat.reduceBEq, g2, g3, g4, g6, g7, dec_t (show (i : Int) < 128 by omega), kr]
      refine (bit_r _ r 0 (by omega) hrM).use ?_
      simp only [XX, CC, Nat.reduceAdd, Nat.reduceSub, Nat.reduceLeDiff, Nat.reduceLT, Nat.reduceEqDiff, reduceIte, ↓reduceIte, Nat.reduceBEq, hhigh, g2, g3, g4, g6, g7, kr]
      refine (rup1_r _ r hrM).use ?_
      generalize hv : 2 * r % 340282366920938463463374607431768211456 = v at hu hUw b127
      have ka' := blkA (t := t.set (s.length + 3) (.cells true (cA v))) (b := s.length) (q := a) (by rw [set_at ba (by omega)])
      have bv : (t.set (s.length + 3) (.cells true (cA v)))[s.length + 3]? = some (.cells true (cA v)) := key_set htl
      have kv := blkA bv
      simp only [XX, CC, Nat.reduceAdd, Nat.reduceSub, Nat.reduceLeDiff, Nat.reduceLT, Nat.reduceEqDiff, reduceIte, ↓reduceIte, Nat.reduceBEq, g2, g3, g4, g6, g7, wr_A br, ka']
      refine (bit_r _ a i (by omega) ha).use ?_
      simp only [XX, CC, Nat.reduceAdd, Nat.reduceSub, Nat.reduceLeDiff, Nat.reduceLT, Nat.reduceEqDiff, reduceIte, ↓reduceIte, Nat.reduceBEq, c1, g6, kv]
      refine (with_r _ v 127 (by decide) hUw b127).use ?_
      rw [show v + 2 ^ (127 - 127) = u by rw [hu, hc]]
      simp only [XX, CC, Nat.reduceAdd, Nat.reduceSub, Nat.reduceLeDiff, Nat.reduceLT, Nat.reduceEqDiff, reduceIte, ↓reduceIte, Nat.reduceBEq, g6, wr_A bv, List.set_set]
      refine go _ _ (hx.set (by omega) _) (by rw [set_at ba (by omega)]) (by rw [set_at bb (by omega)]) (by rw [set_at b0 (by omega)]) (key_set htl) ?_ ?_ ?_ ?_ ?_ ?_ _ ?_
      rotate_left 6
      · intro e' t' x p1 p2 p3 p4 q2 q3 q4 q6 q7
        simp only [XX, CC, Nat.reduceAdd, Nat.reduceSub, Nat.reduceLeDiff, Nat.reduceLT, Nat.reduceEqDiff, reduceIte, ↓reduceIte, Nat.reduceBEq, q7, hwi]
        refine last _ _ x p1 p2 p3 p4 ?_ ?_ ?_ ?_ ?_ <;> simp only [XX, CC, Nat.reduceAdd, Nat.reduceSub, Nat.reduceLeDiff, Nat.reduceLT, Nat.reduceEqDiff, reduceIte, ↓reduceIte, Nat.reduceBEq, q2, q3, q4, q6]
      all_goals simp only [XX, CC, Nat.reduceAdd, Nat.reduceSub, Nat.reduceLeDiff, Nat.reduceLT, Nat.reduceEqDiff, reduceIte, ↓reduceIte, Nat.reduceBEq, g2, g3, g4, g6, g7]
end Go.Ev
