import Derived.Test.YtkainejbilbjfaaPoolE
/-! addr.Up, addr.Mod of a number below 2^64; pool.Pick. -/
namespace Go.Ev
set_option linter.unusedVariables false
set_option linter.unusedSimpArgs false
open Go.Ev.Sp

theorem shlN {k : IntKind} {x n : Nat} (hn : n ≤ 64) : binA .shl (.int .u64 (x : Int)) (.int k (n : Int)) = some (.int .u64 ((x * 2 ^ n % 18446744073709551616 : Nat) : Int)) := by
  simp only [binA]
  rw [if_neg (by omega), Int.toNat_natCast, Nat.min_eq_left (show n ≤ IntKind.u64.bits from hn)]
  congr 2
theorem shrN {k : IntKind} {x n : Nat} (hn : n ≤ 64) : binA .shr (.int .u64 (x : Int)) (.int k (n : Int)) = some (.int .u64 ((x / 2 ^ n : Nat) : Int)) := by
  have := bin_shr (x := x) hn
  simp only [binA] at this ⊢
  exact this

set_option maxHeartbeats 4000000 in
theorem up_r (t : St) (b n : Nat) (hn : n ≤ 63) (hb : b < 340282366920938463463374607431768211456) (hh : b / 18446744073709551616 * 2 ^ n < 18446744073709551616) (h1 : 18446744073709551616 ≤ b) :
    Run T f_addr_Up [aA b, .int .i64 n] t fun r t' => ∃ f : Nat, r = aA f ∧ t' = t ∧ f < 340282366920938463463374607431768211456 ∧ 18446744073709551616 ≤ f := by
  refine run_body (F := r_addr_Up) rfl (by simp [r_addr_Up]) ?_
  have e0 : aA b = .agg [.int .u64 (H b), .int .u64 (L b)] := rfl
  by_cases c : n ≤ 0
  · have : n = 0 := by omega
    subst this
    simp only [r_addr_Up, XX, CC, Nat.reduceAdd, Nat.reduceSub, Nat.reduceLeDiff, Nat.reduceLT, Nat.reduceEqDiff, reduceIte, ↓reduceIte, Nat.reduceBEq, dec_t (show ((0 : Nat) : Int) ≤ 0 by omega)]
    exact ret_drop ⟨_, rfl⟩ rfl ⟨b, rfl, rfl, hb, h1⟩
  · have hL := Nat.mod_lt b (show 0 < 18446744073709551616 by decide)
    have hx : b / 18446744073709551616 * 2 ^ n % 18446744073709551616 = b / 18446744073709551616 * 2 ^ n := Nat.mod_eq_of_lt hh
    have hw : IntKind.i64.wrap (64 - (n : Int)) = ((64 - n : Nat) : Int) := by rw [w64_in (by omega) (by omega)]; omega
    have hsr : b % 18446744073709551616 / 2 ^ (64 - n) < 18446744073709551616 := Nat.lt_of_le_of_lt (Nat.div_le_self _ _) hL
    have hpos : 0 < 2 ^ n := Nat.two_pow_pos n
    have hge : 1 ≤ b / 18446744073709551616 * 2 ^ n := Nat.le_trans (by omega) (Nat.le_mul_of_pos_right _ hpos)
    have hor := Nat.left_le_or (n := b / 18446744073709551616 * 2 ^ n) (m := b % 18446744073709551616 / 2 ^ (64 - n))
    have hlt := Nat.or_lt_two_pow (n := 64) hh hsr
    have hly := Nat.mod_lt (b % 18446744073709551616 * 2 ^ n) (show 0 < 18446744073709551616 by decide)
    simp only [r_addr_Up, XX, CC, Nat.reduceAdd, Nat.reduceSub, Nat.reduceLeDiff, Nat.reduceLT, Nat.reduceEqDiff, reduceIte, ↓reduceIte, Nat.reduceBEq, dec_f (show ¬ (n : Int) ≤ 0 by omega), dec_f (show ¬ (n : Int) ≥ 64 by omega)]
    refine drw_in [] rfl ?_
    have lh : ∀ l : St, ldA (t ++ (.cells true (cA b) :: l)) none (.ptr t.length 0) = some (.int .u64 (H b)) := fun l => by rw [ld_own (own := true) (cs := cA b) (by simp)]; rfl
    have ll : ∀ l : St, ldA (t ++ (.cells true (cA b) :: l)) none (.ptr t.length 1) = some (.int .u64 (L b)) := fun l => by rw [ld_own (own := true) (cs := cA b) (by simp)]; rfl
    have hH : H b = ((b / 18446744073709551616 : Nat) : Int) := rfl
    have hLb : L b = ((b % 18446744073709551616 : Nat) : Int) := rfl
    simp only [List.append_nil, DD, CC, Nat.reduceAdd, Nat.reduceSub, Nat.reduceLeDiff, Nat.reduceLT, Nat.reduceEqDiff, reduceIte, ↓reduceIte, Nat.reduceBEq, lh, ll, hH, hLb, shlN (show n ≤ 64 by omega), hw, shrN (show 64 - n ≤ 64 by omega), hx, bin_or hh hsr, dr_stX]
    generalize b / 18446744073709551616 * 2 ^ n ||| b % 18446744073709551616 / 2 ^ (64 - n) = x at hor hlt ⊢
    generalize b % 18446744073709551616 * 2 ^ n % 18446744073709551616 = y at hly ⊢
    refine ret_drop ⟨_, rfl⟩ rfl ⟨x * 18446744073709551616 + y, ?_, rfl, by omega, by omega⟩
    show AV.agg _ = AV.agg [.int .u64 (H _), .int .u64 (L _)]
    have : H (x * 18446744073709551616 + y) = x ∧ L (x * 18446744073709551616 + y) = y := by unfold H L; omega
    rw [this.1, this.2]

/-- bits.Div64 where the high word is 0. -/
theorem div64_0 (t : St) (x y : Nat) (hx : x < 18446744073709551616) (hy : y < 18446744073709551616) (h0 : 0 < y) : RunD T f_bits_Div64 [.int .u64 0, .int .u64 x, .int .u64 y] t (.tup [.int .u64 ((x / y : Nat) : Int), .int .u64 ((x % y : Nat) : Int)]) t := by
  refine run_body (F := r_bits_Div64) rfl (by simp [r_bits_Div64]) ?_
  have b1 : ((y : Int) == 0) = false := by simp; omega
  have b2 : ((0 : Int) == 0) = true := rfl
  have hq : binA .quo (.int .u64 (x : Int)) (.int .u64 (y : Int)) = some (.int .u64 ((x / y : Nat) : Int)) := by
    have := Nat.div_le_self x y
    simp only [binA]
    rw [if_pos ⟨trivial, by omega⟩, Int.tdiv_eq_ediv_of_nonneg (by omega), show (x : Int) / (y : Int) = ((x / y : Nat) : Int) from rfl]
    generalize x / y = z at this ⊢
    rw [wu64_in (by omega) (by omega)]
  have hr : binA .rem (.int .u64 (x : Int)) (.int .u64 (y : Int)) = some (.int .u64 ((x % y : Nat) : Int)) := by
    simp only [binA]
    rw [if_pos ⟨trivial, by omega⟩, Int.tmod_eq_emod_of_nonneg (by omega)]; rfl
  simp only [r_bits_Div64, XX, CC, Nat.reduceAdd, Nat.reduceSub, Nat.reduceLeDiff, Nat.reduceLT, Nat.reduceEqDiff, reduceIte, ↓reduceIte, Nat.reduceBEq, b1, b2, dec_f (show ¬ (y : Int) ≤ 0 by omega)]
  refine drw_in [] rfl ?_
  simp only [List.append_nil, DD, CC, Nat.reduceAdd, Nat.reduceSub, Nat.reduceLeDiff, Nat.reduceLT, Nat.reduceEqDiff, reduceIte, ↓reduceIte, Nat.reduceBEq, hq, hr]
  exact ret_drop (.refl _) rfl ⟨rfl, rfl⟩

theorem cA0 (q : Nat) : (cA q)[0]? = some (.int .u64 (H q)) := rfl
theorem cA1 (q : Nat) : (cA q)[1]? = some (.int .u64 (L q)) := rfl
set_option maxHeartbeats 4000000 in
/-- addr.Mod of a number below 2^64 -/
theorem mod_r (t : St) (a b : Nat) (ha : a < 18446744073709551616) (hb : b < 340282366920938463463374607431768211456) : RunD T f_addr_Mod [aA a, aA b] t (if b = 0 then .tup [aA 0, .bool false] else .tup [aA (a % b), .bool true]) t := by
  refine run_body (F := r_addr_Mod) rfl (by simp [r_addr_Mod]) ?_
  have hHa : H a = 0 := by unfold H; omega
  have hLa : L a = a := by unfold L; omega
  have kA := fun l => (blkA (t := t ++ (.cells true (cA a) :: l)) (b := t.length) (q := a) (by simp)).1
  have kB := fun x l => (blkA (t := t ++ (x :: .cells true (cA b) :: l)) (b := t.length + 1) (q := b) (by simp)).1
  have aH := fun (l : St) => show ldA (t ++ (.cells true (cA a) :: l)) none (.ptr t.length 0) = some (.int .u64 (H a)) by rw [ld_own (own := true) (cs := cA a) (by simp)]; rfl
  have aL := fun (l : St) => show ldA (t ++ (.cells true (cA a) :: l)) none (.ptr t.length 1) = some (.int .u64 (L a)) by rw [ld_own (own := true) (cs := cA a) (by simp)]; rfl
  have bH := fun (x : Blk) (l : St) => show ldA (t ++ (x :: .cells true (cA b) :: l)) none (.ptr (t.length + 1) 0) = some (.int .u64 (H b)) by rw [ld_own (own := true) (cs := cA b) (by simp)]; rfl
  have bL := fun (x : Blk) (l : St) => show ldA (t ++ (x :: .cells true (cA b) :: l)) none (.ptr (t.length + 1) 1) = some (.int .u64 (L b)) by rw [ld_own (own := true) (cs := cA b) (by simp)]; rfl
  by_cases h0 : b = 0
  · rw [if_pos h0]
    simp only [r_addr_Mod, XX, CC, Nat.reduceAdd, Nat.reduceSub, Nat.reduceLeDiff, Nat.reduceLT, Nat.reduceEqDiff, reduceIte, ↓reduceIte, Nat.reduceBEq, eq_A0, dec_t h0]
    exact ret_drop ⟨_, rfl⟩ rfl ⟨rfl, rfl⟩
  rw [if_neg h0]
  by_cases hz : b < 18446744073709551616
  · have hHb : H b = 0 := by unfold H; omega
    have hLb : L b = b := by unfold L; omega
    have b2 : ((0 : Int) == 0) = true := rfl
    have hrem : binA .rem (.int .u64 0) (.int .u64 (b : Int)) = some (.int .u64 0) := by
      simp only [binA]
      rw [if_pos ⟨trivial, by omega⟩]; simp
    have hmod : a % b < 18446744073709551616 := Nat.lt_of_lt_of_le (Nat.mod_lt a (by omega)) (by omega)
    simp only [r_addr_Mod, XX, CC, Nat.reduceAdd, Nat.reduceSub, Nat.reduceLeDiff, Nat.reduceLT, Nat.reduceEqDiff, reduceIte, ↓reduceIte, Nat.reduceBEq, eq_A0, dec_f h0, cA0, cA1, hHb, b2]
    refine drw_in [] rfl ?_
    simp only [List.append_nil, DD, CC, Nat.reduceAdd, Nat.reduceSub, Nat.reduceLeDiff, Nat.reduceLT, Nat.reduceEqDiff, reduceIte, ↓reduceIte, Nat.reduceBEq, aH, aL, bH, bL, cA0, cA1, hHa, hLa, hLb, hrem]
    refine dr_call (div64_0 _ a b ha hz (by omega)) ?_
    simp only [DD, CC, Nat.reduceAdd, Nat.reduceSub, Nat.reduceLeDiff, Nat.reduceLT, Nat.reduceEqDiff, reduceIte, ↓reduceIte, Nat.reduceBEq, cA_small hmod]
    exact ret_drop ⟨_, rfl⟩ rfl ⟨rfl, rfl⟩
  · have hHb : H b = ((b / 18446744073709551616 : Nat) : Int) := rfl
    have hH0 : 0 < b / 18446744073709551616 := by omega
    have b2 : (((b / 18446744073709551616 : Nat) : Int) == 0) = false := by simp; omega
    have hab : a % b = a := Nat.mod_eq_of_lt (by omega)
    simp only [r_addr_Mod, XX, CC, Nat.reduceAdd, Nat.reduceSub, Nat.reduceLeDiff, Nat.reduceLT, Nat.reduceEqDiff, reduceIte, ↓reduceIte, Nat.reduceBEq, eq_A0, dec_f h0, cA0, cA1, hHb, b2]
    refine Run.mono _ _ _ _ _ ?_ (lz64_r _ (b / 18446744073709551616) (by omega))
    rintro r t' ⟨k, rfl, rfl, k1, k2, k3⟩
    have k3 := k3 (by omega)
    (try simp only [XX, CC, Nat.reduceAdd, Nat.reduceSub, Nat.reduceLeDiff, Nat.reduceLT, Nat.reduceEqDiff, reduceIte, ↓reduceIte, Nat.reduceBEq])
    obtain ⟨t0, ht0⟩ : ∃ t0, t0 = t ++ [Blk.cells true (cA a), .cells true (cA b), .cells true [AV.int .u64 0, .int .u64 0]] := ⟨_, rfl⟩
    have x0 : Ext t t0 := ⟨_, ht0⟩
    have m0 : t0[t.length]? = some (.cells true (cA a)) := by rw [ht0]; simp
    have m1 : t0[t.length + 1]? = some (.cells true (cA b)) := by rw [ht0]; simp
    have m2 : t0[t.length + 2]? = some (.cells true [AV.int .u64 0, .int .u64 0]) := by rw [ht0]; simp
    rw [← ht0]
    clear ht0
    refine awp_rounds (fun d e t' => Ext t0 t' ∧ (d : Int) - 1 ≤ 63 - (k - 1 : Int) ∧ e.get 8 = .int .i64 ((d : Int) - 1) ∧ e.get 2 = .ptr t.length 0 ∧ e.get 3 = .ptr (t.length + 1) 0 ∧ e.get 4 = .ptr (t.length + 2) 0) (65 - k) ?_ ?_
    · refine ⟨.refl _, by omega, ?_, ?_, ?_, ?_⟩ <;> (try simp only [XX, CC, Nat.reduceAdd, Nat.reduceSub, Nat.reduceLeDiff, Nat.reduceLT, Nat.reduceEqDiff, reduceIte, ↓reduceIte, Nat.reduceBEq])
      congr 1; omega
    rintro J d e t' hJ ⟨hx, hd, g8, g2, g3, g4⟩
    have q0 := blkA (hx.get_some m0)
    have q1 := blkA (hx.get_some m1)
    cases d with
    | zero =>
      have q2 := hx.get_some m2
      simp only [XX, CC, Nat.reduceAdd, Nat.reduceSub, Nat.reduceLeDiff, Nat.reduceLT, Nat.reduceEqDiff, reduceIte, ↓reduceIte, Nat.reduceBEq, g8, g2, g3, g4, dec_f (show ¬ (((0 : Nat) : Int) - 1) ≥ 0 by omega), q0]
      have hw2 : wrA t' (t.length + 2) 0 (cA a) = some (t'.set (t.length + 2) (.cells true (cA a))) := by rw [wr_own q2, if_pos ⟨by simp [cA], cA_cell a⟩]; rfl
      have hl2 := (blkA (t := t'.set (t.length + 2) (.cells true (cA a))) (b := t.length + 2) (q := a) (key_set (List.getElem?_eq_some_iff.1 q2).1)).1
      simp only [hw2, ob_some, hl2, Option.bind_some, one_2]
      rw [hab]
      exact ret_drop ((x0.trans hx).set (by omega) _) rfl ⟨rfl, rfl⟩
    | succ n =>
      have hn1 : (((n + 1 : Nat) : Int) - 1) = (n : Int) := by omega
      have hn63 : n ≤ 63 := by omega
      have hup := up_r t' b n hn63 hb (by
        have : 2 ^ k * 2 ^ n ≤ 2 ^ 64 := by rw [← Nat.pow_add]; exact Nat.pow_le_pow_right (by decide) (by omega)
        have := Nat.mul_lt_mul_of_pos_right k1 (Nat.two_pow_pos n)
        omega) (by omega)
      rw [hn1] at g8
      simp only [XX, CC, Nat.reduceAdd, Nat.reduceSub, Nat.reduceLeDiff, Nat.reduceLT, Nat.reduceEqDiff, reduceIte, ↓reduceIte, Nat.reduceBEq, g8, g2, g3, g4, dec_t (show (n : Int) ≥ 0 by omega), q1]
      refine Run.mono _ _ _ _ _ ?_ hup
      rintro r t2 ⟨f, rfl, rfl, f1, f2⟩
      have hf := fun l => (blkA (t := t2 ++ (.cells true (cA f) :: l)) (b := t2.length) (q := f) (by simp)).1
      simp only [XX, CC, Nat.reduceAdd, Nat.reduceSub, Nat.reduceLeDiff, Nat.reduceLT, Nat.reduceEqDiff, reduceIte, ↓reduceIte, Nat.reduceBEq, g2, q0, hf]
      refine (cmp_r _ a f).use ?_
      simp only [cmpN_dge, dec_f (show ¬ f ≤ a by omega), XX, CC, Nat.reduceAdd, Nat.reduceSub, Nat.reduceLeDiff, Nat.reduceLT, Nat.reduceEqDiff, reduceIte, ↓reduceIte, Nat.reduceBEq, g8]
      refine hJ n _ _ (by omega) ⟨hx.app _, by omega, ?_, ?_, ?_, ?_⟩ <;> (try simp only [XX, CC, Nat.reduceAdd, Nat.reduceSub, Nat.reduceLeDiff, Nat.reduceLT, Nat.reduceEqDiff, reduceIte, ↓reduceIte, Nat.reduceBEq, g2, g3, g4])
      rw [w64_in (by omega) (by omega)]

/-- What a draw picks. -/
def pickV (set : List (Nat × Nat)) (d : Nat) : AV := if sndB 0 set = true then (if 0 < set.length ∧ cnt set % 340282366920938463463374607431768211456 = 0 then nthV set d else if cnt set % 340282366920938463463374607431768211456 = 0 then .tup [aA 0, .bool false] else nthV set (d % (cnt set % 340282366920938463463374607431768211456))) else .tup [aA 0, .bool false]
theorem nth_bad {set : List (Nat × Nat)} (h : sndB 0 set = false) (n : Nat) : nthV set n = .tup [aA 0, .bool false] := by unfold nthV; rw [if_neg (by rw [h]; decide)]
set_option maxHeartbeats 4000000 in
/-- pool.Pick -/
theorem pick_r (s : St) (v : AV) (set : List (Nat × Nat)) (d : Nat) (hd : d < 18446744073709551616) (hl : set.length < 1000000) (hw : Wf set) (hv : Rd 4 cR s v set) : RunD T f_pool_Pick [v, .int .u64 d] s (pickV set d) s := by
  have hcm : cnt set % 340282366920938463463374607431768211456 < 340282366920938463463374607431768211456 := Nat.mod_lt _ (by decide)
  have hdM : d < 340282366920938463463374607431768211456 := by omega
  have kd := fun (x : Blk) l => (blkA (t := s ++ (x :: .cells true (cA d) :: l)) (b := s.length + 1) (q := d) (by simp)).1
  have nthat : ∀ n, ∃ (x : Nat) (b : Bool), nthV set n = .tup [aA x, .bool b] := nthV_at set
  refine run_body (F := r_pool_Pick) rfl (by simp [r_pool_Pick]) ?_
  by_cases hs : sndB 0 set = true
  · have hcv : cntV set = .tup [aA (cnt set % 340282366920938463463374607431768211456), .bool (decide (0 < set.length ∧ cnt set % 340282366920938463463374607431768211456 = 0))] := by unfold cntV; rw [if_pos hs]
    by_cases hall : 0 < set.length ∧ cnt set % 340282366920938463463374607431768211456 = 0
    · have hp : pickV set d = nthV set d := by unfold pickV; rw [if_pos hs, if_pos hall]
      obtain ⟨x, b, hn⟩ := nthat d
      rw [dec_t hall] at hcv
      simp only [r_pool_Pick, XX, CC, Nat.reduceAdd, Nat.reduceSub, Nat.reduceLeDiff, Nat.reduceLT, Nat.reduceEqDiff, reduceIte, ↓reduceIte, Nat.reduceBEq, cA_small hd]
      refine (count_r _ v set (by omega) hw (hv.ext ⟨_, rfl⟩)).use ?_
      rw [hcv]
      simp only [XX, CC, Nat.reduceAdd, Nat.reduceSub, Nat.reduceLeDiff, Nat.reduceLT, Nat.reduceEqDiff, reduceIte, ↓reduceIte, Nat.reduceBEq, Bool.not_true, kd]
      refine (nth_r _ v set d hdM (by omega) hw (hv.ext ⟨_, rfl⟩)).use ?_
      rw [hp, hn]
      simp only [XX, CC, Nat.reduceAdd, Nat.reduceSub, Nat.reduceLeDiff, Nat.reduceLT, Nat.reduceEqDiff, reduceIte, ↓reduceIte, Nat.reduceBEq]
      exact ret_drop ⟨_, rfl⟩ rfl ⟨rfl, rfl⟩
    · have hcv : cntV set = .tup [aA (cnt set % 340282366920938463463374607431768211456), .bool false] := by rw [hcv, dec_f hall]
      have kc := fun (x y : Blk) l => (blkA (t := s ++ (x :: y :: .cells true (cA (cnt set % 340282366920938463463374607431768211456)) :: l)) (b := s.length + 2) (q := cnt set % 340282366920938463463374607431768211456) (by simp)).1
      obtain ⟨n, hn, hnM, hp⟩ : ∃ n : Nat, (if cnt set % 340282366920938463463374607431768211456 = 0 then AV.tup [aA 0, .bool false] else .tup [aA (d % (cnt set % 340282366920938463463374607431768211456)), .bool true]) = .tup [aA n, .bool (decide (cnt set % 340282366920938463463374607431768211456 ≠ 0))] ∧ n < 340282366920938463463374607431768211456 ∧ pickV set d = nthV set n := by
        by_cases h0 : cnt set % 340282366920938463463374607431768211456 = 0
        · refine ⟨0, by rw [if_pos h0, dec_f (by omega)], by decide, ?_⟩
          have : set = [] := by
            cases set with
            | nil => rfl
            | cons q l => exact absurd ⟨by simp, h0⟩ hall
          subst this
          rfl
        · exact ⟨d % (cnt set % 340282366920938463463374607431768211456), by rw [if_neg h0, dec_t h0], Nat.lt_of_lt_of_le (Nat.mod_lt _ (by omega)) (by omega), by unfold pickV; rw [if_pos hs, if_neg hall, if_neg h0]⟩
      generalize decide (cnt set % 340282366920938463463374607431768211456 ≠ 0) = bb at hn
      have kn := fun (x : Blk) l => (blkA (t := s ++ (x :: .cells true (cA n) :: l)) (b := s.length + 1) (q := n) (by simp)).1
      obtain ⟨x, b, hx⟩ := nthat n
      simp only [r_pool_Pick, XX, CC, Nat.reduceAdd, Nat.reduceSub, Nat.reduceLeDiff, Nat.reduceLT, Nat.reduceEqDiff, reduceIte, ↓reduceIte, Nat.reduceBEq, cA_small hd]
      refine (count_r _ v set (by omega) hw (hv.ext ⟨_, rfl⟩)).use ?_
      rw [hcv]
      simp only [XX, CC, Nat.reduceAdd, Nat.reduceSub, Nat.reduceLeDiff, Nat.reduceLT, Nat.reduceEqDiff, reduceIte, ↓reduceIte, Nat.reduceBEq, Bool.not_false, kd, kc]
      refine (mod_r _ d _ hd hcm).use ?_
      rw [hn]
      simp only [XX, CC, Nat.reduceAdd, Nat.reduceSub, Nat.reduceLeDiff, Nat.reduceLT, Nat.reduceEqDiff, reduceIte, ↓reduceIte, Nat.reduceBEq, kn]
      refine (nth_r _ v set n hnM (by omega) hw (hv.ext ⟨_, rfl⟩)).use ?_
      rw [hp, hx]
      simp only [XX, CC, Nat.reduceAdd, Nat.reduceSub, Nat.reduceLeDiff, Nat.reduceLT, Nat.reduceEqDiff, reduceIte, ↓reduceIte, Nat.reduceBEq]
      exact ret_drop ⟨_, rfl⟩ rfl ⟨rfl, rfl⟩
  · have hs' : sndB 0 set = false := by simpa using hs
    have hcv : cntV set = .tup [aA 0, .bool false] := by unfold cntV; rw [if_neg hs]
    have kc := fun (x y : Blk) l => (blkA (t := s ++ (x :: y :: .cells true (cA 0) :: l)) (b := s.length + 2) (q := 0) (by simp)).1
    have kn := fun (x : Blk) l => (blkA (t := s ++ (x :: .cells true (cA 0) :: l)) (b := s.length + 1) (q := 0) (by simp)).1
    have hp : pickV set d = .tup [aA 0, .bool false] := by unfold pickV; rw [if_neg hs]
    simp only [r_pool_Pick, XX, CC, Nat.reduceAdd, Nat.reduceSub, Nat.reduceLeDiff, Nat.reduceLT, Nat.reduceEqDiff, reduceIte, ↓reduceIte, Nat.reduceBEq, cA_small hd]
    refine (count_r _ v set (by omega) hw (hv.ext ⟨_, rfl⟩)).use ?_
    rw [hcv]
    simp only [XX, CC, Nat.reduceAdd, Nat.reduceSub, Nat.reduceLeDiff, Nat.reduceLT, Nat.reduceEqDiff, reduceIte, ↓reduceIte, Nat.reduceBEq, Bool.not_false, kd, kc]
    refine (mod_r _ d 0 hd (by decide)).use ?_
    rw [if_pos rfl]
    simp only [XX, CC, Nat.reduceAdd, Nat.reduceSub, Nat.reduceLeDiff, Nat.reduceLT, Nat.reduceEqDiff, reduceIte, ↓reduceIte, Nat.reduceBEq, kn]
    refine (nth_r _ v set 0 (by decide) (by omega) hw (hv.ext ⟨_, rfl⟩)).use ?_
    rw [hp, nth_bad hs']
    simp only [XX, CC, Nat.reduceAdd, Nat.reduceSub, Nat.reduceLeDiff, Nat.reduceLT, Nat.reduceEqDiff, reduceIte, ↓reduceIte, Nat.reduceBEq]
    exact ret_drop ⟨_, rfl⟩ rfl ⟨rfl, rfl⟩
end Go.Ev
