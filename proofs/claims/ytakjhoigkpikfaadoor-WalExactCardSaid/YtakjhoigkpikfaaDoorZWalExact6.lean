import Derived.Test.YtakjhoigkpikfaaDoorZWalExact5
import Derived.Test.YtakjhoigkpikfaaDoorZWalExact2
import Derived.Test.YtakjhoigkpikfaaDoorZWalExact3
/-! The law's awake. -/
namespace Go.Ev
set_option linter.unusedVariables false
set_option linter.unusedSimpArgs false
open Go.Ev.So Go.Proofs

theorem ext_same {s t : St} (hl : s.length ≤ t.length) (h : ∀ i, i < s.length → t[i]? = s[i]?) : Ext s t := by
  refine ⟨t.drop s.length, ?_⟩
  have : s = t.take s.length := by
    apply List.ext_getElem?
    intro i
    by_cases c : i < s.length
    · rw [List.getElem?_take_of_lt c, h i c]
    · rw [List.getElem?_eq_none (by omega), List.getElem?_eq_none (by simp; omega)]
  conv => lhs; rw [← List.take_append_drop s.length t]
  rw [← this]
def wNm : ByteArray := bts [108, 111, 103]
def wA : ByteArray := bts [97]
def wL0 (b : Nat) : Lg := ⟨b, wNm, 0, false⟩
def wL1 (b : Nat) : Lg := ⟨b, wNm, 9, false⟩
def wD1 (mb fb : Nat) : Dsk := ⟨false, false, -1, 0, 1, mb, 1, [(⟨wNm, wFr, 0, fb⟩, 0)]⟩
def wD2 (mb fb : Nat) : Dsk := ⟨false, false, -2, 0, 2, mb, 1, [(⟨wNm, wFr, 9, fb⟩, 0)]⟩
theorem wo_E (mb : Nat) : openE (newD mb) wNm = 0 := by kernel_rfl
theorem wo_D (mb : Nat) : openD (newD mb) wNm = newD mb := by kernel_rfl
theorem wo_L (mb b : Nat) : openL (newD mb) wNm b = wL0 b := by kernel_rfl
theorem wo_l (mb : Nat) : (scanV (readV (newD mb) wNm).1).1 = [] := by kernel_rfl
theorem wa_C (mb b : Nat) : appCode (wL0 b) (newD mb) wA = 0 := by kernel_rfl
theorem wa_D (mb b fb : Nat) : appDisk (wL0 b) (newD mb) wA fb = wD1 mb fb := by kernel_rfl
theorem wa_L (mb b : Nat) : appLog (wL0 b) (newD mb) wA = wL1 b := by kernel_rfl
theorem ws_C (mb b fb : Nat) : syncCode (wL1 b) (wD1 mb fb) = 0 := by kernel_rfl
theorem ws_D (mb b fb : Nat) : syncDisk (wL1 b) (wD1 mb fb) = wD2 mb fb := by kernel_rfl
theorem ws_L (mb b fb : Nat) : syncLog (wL1 b) (wD1 mb fb) = wL1 b := by kernel_rfl
theorem wr_D (mb fb : Nat) : readV (wD2 mb fb) wNm = (wFr, 0) := by kernel_rfl
theorem newD_ok (mb : Nat) : DOk (newD mb) := ⟨fun f h => by simp [newD] at h, by simp [newD], fun f h => by simp [newD] at h, by simp [newD]⟩

set_option maxHeartbeats 4000000 in
theorem awake07_r (s : St) : RunD T f_w07_awake [] s (.bool true) s := by
  refine run_body (F := r_w07_awake) (has rfl) (by simp [r_w07_awake]) ?_
  have e1 : bts [97] = wA := rfl
  have e2 : bts [108, 111, 103] = wNm := rfl
  have e3 : bts [0, 0, 0, 1, 232, 183, 190, 67, 97] = wFr := rfl
  have f1 : frameV wA = (wFr, 0) := wv_frame
  have f2 : scanV (wFr ++ wFr ++ bts [97, 98, 99]) = ([wA, wA], 18) := wv_scan
  have a1 : binA .add (.str wFr) (.str wFr) = some (.str (wFr ++ wFr)) := add_s (by decide)
  have a2 : binA .add (.str (wFr ++ wFr)) (.str (bts [97, 98, 99])) = some (.str (wFr ++ wFr ++ bts [97, 98, 99])) := add_s (by decide)
  have hz : (wFr ++ wFr ++ bts [97, 98, 99]).size < 1000000000 := of_decide_eq_true (by kernel_rfl)
  have hzA : wA.size < 1000000 := of_decide_eq_true (by kernel_rfl)
  have hzN : wNm.size < 140737488355328 := of_decide_eq_true (by kernel_rfl)
  simp only [r_w07_awake, XX, CC, YY, Nat.reduceAdd, Nat.reduceSub, Nat.reduceLeDiff, Nat.reduceLT, Nat.reduceEqDiff, reduceIte, ↓reduceIte, Nat.reduceBEq, e1, e2, e3]
  have fr := frame_r (T := T) s wA (by omega)
  rw [f1] at fr
  refine fr.use ?_
  simp only [XX, CC, YY, Nat.reduceAdd, Nat.reduceSub, Nat.reduceLeDiff, Nat.reduceLT, Nat.reduceEqDiff, reduceIte, ↓reduceIte, Nat.reduceBEq, a1, a2]
  generalize wFr ++ wFr ++ bts [97, 98, 99] = S3 at *
  refine Run.mono _ _ _ _ _ ?_ (scan_r s S3 hz)
  rintro v t ⟨r, rfl, hr⟩
  rw [f2] at hr ⊢
  have x1 := hr.ext
  have rr := hr.rd cS_len
  (try simp only [XX, CC, YY, Nat.reduceAdd, Nat.reduceSub, Nat.reduceLeDiff, Nat.reduceLT, Nat.reduceEqDiff, reduceIte, ↓reduceIte, Nat.reduceBEq])
  refine Run.mono _ _ _ _ _ ?_ (new_r t)
  rintro v t1 ⟨rfl, rfl⟩
  have hD := new_at t
  have x2 : Ext t (t ++ [Blk.map [] 0, .cells true (cD (newD t.length))]) := ⟨_, rfl⟩
  have hb : t.length + 1 < (t ++ [Blk.map [] 0, .cells true (cD (newD t.length))]).length := by simp
  have hl1 : t.length ≤ (t ++ [Blk.map [] 0, .cells true (cD (newD t.length))]).length := by simp
  generalize t ++ [Blk.map [] 0, .cells true (cD (newD t.length))] = t1 at *
  (try simp only [XX, CC, YY, Nat.reduceAdd, Nat.reduceSub, Nat.reduceLeDiff, Nat.reduceLT, Nat.reduceEqDiff, reduceIte, ↓reduceIte, Nat.reduceBEq])
  have ho := open_r t1 t.length (t.length + 1) (newD t.length) wNm hD (newD_ok _) hzN
  rw [wo_E, wo_D, wo_L, wo_l] at ho
  refine Run.mono _ _ _ _ _ ?_ ho
  rintro v t2 ⟨hs, _, hg⟩
  obtain ⟨k, r2, rfl, hk, hk2, hown, _⟩ := hg rfl
  have rr2 := hown.rd cS_len
  have hft : ∀ (mb fb i : Nat), False → False := fun _ _ _ h => h
  have hf0 : ∀ i, DFoot (t.length + 1) (newD t.length) i → t.length ≤ i := fun i hi => by
    rcases hi with rfl | rfl | ⟨f, hf, _⟩
    · omega
    · exact Nat.le_refl _
    · simp [newD] at hf
  have hkf : ¬ DFoot (t.length + 1) (newD t.length) k := fun hf => by have := hf.lt hD; omega
  (try simp only [XX, CC, YY, Nat.reduceAdd, Nat.reduceSub, Nat.reduceLeDiff, Nat.reduceLT, Nat.reduceEqDiff, reduceIte, ↓reduceIte, Nat.reduceBEq])
  have hap := lgappend_r t2 t.length k (wL0 (t.length + 1)) (newD t.length) wA hk2 hs.at_ hs.ok (by have := hs.len; omega) hkf hzN hzA
  rw [wa_C, wa_D, wa_L] at hap
  refine Run.mono _ _ _ _ _ ?_ hap
  rintro v t3 ⟨rfl, h3⟩
  have hk3 := h3.out hk2 hkf
  (try simp only [XX, CC, YY, Nat.reduceAdd, Nat.reduceSub, Nat.reduceLeDiff, Nat.reduceLT, Nat.reduceEqDiff, reduceIte, ↓reduceIte, Nat.reduceBEq])
  have hsy := lgsync_r t3 t.length k (wL1 (t.length + 1)) (wD1 t.length t2.length) h3.log h3.at_ h3.ok hk3 hzN
  rw [ws_C, ws_D, ws_L] at hsy
  refine Run.mono _ _ _ _ _ ?_ hsy
  rintro v t4 ⟨rfl, h4⟩
  (try simp only [XX, CC, YY, Nat.reduceAdd, Nat.reduceSub, Nat.reduceLeDiff, Nat.reduceLT, Nat.reduceEqDiff, reduceIte, ↓reduceIte, Nat.reduceBEq])
  have hrd := read_r (T := T) t4 t.length (t.length + 1) (wD2 t.length t2.length) wNm h4.at_ hzN
  rw [wr_D] at hrd
  refine hrd.use ?_
  have x24 : ∀ i, i < t.length → t4[i]? = t2[i]? := fun i hi => by
    have l2 := hs.len
    have l3 := h3.len
    have hnf : ¬ DFoot (t.length + 1) (newD t.length) i := fun hf => by have := hf0 i hf; omega
    rw [h4.same i (by omega) (fun hf => (h3.foot i hf).elim hnf (by omega)) (by omega)]
    exact h3.same i (by omega) hnf (by omega)
  have x2t : ∀ i, i < t.length → t2[i]? = t1[i]? := fun i hi => hs.same i (by omega) fun hf => by have := hf0 i hf; omega
  have hl4 : t.length ≤ t4.length := by have := hs.len; have := h3.len; have := h4.len; omega
  have X : Ext t t4 := ext_same hl4 fun i hi => by rw [x24 i hi, x2t i hi, x2.get hi]
  have rr4 := rr.ext X
  have sz := (lgld h4.log).2.2.1
  have lsz := lgsize_r (T := T) t4 k (wL1 (t.length + 1)) h4.log
  have q1 : eqA .s (.str wFr) (.str wFr) = some true := by rw [eq_S, dec_t rfl]
  have fl : fillA (List.replicate 2 [AV.str (bts [])]).flatten [(0, 1, .str wA), (1, 1, .str wA)] = some [.str wA, .str wA] := rfl
  have c18 : ((18 : Nat) : Int) = 18 := rfl
  have t00 : ((0 : Int) == 0) = true := rfl
  have t18 : ((18 : Int) == 18) = true := rfl
  have t9 : ((9 : Int) == 9) = true := rfl
  simp only [XX, CC, YY, Nat.reduceAdd, Nat.reduceSub, Nat.reduceLeDiff, Nat.reduceLT, Nat.reduceEqDiff, reduceIte, ↓reduceIte, Nat.reduceBEq, q1, t00, c18, t18, fl]
  refine (same07_r (T := T) _ r _ [wA, wA] [wA, wA] (by simp) (by simp) (rr4.ext ⟨_, rfl⟩) (rd_lit (by simp; rfl) cS_len rfl)).use ?_
  have dd : decide ([wA, wA] = [wA, wA]) = true := decide_eq_true rfl
  have lz : lenlA r2 = some (.int .i64 0) := rr2.len
  rw [dd]
  simp only [XX, CC, YY, Nat.reduceAdd, Nat.reduceSub, Nat.reduceLeDiff, Nat.reduceLT, Nat.reduceEqDiff, reduceIte, ↓reduceIte, Nat.reduceBEq, t18, t00, q1, lz]
  refine (lgsize_r (T := T) (t4 ++ [.cells true [.str wA, .str wA]]) k (wL1 (t.length + 1)) (by rw [List.getElem?_append_left (List.getElem?_eq_some_iff.1 h4.log).1]; exact h4.log)).use ?_
  have z9 : (wL1 (t.length + 1)).size = 9 := rfl
  simp only [XX, CC, YY, Nat.reduceAdd, Nat.reduceSub, Nat.reduceLeDiff, Nat.reduceLT, Nat.reduceEqDiff, reduceIte, ↓reduceIte, Nat.reduceBEq, z9, t9]
  exact ret_drop ((x1.trans X).app _) rfl ⟨rfl, rfl⟩
end Go.Ev

/-! Frames: what is read of a frame and of a spoilt one. -/
namespace Go.Ev
set_option linter.unusedVariables false
set_option linter.unusedSimpArgs false
open Go.Ev.So Go.Proofs

theorem tl_data (s : ByteArray) : s.toList = s.data.toList := ByteArray.toList_eq ..
theorem tl_app (a b : ByteArray) : (a ++ b).toList = a.toList ++ b.toList := by simp [tl_data]
theorem tl_inj {a b : ByteArray} (h : a.toList = b.toList) : a = b := by
  rw [tl_data, tl_data] at h
  exact ByteArray.ext (Array.toList_inj.1 h)
theorem tl_ext (s : ByteArray) (p q : Nat) : (s.extract p q).toList = (s.toList.drop p).take (q - p) := by
  simp [tl_data, Array.toList_extract, List.extract_eq_take_drop]
theorem tl_str (l : List Nat) : (strB (l.map Int.ofNat)).toList = l.map fun n => UInt8.ofNat n := by
  rw [tl_data]; unfold strB; simp

/-! ### the sum tells bytes apart -/
theorem xor_can {a b c : Nat} (h : a ^^^ c = b ^^^ c) : a = b := by
  have := congrArg (· ^^^ c) h
  simpa [Nat.xor_assoc] using this
theorem crcS_inj {a b : Nat} (ha : a < 4294967296) (hb : b < 4294967296) (h : crcS a = crcS b) : a = b := by
  unfold crcS at h
  have key : ∀ x y : Nat, x < 2147483648 → y < 2147483648 → x ^^^ 3988292384 = y → False := by
    intro x y hx hy e
    have h2 : x ^^^ y < 2 ^ 31 := Nat.xor_lt_two_pow (by omega) (by omega)
    have h3 : x ^^^ y = 3988292384 := by
      rw [← e, ← Nat.xor_assoc, Nat.xor_self, Nat.zero_xor]
    rw [h3] at h2
    exact absurd h2 (by decide)
  by_cases c1 : a % 2 = 1 <;> by_cases c2 : b % 2 = 1
  · rw [if_pos c1, if_pos c2] at h
    have := xor_can h
    omega
  · rw [if_pos c1, if_neg c2, Nat.xor_zero] at h
    exact absurd h (fun e => key _ _ (by omega) (by omega) e)
  · rw [if_neg c1, if_pos c2, Nat.xor_zero] at h
    exact absurd h.symm (fun e => key _ _ (by omega) (by omega) e)
  · rw [if_neg c1, if_neg c2, Nat.xor_zero, Nat.xor_zero] at h
    omega
theorem crcN_inj : ∀ {n a b : Nat}, a < 4294967296 → b < 4294967296 → crcN n a = crcN n b → a = b
  | 0, a, b, _, _, h => h
  | n + 1, a, b, ha, hb, h => crcS_inj ha hb (crcN_inj (n := n) (crcS_lt ha) (crcS_lt hb) h)
theorem crcL_inj : ∀ {l : List UInt8} {a b : Nat}, a < 4294967296 → b < 4294967296 → crcL l a = crcL l b → a = b
  | [], a, b, _, _, h => h
  | x :: l, a, b, ha, hb, h => xor_can (crcN_inj (xor_byte ha x) (xor_byte hb x) (crcL_inj (l := l) (crcN_lt (xor_byte ha x)) (crcN_lt (xor_byte hb x)) h))
theorem crcL_app : ∀ (l m : List UInt8) (r : Nat), crcL (l ++ m) r = crcL m (crcL l r)
  | [], m, r => rfl
  | x :: l, m, r => crcL_app l m _
theorem crcL_lt : ∀ (l : List UInt8) {r : Nat}, r < 4294967296 → crcL l r < 4294967296
  | [], r, h => h
  | b :: l, r, h => crcL_lt l (crcN_lt (xor_byte h b))
theorem crcL_byte {l : List UInt8} {i : Nat} {x y : UInt8} (hi : l[i]? = some x) (hn : y ≠ x) {r : Nat} (hr : r < 4294967296) : crcL (l.set i y) r ≠ crcL l r := by
  obtain ⟨hlt, he⟩ := List.getElem?_eq_some_iff.1 hi
  have e1 : l = l.take i ++ x :: l.drop (i + 1) := by
    conv => lhs; rw [← List.take_append_drop i l, List.drop_eq_getElem_cons hlt, he]
  have e2 : l.set i y = l.take i ++ y :: l.drop (i + 1) := by rw [List.set_eq_take_append_cons_drop, if_pos hlt]
  intro h
  replace h : crcL (l.take i ++ y :: l.drop (i + 1)) r = crcL (l.take i ++ x :: l.drop (i + 1)) r := by rw [← e2, ← e1]; exact h
  rw [crcL_app, crcL_app] at h
  have hx := crcL_lt (l.take i) hr
  have h0 := crcN_inj (xor_byte hx y) (xor_byte hx x) (crcL_inj (crcN_lt (xor_byte hx y)) (crcN_lt (xor_byte hx x)) h)
  rw [Nat.xor_comm _ y.toNat, Nat.xor_comm _ x.toNat] at h0
  exact hn (UInt8.toNat_inj.1 (xor_can h0))

/-! ### what is read at a place -/
theorem cutN (s : ByteArray) (p n : Nat) : cutV s p n = if p + n ≤ s.size then some (s.extract p (p + n)) else none := by
  unfold cutV
  by_cases c : p + n ≤ s.size
  · rw [if_pos (by omega), if_pos c]; rfl
  · rw [if_neg (by omega), if_neg c]
theorem ext_shift (X Z : ByteArray) (p q : Nat) : (X ++ Z).extract (X.size + p) (X.size + q) = Z.extract p q := by
  apply tl_inj
  rw [tl_ext, tl_ext, tl_app, List.drop_append, toList_size, List.drop_eq_nil_of_le (by rw [toList_size]; omega), List.nil_append]
  congr 1
  · omega
  · congr 1; omega
theorem cut_shift (X Z : ByteArray) (p n : Nat) : cutV (X ++ Z) (X.size + p : Nat) n = cutV Z p n := by
  rw [cutN, cutN, app_size]
  by_cases c : p + n ≤ Z.size
  · rw [if_pos (by omega), if_pos c, Nat.add_assoc, ext_shift]
  · rw [if_neg (by omega), if_neg c]
theorem rec_shift (X Z : ByteArray) (p : Nat) : recV (X ++ Z) (X.size + p) = recV Z p := by
  unfold recV
  have h1 := cut_shift X Z p 4
  have h2 := cut_shift X Z (p + 4) 4
  rw [← Nat.add_assoc] at h2
  have h3 := fun n => cut_shift X Z (p + 8) n
  simp only [← Nat.add_assoc] at h3
  have e4 : ((4 : Nat) : Int) = 4 := rfl
  rw [e4] at h1 h2
  rw [h1, h2]
  simp only [h3]
theorem ext_first (X Z : ByteArray) : (X ++ Z).extract 0 X.size = X := by
  apply tl_inj
  rw [tl_ext, tl_app, List.drop_zero, Nat.sub_zero, ← toList_size, List.take_left]
theorem cut_first (X Z : ByteArray) : cutV (X ++ Z) (0 : Nat) X.size = some X := by
  rw [cutN, app_size, if_pos (by omega), Nat.zero_add, ext_first]
theorem cut_next (X Y Z : ByteArray) : cutV (X ++ Y ++ Z) X.size Y.size = some Y := by
  have := cut_shift X (Y ++ Z) 0 Y.size
  rw [Nat.add_zero] at this
  rw [ByteArray.append_assoc, this, cut_first]
theorem getB_put4 {n : Nat} (h : n < 4294967296) : getB (put4V n).toList = n := by
  have e : (put4V n).toList = [UInt8.ofNat (n / 16777216 % 256), UInt8.ofNat (n / 65536 % 256), UInt8.ofNat (n / 256 % 256), UInt8.ofNat (n % 256)] := tl_str (bytes4 n)
  rw [e]
  have hb : ∀ x : Nat, (UInt8.ofNat (x % 256)).toNat = x % 256 := fun x => by simp
  simp only [getB, List.foldl_cons, List.foldl_nil, hb]
  omega
/-- The first record of a text: its length, its sum, the rest. -/
theorem rec_at (M R : ByteArray) (n : Nat) (hn : n < 4294967296) (hM : M.size = 4) :
    recV (put4V n ++ M ++ R) 0 = if 1 ≤ n ∧ n ≤ 65536 ∧ n ≤ R.size then (if crcV (R.extract 0 n) = getB M.toList then some (R.extract 0 n) else none) else none := by
  unfold recV
  have h1 : cutV (put4V n ++ M ++ R) (0 : Nat) 4 = some (put4V n) := by
    have := cut_first (put4V n) (M ++ R)
    rw [ByteArray.append_assoc]
    exact this
  have h2 : cutV (put4V n ++ M ++ R) (0 + 4 : Nat) 4 = some M := by
    have := cut_next (put4V n) M R
    rw [hM] at this
    exact this
  have h3 : ∀ k : Nat, cutV (put4V n ++ M ++ R) (0 + 8 : Nat) k = if k ≤ R.size then some (R.extract 0 k) else none := fun k => by
    have := cut_shift (put4V n ++ M) R 0 k
    have e : (put4V n ++ M).size = 8 := by rw [app_size, put4_size, hM]
    rw [e] at this
    rw [show (0 + 8 : Nat) = 8 + 0 from rfl, this, cutN]
    simp only [Nat.zero_add]
  rw [h1, h2]
  simp only [h3, getB_put4 hn]
  by_cases c : 1 ≤ n ∧ n ≤ 65536
  · rw [if_pos c]
    by_cases c2 : n ≤ R.size
    · rw [if_pos c2, if_pos ⟨c.1, c.2, c2⟩]
    · rw [if_neg c2, if_neg (fun h => c2 h.2.2)]
  · rw [if_neg c, if_neg (fun h => c ⟨h.1, h.2.1⟩)]
theorem rec_frame {r : ByteArray} (hr : 1 ≤ r.size ∧ r.size ≤ 65536) (R : ByteArray) : recV ((frameV r).1 ++ R) 0 = some r := by
  unfold frameV
  rw [if_pos hr]
  have := rec_at (put4V (crcV r)) (r ++ R) r.size (by omega) (put4_size _)
  rw [← ByteArray.append_assoc] at this
  rw [this, if_pos ⟨hr.1, hr.2, by rw [app_size]; omega⟩, ext_first, getB_put4 (crcV_lt r), if_pos rfl]
theorem frame_size {r : ByteArray} (hr : 1 ≤ r.size ∧ r.size ≤ 65536) : (frameV r).1.size = 8 + r.size := by
  unfold frameV
  rw [if_pos hr]
  simp only [app_size, put4_size]
/-- A frame, and nothing right behind it. -/
theorem scan_one {r Z : ByteArray} (hr : 1 ≤ r.size ∧ r.size ≤ 65536) (hz : recV Z 0 = none) : scanV ((frameV r).1 ++ Z) = ([r], (frameV r).1.size) := by
  unfold scanV
  rw [scanG_some (rec_frame hr Z)]
  have e : 0 + 8 + r.size = (frameV r).1.size + 0 := by rw [frame_size hr]; omega
  rw [e, scanG_none (by rw [rec_shift]; exact hz), Nat.add_zero]
end Go.Ev

/-! A spoilt frame is none. -/
namespace Go.Ev
set_option linter.unusedVariables false
set_option linter.unusedSimpArgs false
open Go.Ev.So Go.Proofs

theorem getB_inj : ∀ (n : Nat) (l m : List UInt8), l.length = n → m.length = n → getB l = getB m → l = m
  | 0, l, m, h, k, _ => by rw [List.length_eq_zero_iff.1 h, List.length_eq_zero_iff.1 k]
  | n + 1, l, m, h, k, e => by
    obtain ⟨l0, b, rfl⟩ : ∃ l0 b, l = l0 ++ [b] := ⟨l.dropLast, l.getLast (by intro e; rw [e] at h; simp at h), (List.dropLast_concat_getLast _).symm⟩
    obtain ⟨m0, c, rfl⟩ : ∃ m0 c, m = m0 ++ [c] := ⟨m.dropLast, m.getLast (by intro e; rw [e] at k; simp at k), (List.dropLast_concat_getLast _).symm⟩
    have hb := b.toNat_lt
    have hc := c.toNat_lt
    rw [getB_snoc, getB_snoc] at e
    have e1 : b = c := UInt8.toNat_inj.1 (by omega)
    have e2 : l0 = m0 := getB_inj n l0 m0 (by simpa using h) (by simpa using k) (by omega)
    rw [e1, e2]
def bmk (l : List UInt8) : ByteArray := ⟨l.toArray⟩
theorem bmk_tl (l : List UInt8) : (bmk l).toList = l := by rw [tl_data]; rfl
theorem bmk_size (l : List UInt8) : (bmk l).size = l.length := by rw [← toList_size, bmk_tl]
theorem rec_less {r : ByteArray} (hr : 1 ≤ r.size ∧ r.size ≤ 65536) : recV ((frameV r).1.extract 0 ((frameV r).1.size - 1)) 0 = none := by
  have hs := frame_size hr
  have e : (frameV r).1.extract 0 ((frameV r).1.size - 1) = put4V r.size ++ put4V (crcV r) ++ r.extract 0 (r.size - 1) := by
    rw [hs]
    unfold frameV
    rw [if_pos hr]
    apply tl_inj
    have h8 : (put4V r.size ++ put4V (crcV r)).toList.length = 8 := by rw [toList_size, app_size, put4_size, put4_size]
    simp only
    rw [tl_ext, tl_app, tl_app _ (r.extract 0 _), tl_ext, List.drop_zero, List.drop_zero, List.take_append, h8, List.take_of_length_le (by rw [h8]; omega)]
    congr 2
    omega
  rw [e, rec_at _ _ _ (by omega) (put4_size _), if_neg (fun h => by have := ext_size r 0 (r.size - 1) (by omega); omega)]
theorem rec_spoilt {r C A : ByteArray} (hr : 1 ≤ r.size ∧ r.size ≤ 65536) {j : Nat} {x y : UInt8} (hj : 4 ≤ j) (hx : (frameV r).1.toList[j]? = some x) (hy : y ≠ x) (hC : C.toList = (frameV r).1.toList.set j y) : recV (C ++ A) 0 = none := by
  have hF : (frameV r).1 = put4V r.size ++ put4V (crcV r) ++ r := by unfold frameV; rw [if_pos hr]
  have h4 : ∀ n, (put4V n).toList.length = 4 := fun n => by rw [toList_size, put4_size]
  rw [hF, tl_app, tl_app] at hx hC
  have hl1 : ((put4V r.size).toList ++ (put4V (crcV r)).toList).length = 8 := by rw [List.length_append, h4, h4]
  by_cases c : j < 8
  · have e : C = put4V r.size ++ bmk ((put4V (crcV r)).toList.set (j - 4) y) ++ r := by
      apply tl_inj
      rw [hC, tl_app, tl_app, bmk_tl, List.set_append_left _ _ (by omega), List.set_append_right _ _ (by rw [h4]; omega), h4]
    have hm : (bmk ((put4V (crcV r)).toList.set (j - 4) y)).size = 4 := by rw [bmk_size, List.length_set, h4]
    rw [e, ByteArray.append_assoc, rec_at _ _ _ (by omega) hm, if_pos ⟨hr.1, hr.2, by rw [app_size]; omega⟩, ext_first, bmk_tl, if_neg]
    intro h
    rw [← getB_put4 (crcV_lt r)] at h
    have := getB_inj 4 _ _ (h4 _) (by rw [List.length_set, h4]) h
    rw [List.getElem?_append_left (by omega), List.getElem?_append_right (by rw [h4]; omega), h4, this, List.getElem?_set_self (by rw [h4]; omega)] at hx
    exact hy (by simpa using hx)
  · have e : C = put4V r.size ++ put4V (crcV r) ++ bmk (r.toList.set (j - 8) y) := by
      apply tl_inj
      rw [hC, tl_app, tl_app, bmk_tl, List.set_append_right _ _ (by omega), hl1]
    have hm : (bmk (r.toList.set (j - 8) y)).size = r.size := by rw [bmk_size, List.length_set, toList_size]
    rw [e, ByteArray.append_assoc, rec_at _ _ _ (by omega) (put4_size _), if_pos ⟨hr.1, hr.2, by rw [app_size]; omega⟩, ← hm, ext_first, getB_put4 (crcV_lt r), if_neg]
    intro h
    unfold crcV at h
    rw [bmk_tl] at h
    rw [List.getElem?_append_right (by omega), hl1] at hx
    exact crcL_byte hx hy (by decide) (xor_can h)
end Go.Ev

/-! Rows of frames, and what a scan finds in a part of one. -/
namespace Go.Ev
set_option linter.unusedVariables false
set_option linter.unusedSimpArgs false
open Go.Ev.So Go.Proofs

theorem scanG_fuel (s : ByteArray) : ∀ (d d' p : Nat), s.size < p + d → s.size < p + d' → scanG s d p = scanG s d' p
  | 0, d', p, h, h' => by
    rw [scanG_none (d := d') ?_]
    · rfl
    · cases c : recV s p with
      | none => rfl
      | some r => obtain ⟨h1, h2⟩ := recV_room c; omega
  | d + 1, 0, p, h, h' => by
    rw [scanG_none (d := d + 1) ?_]
    · rfl
    · cases c : recV s p with
      | none => rfl
      | some r => obtain ⟨h1, h2⟩ := recV_room c; omega
  | d + 1, d' + 1, p, h, h' => by
    cases c : recV s p with
    | none => rw [scanG_none c, scanG_none c]
    | some r =>
      obtain ⟨h1, h2⟩ := recV_room c
      rw [scanG_some c, scanG_some c, scanG_fuel s d d' (p + 8 + r.size) (by omega) (by omega)]
theorem scanG_shift (X Z : ByteArray) : ∀ (d p : Nat), scanG (X ++ Z) d (X.size + p) = ((scanG Z d p).1, X.size + (scanG Z d p).2)
  | 0, p => rfl
  | d + 1, p => by
    have h := rec_shift X Z p
    cases c : recV Z p with
    | none => rw [c] at h; rw [scanG_none h, scanG_none c]
    | some r =>
      rw [c] at h
      have e : X.size + p + 8 + r.size = X.size + (p + 8 + r.size) := by omega
      rw [scanG_some h, scanG_some c, e, scanG_shift X Z d]
/-- a record as it may be -/
def Good (r : ByteArray) : Prop := 1 ≤ r.size ∧ r.size ≤ 65536
theorem scan_cons {r : ByteArray} (hr : Good r) (Z : ByteArray) : scanV ((frameV r).1 ++ Z) = (r :: (scanV Z).1, (frameV r).1.size + (scanV Z).2) := by
  have hs := frame_size hr
  unfold scanV
  rw [scanG_some (rec_frame hr Z)]
  have e : 0 + 8 + r.size = (frameV r).1.size + 0 := by omega
  rw [e, scanG_shift, scanG_fuel Z ((frameV r).1 ++ Z).size (Z.size + 1) 0 (by rw [app_size]; omega) (by omega)]
theorem scan_none {Z : ByteArray} (h : recV Z 0 = none) : scanV Z = ([], 0) := scanG_none h

/-- the frames of a row -/
def FR : List ByteArray → ByteArray
  | [] => bts []
  | r :: l => (frameV r).1 ++ FR l
theorem emp_tl : (bts []).toList = [] := by rw [tl_data]; rfl
theorem emp_app (X : ByteArray) : bts [] ++ X = X := by
  apply tl_inj; rw [tl_app, emp_tl, List.nil_append]
theorem app_emp (X : ByteArray) : X ++ bts [] = X := by
  apply tl_inj; rw [tl_app, emp_tl, List.append_nil]
theorem FR_app : ∀ (l m : List ByteArray), FR (l ++ m) = FR l ++ FR m
  | [], m => (emp_app _).symm
  | r :: l, m => by
    show (frameV r).1 ++ FR (l ++ m) = (frameV r).1 ++ FR l ++ FR m
    rw [FR_app l m, ByteArray.append_assoc]
theorem FR_snoc (l : List ByteArray) (r : ByteArray) : FR (l ++ [r]) = FR l ++ (frameV r).1 := by
  rw [FR_app]; show _ ++ ((frameV r).1 ++ bts []) = _; rw [app_emp]
theorem FR_size : ∀ {l : List ByteArray}, (∀ r ∈ l, Good r) → l.length ≤ (FR l).size
  | [], _ => Nat.zero_le _
  | r :: l, h => by
    have := FR_size (l := l) fun x hx => h x (List.mem_cons_of_mem _ hx)
    have h2 := frame_size (h r (List.mem_cons_self ..))
    show l.length + 1 ≤ ((frameV r).1 ++ FR l).size
    rw [app_size]; omega
theorem FR_take (l : List ByteArray) (j : Nat) : (FR l).extract 0 (FR (l.take j)).size = FR (l.take j) := by
  conv => lhs; rw [← List.take_append_drop j l]
  rw [FR_app, List.take_append_drop, ext_first]
theorem FR_mono (l : List ByteArray) {i j : Nat} (h : i ≤ j) : (FR (l.take i)).size ≤ (FR (l.take j)).size := by
  have e : l.take j = l.take i ++ (l.take j).drop i := by
    conv => lhs; rw [← List.take_append_drop i (l.take j)]
    rw [List.take_take, Nat.min_eq_left h]
  rw [e, FR_app, app_size]; omega
theorem ext_app_le (X Z : ByteArray) {K : Nat} (h : K ≤ X.size) : (X ++ Z).extract 0 K = X.extract 0 K := by
  apply tl_inj
  rw [tl_ext, tl_ext, tl_app, List.drop_zero, List.drop_zero, List.take_append_of_le_length (by rw [toList_size]; omega)]
theorem ext_app_ge (X Z : ByteArray) {K : Nat} (h : X.size ≤ K) : (X ++ Z).extract 0 K = X ++ Z.extract 0 (K - X.size) := by
  apply tl_inj
  rw [tl_ext, tl_app, tl_app, tl_ext, List.drop_zero, List.drop_zero, Nat.sub_zero, Nat.sub_zero, List.take_append, toList_size, List.take_of_length_le (by rw [toList_size]; omega)]
theorem ext_take (X : ByteArray) {K M : Nat} (h : M ≤ K) : (X.extract 0 K).extract 0 M = X.extract 0 M := by
  apply tl_inj
  simp only [tl_ext, List.drop_zero, Nat.sub_zero, List.take_take, Nat.min_eq_left h]
theorem ext_all (X : ByteArray) {K : Nat} (h : X.size ≤ K) : X.extract 0 K = X := by
  apply tl_inj
  rw [tl_ext, List.drop_zero, Nat.sub_zero, List.take_of_length_le (by rw [toList_size]; omega)]
theorem rec_cut {r : ByteArray} (hr : Good r) {K : Nat} (hK : K < (frameV r).1.size) : recV ((frameV r).1.extract 0 K) 0 = none := by
  have hs := frame_size hr
  by_cases c : K < 9
  · cases h : recV ((frameV r).1.extract 0 K) 0 with
    | none => rfl
    | some x =>
      obtain ⟨h1, h2⟩ := recV_room h
      have := ext_size (frameV r).1 0 K (by omega)
      omega
  · have e : (frameV r).1.extract 0 K = put4V r.size ++ put4V (crcV r) ++ r.extract 0 (K - 8) := by
      have hr' : 1 ≤ r.size ∧ r.size ≤ 65536 := hr
      have hF : (frameV r).1 = put4V r.size ++ put4V (crcV r) ++ r := by unfold frameV; rw [if_pos hr']
      have h8 : (put4V r.size ++ put4V (crcV r)).size = 8 := by rw [app_size, put4_size, put4_size]
      rw [hF, ext_app_ge _ _ (by omega), h8]
    have h65 := hr.2
    rw [e, rec_at _ _ _ (by omega) (put4_size _), if_neg (fun h => by have := ext_size r 0 (K - 8) (by omega); omega)]
/-- What is found in the first bytes of a row of frames. -/
theorem scan_pre : ∀ (l : List ByteArray), (∀ r ∈ l, Good r) → ∀ K, K ≤ (FR l).size → ∃ j, j ≤ l.length ∧ scanV ((FR l).extract 0 K) = (l.take j, (FR (l.take j)).size) ∧ (FR (l.take j)).size ≤ K ∧ ∀ i, i ≤ l.length → (FR (l.take i)).size ≤ K → i ≤ j
  | [], _, K, hK => by
    have h0 : K = 0 := Nat.le_zero.1 hK
    subst h0
    exact ⟨0, Nat.le_refl _, by kernel_rfl, Nat.zero_le _, fun i hi _ => hi⟩
  | r :: l, hl, K, hK => by
    have hr := hl r (List.mem_cons_self ..)
    have hs := frame_size hr
    have hK' : K ≤ (frameV r).1.size + (FR l).size := by rw [← app_size]; exact hK
    by_cases c : K < (frameV r).1.size
    · refine ⟨0, Nat.zero_le _, ?_, Nat.zero_le _, fun i hi hf => ?_⟩
      · show scanV (((frameV r).1 ++ FR l).extract 0 K) = _
        rw [ext_app_le _ _ (by omega), scan_none (rec_cut hr c)]; rfl
      · cases i with
        | zero => exact Nat.le_refl _
        | succ i =>
          exfalso
          have : (FR ((r :: l).take (i + 1))).size = (frameV r).1.size + (FR (l.take i)).size := by
            show ((frameV r).1 ++ FR (l.take i)).size = _
            rw [app_size]
          omega
    · obtain ⟨j, h1, h2, h3, h4⟩ := scan_pre l (fun x hx => hl x (List.mem_cons_of_mem _ hx)) (K - (frameV r).1.size) (by omega)
      have e : ∀ i, (FR ((r :: l).take (i + 1))).size = (frameV r).1.size + (FR (l.take i)).size := fun i => by
        show ((frameV r).1 ++ FR (l.take i)).size = _
        rw [app_size]
      refine ⟨j + 1, Nat.succ_le_succ h1, ?_, by rw [e]; omega, fun i hi hf => ?_⟩
      · show scanV (((frameV r).1 ++ FR l).extract 0 K) = _
        rw [ext_app_ge _ _ (by omega), scan_cons hr, h2, e]; rfl
      · cases i with
        | zero => exact Nat.zero_le _
        | succ i =>
          rw [e] at hf
          exact Nat.succ_le_succ (h4 i (Nat.le_of_succ_le_succ hi) (by omega))
theorem scan_all {l : List ByteArray} (hl : ∀ r ∈ l, Good r) : scanV (FR l) = (l, (FR l).size) := by
  obtain ⟨j, h1, h2, h3, h4⟩ := scan_pre l hl (FR l).size (Nat.le_refl _)
  have := h4 l.length (Nat.le_refl _) (by rw [List.take_of_length_le (Nat.le_refl _)]; exact Nat.le_refl _)
  have e : j = l.length := by omega
  rw [ext_all _ (Nat.le_refl _), e, List.take_of_length_le (Nat.le_refl _)] at h2
  exact h2
end Go.Ev

/-! WalScans. -/
namespace Go.Ev
set_option linter.unusedVariables false
set_option linter.unusedSimpArgs false
open Go.Ev.So Go.Proofs

theorem eq_str (a : ByteArray) : eqA .s (.str a) (.str a) = some true := by rw [eq_S, dec_t rfl]
theorem scanG_len (s : ByteArray) : ∀ d p, (scanG s d p).1.length ≤ d
  | 0, p => by simp [scanG]
  | d + 1, p => by
    unfold scanG
    split
    · simp
    · exact Nat.succ_le_succ (scanG_len s d _)
theorem scanV_len (s : ByteArray) : (scanV s).1.length ≤ s.size + 1 := scanG_len s _ _
set_option maxHeartbeats 4000000 in
theorem scans_r (s : St) (a : ByteArray) (_ : a.size < 140737488355328) : Run T f_w07_WalScans [.str a] s fun r _ => r = .bool true := by
  refine run_body (F := r_w07_WalScans) (has rfl) (by simp [r_w07_WalScans]) ?_
  simp only [r_w07_WalScans, XX, CC, YY, Nat.reduceAdd, Nat.reduceSub, Nat.reduceLeDiff, Nat.reduceLT, Nat.reduceEqDiff, reduceIte, ↓reduceIte, Nat.reduceBEq]
  refine (awake07_r s).use ?_
  have em : (a.size : Int) > 1048576 ∨ ¬ (a.size : Int) > 1048576 := Classical.em _
  rcases em with c | c
  · simp only [XX, CC, YY, Nat.reduceAdd, Nat.reduceSub, Nat.reduceLeDiff, Nat.reduceLT, Nat.reduceEqDiff, reduceIte, ↓reduceIte, Nat.reduceBEq, Bool.not_true, dec_t c]
    exact .inl rfl
  · simp only [XX, CC, YY, Nat.reduceAdd, Nat.reduceSub, Nat.reduceLeDiff, Nat.reduceLT, Nat.reduceEqDiff, reduceIte, ↓reduceIte, Nat.reduceBEq, Bool.not_true, dec_f c]
    refine (frame_r (T := T) s a (by omega)).use ?_
    simp only [XX, CC, YY, Nat.reduceAdd, Nat.reduceSub, Nat.reduceLeDiff, Nat.reduceLT, Nat.reduceEqDiff, reduceIte, ↓reduceIte, Nat.reduceBEq]
    refine (rframe_r (T := T) s a (by omega)).use ?_
    simp only [XX, CC, YY, Nat.reduceAdd, Nat.reduceSub, Nat.reduceLeDiff, Nat.reduceLT, Nat.reduceEqDiff, reduceIte, ↓reduceIte, Nat.reduceBEq]
    refine Run.mono _ _ _ _ _ ?_ (scan_r s a (by omega))
    rintro v t ⟨r1, rfl, h1⟩
    have hl := scanV_len a
    have e1 := eq_str (frameV a).1
    have e2 : ((frameV a).2 == (frameV a).2) = true := by simp
    have e3 : (((scanV a).2 : Int) == (scanV a).2) = true := by simp
    generalize frameV a = F at *
    generalize hS : scanV a = S at *
    have r1d := h1.rd cS_len
    simp only [XX, CC, YY, Nat.reduceAdd, Nat.reduceSub, Nat.reduceLeDiff, Nat.reduceLT, Nat.reduceEqDiff, reduceIte, ↓reduceIte, Nat.reduceBEq]
    refine Run.mono _ _ _ _ _ ?_ (rscan_r (T := T) t a (by omega))
    rw [hS]
    rintro v t2 ⟨r2, rfl, h2⟩
    have r2d := h2.rd cS_len
    simp only [XX, CC, YY, Nat.reduceAdd, Nat.reduceSub, Nat.reduceLeDiff, Nat.reduceLT, Nat.reduceEqDiff, reduceIte, ↓reduceIte, Nat.reduceBEq, e1, e2]
    refine (same07_r (T := T) t2 r1 r2 S.1 S.1 (by omega) (by omega) (r1d.ext h2.ext) r2d).use ?_
    rw [decide_eq_true rfl]
    simp only [XX, CC, YY, Nat.reduceAdd, Nat.reduceSub, Nat.reduceLeDiff, Nat.reduceLT, Nat.reduceEqDiff, reduceIte, ↓reduceIte, Nat.reduceBEq, e3]
    exact .inl rfl
end Go.Ev

/-! WalSpoilt. -/
namespace Go.Ev
set_option linter.unusedVariables false
set_option linter.unusedSimpArgs false
open Go.Ev.So Go.Proofs

theorem frame_w (s : St) (a : ByteArray) : RunD T f_wal_Frame [.str a] s (.tup [.str (frameV a).1, .int .i64 (frameV a).2]) s := by
  by_cases c : 1 ≤ a.size ∧ a.size ≤ 65536
  · exact frame_r (T := T) s a (by omega)
  · refine run_body (F := r_wal_Frame) (has rfl) (by simp [r_wal_Frame]) ?_
    simp only [r_wal_Frame, XX, CC, YY, Nat.reduceAdd, Nat.reduceSub, Nat.reduceLeDiff, Nat.reduceLT, Nat.reduceEqDiff, reduceIte, ↓reduceIte, Nat.reduceBEq]
    refine (isrec_r (T := T) s a.size).use ?_
    unfold frameV
    rw [if_neg c]
    simp only [XX, CC, YY, Nat.reduceAdd, Nat.reduceSub, Nat.reduceLeDiff, Nat.reduceLT, Nat.reduceEqDiff, reduceIte, ↓reduceIte, Nat.reduceBEq, dec_f (show ¬ (1 ≤ (a.size : Int) ∧ (a.size : Int) ≤ 65536) by omega), Bool.not_false]
    exact .inl ⟨rfl, rfl⟩
theorem frame_code (a : ByteArray) : ((frameV a).2 = 0 ∧ 1 ≤ a.size ∧ a.size ≤ 65536) ∨ (frameV a).2 = 1 := by
  unfold frameV
  by_cases c : 1 ≤ a.size ∧ a.size ≤ 65536
  · rw [if_pos c]; exact .inl ⟨rfl, c⟩
  · rw [if_neg c]; exact .inr rfl
theorem u64_wrap (x : Int) : IntKind.u64.wrap x = x % 18446744073709551616 := by simp [IntKind.wrap, IntKind.bits, IntKind.signed]
theorem u8_wrap (x : Int) : IntKind.u8.wrap x = x % 256 := by simp [IntKind.wrap, IntKind.bits, IntKind.signed]
theorem rem_u64 {x m : Int} (hx : 0 ≤ x) (hm : 0 < m) : binA .rem (.int .u64 x) (.int .u64 m) = some (.int .u64 (x % m)) := by
  simp only [binA]
  rw [if_pos ⟨trivial, by omega⟩, Int.tmod_eq_emod_of_nonneg hx]
theorem rem_i8 {x : Nat} : binA .rem (.int .i64 (x : Int)) (.int .i64 8) = some (.int .i64 ((x % 8 : Nat) : Int)) := by
  simp only [binA]
  rw [if_pos ⟨trivial, by decide⟩, Int.tmod_eq_emod_of_nonneg (by omega)]; rfl
theorem quo_i8 {x : Nat} (h : x < 1000000000) : binA .quo (.int .i64 (x : Int)) (.int .i64 8) = some (.int .i64 ((x / 8 : Nat) : Int)) := by
  simp only [binA]
  rw [if_pos ⟨trivial, by decide⟩, Int.tdiv_eq_ediv_of_nonneg (by omega), w64_in (by omega) (by omega)]; rfl
theorem shl_u8 {x : Nat} (h : x < 8) : binA .shl (.int .u8 1) (.int .u64 (x : Int)) = some (.int .u8 ((2 ^ x : Nat) : Int)) := by
  obtain h | h | h | h | h | h | h | h : x = 0 ∨ x = 1 ∨ x = 2 ∨ x = 3 ∨ x = 4 ∨ x = 5 ∨ x = 6 ∨ x = 7 := by omega
  all_goals subst h; rfl
theorem xor8 {a b : Nat} (ha : a < 256) (hb : b < 256) : binA .xor (.int .u8 (a : Int)) (.int .u8 (b : Int)) = some (.int .u8 ((a ^^^ b : Nat) : Int)) := by
  have hx : a ^^^ b < 2 ^ 8 := Nat.xor_lt_two_pow (by simpa using ha) (by simpa using hb)
  simp only [binA, if_true, bitsA, show IntKind.u8.bits = 8 from rfl, ofInt_nat, BitVec.toNat_xor, BitVec.toNat_ofNat]
  rw [Nat.mod_eq_of_lt (show a < 2 ^ 8 by simpa using ha), Nat.mod_eq_of_lt (show b < 2 ^ 8 by simpa using hb), u8_wrap]
  congr 2; omega
theorem pow_lt8 {x : Nat} (h : x < 8) : 2 ^ x < 256 := Nat.pow_lt_pow_right (by decide) h
theorem xor_ne {a b : Nat} (h : b ≠ 0) : a ^^^ b ≠ a := fun e => h (by
  have := congrArg (a ^^^ ·) e
  simpa [← Nat.xor_assoc] using this)
/-- the bytes, one changed -/
theorem flat_cB : ∀ l : List Nat, l.flatMap cB = l.map fun b : Nat => AV.int .u8 (b : Int)
  | [] => rfl
  | x :: l => by rw [List.flatMap_cons, flat_cB l]; rfl
theorem byts_set (B : ByteArray) (j y : Nat) : (byts B).set j (.int .u8 (y : Int)) = ((B.toList.map fun b => b.toNat).set j y).flatMap cB := by
  rw [flat_cB, List.map_set]
  unfold byts
  rw [List.map_map]; rfl
theorem set_tl (B : ByteArray) (j y : Nat) : (strB (((B.toList.map fun b => b.toNat).set j y).map Int.ofNat)).toList = B.toList.set j (UInt8.ofNat y) := by
  rw [tl_str, List.map_set, List.map_map]
  congr 1
  conv => rhs; rw [← List.map_id B.toList]
  apply List.map_congr_left
  intro x _
  simp
end Go.Ev

/-! A disk with one file, the log's, at most. -/
namespace Go.Ev
set_option linter.unusedVariables false
set_option linter.unusedSimpArgs false
open Go.Ev.So Go.Proofs

def HF (D : Dsk) (data : ByteArray) (safe : Int) : Prop := (D.fs = [] ∧ data = bts [] ∧ safe = 0) ∨ ∃ fb k, D.fs = [(⟨wNm, data, safe, fb⟩, k)]
section
variable {D : Dsk} {data : ByteArray} {safe : Int}
theorem HF.same {D' : Dsk} (h : HF D data safe) (e : D'.fs = D.fs) : HF D' data safe := by unfold HF at h ⊢; rw [e]; exact h
theorem HF.ok (h : HF D data safe) (hO : DOk D) : FOk data safe := by
  rcases h with ⟨_, rfl, rfl⟩ | ⟨fb, k, h⟩
  · unfold FOk; exact ⟨by omega, by decide, by decide⟩
  · exact hO.files (⟨wNm, data, safe, fb⟩, k) (by rw [h]; exact List.mem_singleton.2 rfl)
theorem chk_log (hd : D.down = false) : chkV D [wNm] = 0 := by
  have e : ([wNm].all nameB) = true := by kernel_rfl
  unfold chkV; rw [hd, e]; rfl
theorem HF.get (h : HF D data safe) : (D.fs = [] ∧ data = bts [] ∧ safe = 0 ∧ getF D wNm = none) ∨ ∃ fb k, D.fs = [(⟨wNm, data, safe, fb⟩, k)] ∧ getF D wNm = some ⟨wNm, data, safe, fb⟩ := by
  rcases h with ⟨h, rfl, rfl⟩ | ⟨fb, k, h⟩
  · refine .inl ⟨h, rfl, rfl, ?_⟩
    unfold getF; rw [h]; rfl
  · refine .inr ⟨fb, k, h, ?_⟩
    unfold getF; rw [h]; simp
theorem HF.read (h : HF D data safe) (hd : D.down = false) : (readV D wNm).1 = data ∧ ((readV D wNm).2 = 0 ∨ (readV D wNm).2 = 62) := by
  unfold readV
  rw [chk_log hd]
  rcases h.get with ⟨_, rfl, _, hg⟩ | ⟨fb, k, _, hg⟩ <;> rw [hg]
  · exact ⟨rfl, .inr rfl⟩
  · exact ⟨rfl, .inl rfl⟩
theorem HF.app (h : HF D data safe) (hd : D.down = false) (x : ByteArray) (hs : data.size + x.size ≤ 1048576) (fb : Nat) :
    appC D wNm x = 0 ∧ HF (appM D wNm x fb) (data ++ x) safe ∧ (appM D wNm x fb).down = false ∧ (gone (appM D wNm x fb) ↔ gone D) := by
  unfold appC appM
  rw [chk_log hd]
  rcases h.get with ⟨hf, rfl, rfl, hg⟩ | ⟨fb', k, hf, hg⟩ <;> rw [hg]
  · have hl : ¬ D.fs.length ≥ 16 := by rw [hf]; decide
    have e0 : (bts []).size = 0 := rfl
    have hz : ¬ (x.size : Int) > 1048576 := by omega
    refine ⟨by simp only; rw [if_neg (by simp), if_neg hl, if_neg hz], .inr ⟨fb, D.clock, ?_⟩, hd, Iff.rfl⟩
    show D.fs ++ _ = _
    rw [hf]; rfl
  · have hz : ¬ (x.size : Int) > 1048576 - data.size := by omega
    refine ⟨by simp only; rw [if_neg (by simp), if_neg hz], .inr ⟨fb', k, ?_⟩, hd, Iff.rfl⟩
    show D.fs.map _ = _
    rw [hf]; simp [updF]
theorem HF.lose (h : HF D data safe) (hk : FOk data safe) (keep : Int) : ∃ K : Nat, safe ≤ K ∧ K ≤ data.size ∧ HF (loseD D keep) (data.extract 0 K) K ∧ (keep = 0 → (K : Int) = safe) := by
  rcases h with ⟨hf, rfl, rfl⟩ | ⟨fb, k, hf⟩
  · refine ⟨0, by omega, Nat.zero_le _, .inl ⟨?_, by kernel_rfl, rfl⟩, fun _ => rfl⟩
    show D.fs.map _ = _
    rw [hf]; rfl
  · obtain ⟨h1, h2⟩ := kept_in (keep := keep) hk
    unfold FOk at hk
    refine ⟨(keptF keep data safe).toNat, by omega, by omega, .inr ⟨fb, k, ?_⟩, fun h0 => ?_⟩
    · show D.fs.map _ = _
      rw [hf]
      have e : ((keptF keep data safe).toNat : Int) = keptF keep data safe := by omega
      simp [loseF, e]
    · subst h0
      have : keptF 0 data safe = safe := by unfold keptF; rw [if_neg (by decide)]
      omega
theorem HF.spend (h : HF D data safe) (hk : FOk data safe) (hd : D.down = false) : (spendC D = 0 ∧ HF (spendV D) data safe ∧ (spendV D).down = false) ∨ (gone D ∧ spendC D = 60 ∧ (spendV D).down = true ∧ ∃ K : Nat, safe ≤ K ∧ K ≤ data.size ∧ HF (spendV D) (data.extract 0 K) K) := by
  unfold spendC spendV
  by_cases c : gone D
  · rw [if_pos c, if_pos c]
    obtain ⟨K, h1, h2, h3, _⟩ := h.lose hk D.keep
    exact .inr ⟨c, rfl, rfl, K, h1, h2, h3⟩
  · rw [if_neg c, if_neg c]
    exact .inl ⟨rfl, h.same rfl, hd⟩
theorem HF.syn (h : HF D data safe) (hk : FOk data safe) (hd : D.down = false) (hne : data ≠ bts []) :
    (outC D (syncC D wNm) = 0 ∧ HF (syncV D wNm) data data.size ∧ (syncV D wNm).down = false) ∨ (gone D ∧ outC D (syncC D wNm) = 60 ∧ (syncV D wNm).down = true ∧ ∃ K : Nat, safe ≤ K ∧ K ≤ data.size ∧ HF (syncV D wNm) (data.extract 0 K) K) := by
  rcases h.get with ⟨_, h2, _⟩ | ⟨fb, k, hf, hg⟩
  · exact absurd h2 hne
  · have hc : syncC D wNm = 0 := by unfold syncC; rw [chk_log hd, hg]; rfl
    have e1 : outC D (syncC D wNm) = spendC D := by unfold outC; rw [hc]; rfl
    have e2 : syncV D wNm = if spendC D ≠ 0 then spendV D else Go.Ev.setF (spendV D) wNm fun x => { x with safe := x.data.size } := by unfold syncV; rw [hc]; rfl
    rcases h.spend hk hd with ⟨h1, h2, h3⟩ | ⟨h0, h1, h2, K, h3, h4, h5⟩
    · refine .inl ⟨by rw [e1, h1], ?_, ?_⟩
      · rw [e2, h1]
        rcases spendC_val D with ⟨g1, g2⟩ | ⟨g1, _⟩
        · rw [g2]
          refine .inr ⟨fb, k, ?_⟩
          show (Go.Ev.setF (spendD D) wNm _).fs = _
          show D.fs.map _ = _
          rw [hf]; simp [updF]
        · rw [h1] at g1; cases g1
      · rw [e2, h1]; exact h3
    · refine .inr ⟨h0, by rw [e1, h1], ?_, K, h3, h4, ?_⟩
      · rw [e2, h1]; exact h2
      · rw [e2, h1]; exact h5
theorem HF.lapp {L : Lg} (h : HF D data safe) (hk : FOk data safe) (hd : D.down = false) (hL : L.name = wNm) (he : L.ended = false) {r : ByteArray} (hr : Good r) (hs : data.size + (frameV r).1.size ≤ 1048576) (fb : Nat) :
    (appCode L D r = 0 ∧ (appLog L D r).ended = false ∧ (appDisk L D r fb).down = false ∧ HF (appDisk L D r fb) (data ++ (frameV r).1) safe) ∨
    (gone D ∧ appCode L D r = 60 ∧ (appLog L D r).ended = true ∧ (appDisk L D r fb).down = true ∧ ∃ K : Nat, safe ≤ K ∧ K ≤ (data ++ (frameV r).1).size ∧ HF (appDisk L D r fb) ((data ++ (frameV r).1).extract 0 K) K) := by
  have ho : lgOff L D = false := by unfold lgOff; rw [hd, he]; rfl
  have hf : (frameV r).2 = 0 := by
    rcases frame_code r with h | h
    · exact h.1
    · unfold frameV at h; rw [if_pos (show 1 ≤ r.size ∧ r.size ≤ 65536 from hr)] at h; cases h
  obtain ⟨c1, c2, c3, c4⟩ := h.app hd (frameV r).1 hs fb
  have hk2 : FOk (data ++ (frameV r).1) safe := by
    unfold FOk at hk ⊢
    rw [app_size]; omega
  have eC : appCode L D r = spendC D := by unfold appCode; rw [ho, hf, hL, c1]; rfl
  have eD : appDisk L D r fb = spendV (appM D wNm (frameV r).1 fb) := by
    unfold appDisk; rw [ho, hf, hL]
    show appV D wNm _ fb = _
    unfold appV; rw [c1]; rfl
  have eE : (appLog L D r).ended = decide (spendC D = 60) := by
    unfold appLog; rw [ho, hf, hL, c1]; rfl
  rw [eC, eD, eE]
  have hg : spendC (appM D wNm (frameV r).1 fb) = spendC D := by
    unfold spendC
    by_cases c : gone D
    · rw [if_pos c, if_pos (c4.2 c)]
    · rw [if_neg c, if_neg (fun x => c (c4.1 x))]
  rcases c2.spend hk2 c3 with ⟨h1, h2, h3⟩ | ⟨h0, h1, h2, K, h3, h4, h5⟩
  · rw [hg] at h1
    exact .inl ⟨h1, by rw [h1]; rfl, h3, h2⟩
  · rw [hg] at h1
    exact .inr ⟨c4.1 h0, h1, by rw [h1]; rfl, h2, K, h3, h4, h5⟩
theorem HF.lsyn {L : Lg} (h : HF D data safe) (hk : FOk data safe) (hd : D.down = false) (hL : L.name = wNm) (he : L.ended = false) (hne : data ≠ bts []) :
    (syncCode L D = 0 ∧ (syncLog L D).ended = false ∧ (syncDisk L D).down = false ∧ HF (syncDisk L D) data data.size) ∨
    (gone D ∧ syncCode L D = 60 ∧ (syncLog L D).ended = true ∧ (syncDisk L D).down = true ∧ ∃ K : Nat, safe ≤ K ∧ K ≤ data.size ∧ HF (syncDisk L D) (data.extract 0 K) K) := by
  have ho : lgOff L D = false := by unfold lgOff; rw [hd, he]; rfl
  have eD : syncDisk L D = syncV D wNm := by unfold syncDisk; rw [ho, hL]; rfl
  have eE : (syncLog L D).ended = decide (outC D (syncC D wNm) = 60) := by unfold syncLog; rw [ho, hL]; rfl
  rcases h.syn hk hd hne with ⟨h1, h2, h3⟩ | ⟨h0, h1, h2, K, h3, h4, h5⟩
  · exact .inl ⟨by unfold syncCode; rw [ho, hL, h1]; rfl, by rw [eE, h1]; rfl, by rw [eD]; exact h3, by rw [eD]; exact h2⟩
  · exact .inr ⟨h0, by unfold syncCode; rw [ho, hL, h1]; rfl, by rw [eE, h1]; rfl, by rw [eD]; exact h2, K, h3, h4, by rw [eD]; exact h5⟩
theorem off_app {L : Lg} (ho : lgOff L D = true) (r : ByteArray) (fb : Nat) : appCode L D r = 60 ∧ appDisk L D r fb = D ∧ (appLog L D r).ended = true ∧ (appLog L D r).name = L.name := by
  refine ⟨by unfold appCode; rw [ho]; rfl, by unfold appDisk; rw [ho]; rfl, by unfold appLog; rw [ho]; rfl, rfl⟩
theorem off_syn {L : Lg} (ho : lgOff L D = true) : syncCode L D = 60 ∧ syncDisk L D = D := by
  refine ⟨by unfold syncCode; rw [ho]; rfl, by unfold syncDisk; rw [ho]; rfl⟩
theorem HF.opn (h : HF D data safe) (hd : D.down = false) (ha : D.armed = false) {l : List ByteArray} {m : Nat} (hsc : scanV data = (l, m)) (hm : m ≤ data.size) (b : Nat) :
    openE D wNm = 0 ∧ (∃ s', HF (openD D wNm) (data.extract 0 m) s') ∧ (openD D wNm).down = false ∧ (openD D wNm).armed = false ∧ (scanV (readV D wNm).1).1 = l ∧ openL D wNm b = ⟨b, wNm, m, false⟩ := by
  obtain ⟨r1, r2⟩ := h.read hd
  have hX : openX D wNm = false := by unfold openX; rw [decide_eq_false]; omega
  have hS : openS D wNm = decide ((m : Int) < data.size) := by unfold openS; rw [r1, hsc]
  have hn : ¬ gone D := fun g => by have := g.1; rw [ha] at this; cases this
  have hsp : spendC D = 0 := by unfold spendC; rw [if_neg hn]
  have hsV : spendV D = spendD D := by unfold spendV; rw [if_neg hn]
  have hrest : (scanV (readV D wNm).1).1 = l ∧ openL D wNm b = ⟨b, wNm, m, false⟩ := by
    unfold openL; rw [r1, hsc]; exact ⟨rfl, rfl⟩
  by_cases c : (m : Int) < data.size
  · have hS' : openS D wNm = true := by rw [hS, decide_eq_true c]
    have e1 : openE D wNm = outC D (cutC D wNm m) := by unfold openE; rw [hX, hS', r1, hsc]; rfl
    have e2 : openD D wNm = cutV' D wNm m := by unfold openD; rw [hX, hS', r1, hsc]; rfl
    rcases h.get with ⟨_, h2, _⟩ | ⟨fb, k, hf, hg⟩
    · exfalso
      have e0 : (bts []).size = 0 := rfl
      rw [h2] at c; omega
    · have hc : cutC D wNm m = 0 := by
        unfold cutC; rw [chk_log hd, hg]
        simp only
        rw [if_neg (by simp), if_neg (by omega)]
      have e3 : cutV' D wNm m = setF (spendD D) wNm fun x => { x with data := x.data.extract 0 (m : Int).toNat, safe := m } := by
        unfold cutV'; rw [hc, hsp, hsV]; rfl
      rw [e1, e2, e3]
      refine ⟨by unfold outC; rw [hc]; exact hsp, ⟨m, .inr ⟨fb, k, ?_⟩⟩, hd, ha, hrest⟩
      show D.fs.map _ = _
      rw [hf]; simp [updF]
  · have hS' : openS D wNm = false := by rw [hS, decide_eq_false c]
    have e1 : openE D wNm = 0 := by unfold openE; rw [hX, hS']; rfl
    have e2 : openD D wNm = D := by unfold openD; rw [hX, hS']; rfl
    rw [e1, e2, ext_all _ (by omega)]
    exact ⟨rfl, ⟨safe, h⟩, hd, ha, hrest⟩
theorem HF.now (h : HF D data safe) (hd : D.down = false) (ha : D.armed = false) : ¬ gone D := fun g => by have := g.1; rw [ha] at this; cases this
end
end Go.Ev

/-! A disk, a log, a slice in one store; the program's calls over them. -/
namespace Go.Ev
set_option linter.unusedVariables false
set_option linter.unusedSimpArgs false
open Go.Ev.So Go.Proofs

def RC.fst : RC → RC
  | .seq a _ => a
  | c => c
def RC.snd : RC → RC
  | .seq _ b => b
  | c => c
def RC.inn : RC → RC
  | .block _ c => c
  | .loop c => c
  | c => c
/-- From disk to disk; besides, what X tells may turn. -/
structure GStep (n b : Nat) (X : Nat → Prop) (D D' : Dsk) (t t' : St) : Prop where
  at_ : DAt t' n b D'
  ok : DOk D'
  len : t.length ≤ t'.length
  same : ∀ i, i < t.length → ¬ DFoot b D i → ¬ X i → t'[i]? = t[i]?
  foot : ∀ i, DFoot b D' i → DFoot b D i ∨ t.length ≤ i
structure CW (s : St) (n b : Nat) (D : Dsk) (t : St) : Prop where
  at_ : DAt t n b D
  ok : DOk D
  nt : n ≤ t.length
  foot : ∀ i, DFoot b D i → s.length ≤ i
  len : s.length ≤ t.length
  same : ∀ i, i < s.length → t[i]? = s[i]?
structure LW (s : St) (b : Nat) (D : Dsk) (k : Nat) (L : Lg) (t : St) : Prop where
  log : t[k]? = some (.cells true (cG L))
  out : ¬ DFoot b D k
  base : s.length ≤ k
  db : L.db = b
  name : L.name.size < 140737488355328
structure SW (s : St) (b : Nat) (D : Dsk) (t : St) (v : AV) (l : List ByteArray) : Prop where
  own : Own s.length 1 cS t v l
  out : ∀ i, (∃ o e m c, v = .sl i o e m c) → ¬ DFoot b D i
section
variable {s t t' : St} {n b k : Nat} {D D' : Dsk} {L L' : Lg} {v : AV} {l : List ByteArray} {X : Nat → Prop}
theorem DStep.g (h : DStep n b D D' t t') : GStep n b (fun _ => False) D D' t t' := ⟨h.at_, h.ok, h.len, fun i hi hf _ => h.same i hi hf, h.foot⟩
theorem CW.ext (h : CW s n b D t) : Ext s t := ext_same h.len h.same
theorem CW.step (h : CW s n b D t) (g : GStep n b X D D' t t') (hX : ∀ i, X i → s.length ≤ i) : CW s n b D' t' := by
  have h1 := h.len
  have h2 := g.len
  have h3 := h.nt
  refine ⟨g.at_, g.ok, by omega, fun i hi => ?_, by omega, fun i hi => ?_⟩
  · rcases g.foot i hi with x | x
    · exact h.foot i x
    · omega
  · rw [g.same i (by omega) (fun x => by have := h.foot i x; omega) (fun x => by have := hX i x; omega)]
    exact h.same i hi
theorem LW.lt (h : LW s b D k L t) : k < t.length := (List.getElem?_eq_some_iff.1 h.log).1
theorem LW.step (h : LW s b D k L t) (g : GStep n b X D D' t t') (hX : ¬ X k) : LW s b D' k L t' := by
  refine ⟨?_, fun x => ?_, h.base, h.db, h.name⟩
  · rw [g.same k h.lt h.out hX]; exact h.log
  · have := h.lt
    rcases g.foot k x with y | y
    · exact h.out y
    · omega
theorem Own.lt (h : Own n 1 cS t v l) {i : Nat} (hv : ∃ o e m c, v = .sl i o e m c) : i < t.length := by
  obtain ⟨o, e, m, c, hv⟩ := hv
  exact (h.rd cS_len).lt hv
theorem SW.step (h : SW s b D t v l) (g : GStep n b X D D' t t') (hX : ∀ i, X i → ¬ ∃ o e m c, v = .sl i o e m c) : SW s b D' t' v l := by
  refine ⟨h.own.keep fun i hi hv => ?_, fun i hv x => ?_⟩
  · exact g.same i (h.own.lt hv) (h.out i hv) (fun x => hX i x hv)
  · have := h.own.lt hv
    rcases g.foot i x with y | y
    · exact h.out i hv y
    · omega
theorem CW.app (h : CW s n b D t) (r : St) : GStep n b (fun _ => False) D D t (t ++ r) := ⟨h.at_.ext ⟨r, rfl⟩, h.ok, by simp, fun i hi _ _ => List.getElem?_append_left hi, fun i x => .inl x⟩
theorem CW.by (h : CW s n b D t) (hl : t.length ≤ t'.length) (hs : ∀ i, i < t.length → ¬ X i → t'[i]? = t[i]?) (hX : ∀ i, X i → ¬ DFoot b D i) : GStep n b X D D t t' :=
  ⟨h.at_.other fun i hi => hs i (hi.lt h.at_) fun x => hX i x hi, h.ok, hl, fun i hi _ hx => hs i hi hx, fun i x => .inl x⟩
theorem lapp_w (hC : CW s n b D t) (hL : LW s b D k L t) (p : ByteArray) (hp : p.size < 1000000) :
    Run T f_wal_Log_Append [.ptr k 0, .str p] t fun v t' => v = .int .i64 (appCode L D p) ∧ LW s b (appDisk L D p t.length) k (appLog L D p) t' ∧ GStep n b (fun i => i = k) D (appDisk L D p t.length) t t' := by
  obtain ⟨h1, h2, h3, h4, h5⟩ := hL
  subst h4
  refine Run.mono _ _ _ _ _ ?_ (lgappend_r t n k L D p h1 hC.at_ hC.ok hC.nt h2 h5 hp)
  rintro v t' ⟨rfl, h⟩
  exact ⟨rfl, ⟨h.log, by have := h.out h1 h2; rw [h.db] at this; exact this, h3, h.db, by rw [h.name]; exact h5⟩, h.at_, h.ok, h.len, fun i hi hf hk => h.same i hi hf hk, h.foot⟩
theorem lsyn_w (hC : CW s n b D t) (hL : LW s b D k L t) :
    Run T f_wal_Log_Sync [.ptr k 0] t fun v t' => v = .int .i64 (syncCode L D) ∧ LW s b (syncDisk L D) k (syncLog L D) t' ∧ GStep n b (fun i => i = k) D (syncDisk L D) t t' := by
  obtain ⟨h1, h2, h3, h4, h5⟩ := hL
  subst h4
  refine Run.mono _ _ _ _ _ ?_ (lgsync_r t n k L D h1 hC.at_ hC.ok h2 h5)
  rintro v t' ⟨rfl, h⟩
  exact ⟨rfl, ⟨h.log, by have := h.out h1 h2; rw [h.db] at this; exact this, h3, h.db, by rw [h.name]; exact h5⟩, h.at_, h.ok, h.len, fun i hi hf hk => h.same i hi hf hk, h.foot⟩
theorem off_w (hC : CW s n b D t) (keep : Int) : Run T f_files_Disk_Off [.ptr b 0, .int .i64 keep] t fun v t' => v = .tup [] ∧ GStep n b (fun _ => False) D (offV D keep) t t' := by
  refine Run.mono _ _ _ _ _ ?_ (off_g t n b D keep hC.at_ hC.ok)
  rintro v t' ⟨rfl, h⟩
  exact ⟨rfl, h.g⟩
theorem on_w (hC : CW s n b D t) : Run T f_files_Disk_On [.ptr b 0] t fun v t' => v = .tup [] ∧ GStep n b (fun _ => False) D (onD D) t t' := by
  refine Run.mono _ _ _ _ _ ?_ (on_g t n b D hC.at_ hC.ok)
  rintro v t' ⟨rfl, h⟩
  exact ⟨rfl, h.g⟩
theorem arm_w (hC : CW s n b D t) (j keep : Int) : Run T f_files_Disk_Arm [.ptr b 0, .int .i64 j, .int .i64 keep] t fun v t' => v = .tup [] ∧ GStep n b (fun _ => False) D (armD D j keep) t t' := by
  refine Run.mono _ _ _ _ _ ?_ (arm_g t n b D j keep hC.at_ hC.ok)
  rintro v t' ⟨rfl, h⟩
  exact ⟨rfl, h.g⟩
theorem opn_w (hC : CW s n b D t) (name : ByteArray) (hs : name.size < 140737488355328) (hE : openE D name = 0) :
    Run T f_wal_Open [.ptr b 0, .str name] t fun v t' => ∃ k r, v = .tup [.ptr k 0, r, .int .i64 0] ∧ t.length ≤ k ∧ GStep n b (fun _ => False) D (openD D name) t t' ∧ LW s b (openD D name) k (openL D name b) t' ∧ SW s b (openD D name) t' r (scanV (readV D name).1).1 ∧ (∀ i, (∃ o e m c, r = .sl i o e m c) → t.length ≤ i ∧ i ≠ k) := by
  refine Run.mono _ _ _ _ _ ?_ (open_r t n b D name hC.at_ hC.ok hs)
  rintro v t' ⟨h1, _, h2⟩
  obtain ⟨k, r, rfl, hk, hk2, hown, hne⟩ := h2 hE
  have hl := hC.len
  have hlt : ∀ i, DFoot b (openD D name) i → i < t.length := fun i x => ((openD_foot D name b i).1 x).lt hC.at_
  have hrl : ∀ i, (∃ o e m c, r = .sl i o e m c) → t.length ≤ i := fun i hv => by
    obtain ⟨o, e, m, c, hv⟩ := hv
    exact hown.ge hv
  exact ⟨k, r, rfl, hk, h1.g, ⟨hk2, fun x => by have := hlt k x; omega, by omega, rfl, hs⟩, ⟨hown.mono hl, fun i hv x => by have := hlt i x; have := hrl i hv; omega⟩, fun i hv => ⟨hrl i hv, fun x => by
    obtain ⟨o, e, m, c, hv⟩ := hv
    subst x
    exact hne o e m c hv⟩⟩
end
theorem newC {s t : St} (hx : Ext s t) : CW s t.length (t.length + 1) (newD t.length) (t ++ [.map [] 0, .cells true (cD (newD t.length))]) := by
  have hl := hx.len
  refine ⟨new_at t, newD_ok _, by simp, fun i hi => ?_, by simp; omega, fun i hi => ?_⟩
  · rcases hi with rfl | rfl | ⟨f, hf, _⟩
    · omega
    · exact hl
    · simp [newD] at hf
  · rw [List.getElem?_append_left (by omega), hx.get hi]
end Go.Ev

/-! Both disks and both logs in one store. -/
namespace Go.Ev
set_option linter.unusedVariables false
set_option linter.unusedSimpArgs false
open Go.Ev.So Go.Proofs

def PF (b : Nat) (D : Dsk) (lv : AV) (i : Nat) : Prop := DFoot b D i ∨ lv = .ptr i 0
def QF (b : Nat) (R : Rsk) (mv : AV) (i : Nat) : Prop := RFoot b R i ∨ mv = .ptr i 0
structure PS (n b : Nat) (D : Dsk) (name : ByteArray) (lv : AV) (L : Option Lg) (t : St) : Prop where
  at_ : DAt t n b D
  ok : DOk D
  nt : n ≤ t.length
  log : (lv = .nilp ∧ L = none) ∨ ∃ k l, lv = .ptr k 0 ∧ L = some l ∧ t[k]? = some (.cells true (cG l)) ∧ ¬ DFoot b D k ∧ l.db = b ∧ l.name = name
structure QS (n b : Nat) (R : Rsk) (name : ByteArray) (mv : AV) (M : Option Lg) (t : St) : Prop where
  at_ : RAt t n b R
  gd : RGd R
  nt : n ≤ t.length
  log : (mv = .nilp ∧ M = none) ∨ ∃ k l, mv = .ptr k 0 ∧ M = some l ∧ t[k]? = some (.cells true (cG l)) ∧ ¬ RFoot b R k ∧ l.db = b ∧ l.name = name
structure Gs (A A' : Nat → Prop) (t t' : St) : Prop where
  len : t.length ≤ t'.length
  same : ∀ i, i < t.length → ¬ A i → t'[i]? = t[i]?
  foot : ∀ i, A' i → A i ∨ t.length ≤ i
section
variable {n b : Nat} {D D' : Dsk} {R R' : Rsk} {name : ByteArray} {lv mv : AV} {L M : Option Lg} {t t' : St}
theorem PS.lt (h : PS n b D name lv L t) {i : Nat} (hi : PF b D lv i) : i < t.length := by
  rcases hi with hi | hi
  · exact hi.lt h.at_
  · rcases h.log with ⟨e, _⟩ | ⟨k, l, e, _, hk, _⟩
    · rw [e] at hi; cases hi
    · rw [e] at hi; cases hi; exact (List.getElem?_eq_some_iff.1 hk).1
theorem QS.lt (h : QS n b R name mv M t) {i : Nat} (hi : QF b R mv i) : i < t.length := by
  rcases hi with hi | hi
  · exact hi.lt h.at_
  · rcases h.log with ⟨e, _⟩ | ⟨k, l, e, _, hk, _⟩
    · rw [e] at hi; cases hi
    · rw [e] at hi; cases hi; exact (List.getElem?_eq_some_iff.1 hk).1
theorem PS.keep (h : PS n b D name lv L t) (hs : ∀ i, PF b D lv i → t'[i]? = t[i]?) (hl : t.length ≤ t'.length) : PS n b D name lv L t' := by
  refine ⟨h.at_.other fun i hi => hs i (.inl hi), h.ok, Nat.le_trans h.nt hl, ?_⟩
  rcases h.log with x | ⟨k, l, e, e2, hk, x⟩
  · exact .inl x
  · exact .inr ⟨k, l, e, e2, by rw [hs k (.inr e)]; exact hk, x⟩
theorem QS.keep (h : QS n b R name mv M t) (hs : ∀ i, QF b R mv i → t'[i]? = t[i]?) (hl : t.length ≤ t'.length) : QS n b R name mv M t' := by
  refine ⟨h.at_.other fun i hi => hs i (.inl hi), h.gd, Nat.le_trans h.nt hl, ?_⟩
  rcases h.log with x | ⟨k, l, e, e2, hk, x⟩
  · exact .inl x
  · exact .inr ⟨k, l, e, e2, by rw [hs k (.inr e)]; exact hk, x⟩
/-! ### the program's calls -/
theorem DStep.ps (h : PS n b D name lv L t) (g : DStep n b D D' t t') : PS n b D' name lv L t' ∧ Gs (PF b D lv) (PF b D' lv) t t' := by
  refine ⟨⟨g.at_, g.ok, Nat.le_trans h.nt g.len, ?_⟩, g.len, fun i hi hf => g.same i hi fun x => hf (.inl x), fun i hi => ?_⟩
  · rcases h.log with x | ⟨k, l, e, e2, hk, hd, x⟩
    · exact .inl x
    · have hlt := (List.getElem?_eq_some_iff.1 hk).1
      exact .inr ⟨k, l, e, e2, by rw [g.same k hlt hd]; exact hk, fun y => by rcases g.foot k y with z | z; exact hd z; omega, x⟩
  · rcases hi with x | x
    · rcases g.foot i x with z | z
      · exact .inl (.inl z)
      · exact .inr z
    · exact .inl (.inr x)
def oapC (L : Option Lg) (D : Dsk) (p : ByteArray) : Int := match L with
  | some l => appCode l D p
  | none => 2
def oapD (L : Option Lg) (D : Dsk) (p : ByteArray) (fb : Nat) : Dsk := match L with
  | some l => appDisk l D p fb
  | none => D
def osyC (L : Option Lg) (D : Dsk) : Int := match L with
  | some l => syncCode l D
  | none => 2
def osyD (L : Option Lg) (D : Dsk) : Dsk := match L with
  | some l => syncDisk l D
  | none => D
theorem Gs.refl (h : ∀ i, PF b D lv i → PF b D lv i) : Gs (PF b D lv) (PF b D lv) t t := ⟨Nat.le_refl _, fun _ _ _ => rfl, fun _ x => .inl x⟩
theorem LStep.ps {k : Nat} {l l' : Lg} (h : PS n b D name (.ptr k 0) (some l) t) (hb : l.db = b) (hn : l.name = name) (hk : t[k]? = some (.cells true (cG l))) (hd : ¬ DFoot b D k) (g : LStep n k l l' D D' t t') :
    PS n b D' name (.ptr k 0) (some l') t' ∧ Gs (PF b D (.ptr k 0)) (PF b D' (.ptr k 0)) t t' := by
  subst hb
  have hlt := (List.getElem?_eq_some_iff.1 hk).1
  have ho : ¬ DFoot l.db D' k := fun y => by rcases g.foot k y with z | z; exact hd z; omega
  refine ⟨⟨g.at_, g.ok, Nat.le_trans h.nt g.len, .inr ⟨k, l', rfl, rfl, g.log, ho, g.db, g.name.trans hn⟩⟩, g.len, fun i hi hf => g.same i hi (fun x => hf (.inl x)) (fun x => hf (.inr (by rw [x]))), fun i hi => ?_⟩
  rcases hi with x | x
  · rcases g.foot i x with z | z
    · exact .inl (.inl z)
    · exact .inr z
  · exact .inl (.inr x)
theorem papp (h : PS n b D name lv L t) (hs : name.size < 140737488355328) (p : ByteArray) (hp : p.size < 1000000) :
    Run T f_wal_Log_Append [lv, .str p] t fun v t' => v = .int .i64 (oapC L D p) ∧ PS n b (oapD L D p t.length) name lv (L.map fun l => appLog l D p) t' ∧ Gs (PF b D lv) (PF b (oapD L D p t.length) lv) t t' := by
  rcases h.log with ⟨rfl, rfl⟩ | ⟨k, l, rfl, rfl, hk, hd, hb, hn⟩
  · exact (lgappendnil_r t p).use ⟨rfl, h, .refl fun _ x => x⟩
  · refine Run.mono _ _ _ _ _ ?_ (lgappend_r t n k l D p hk (by rw [hb]; exact h.at_) h.ok h.nt (by rw [hb]; exact hd) (by rw [hn]; exact hs) hp)
    rintro v t' ⟨rfl, g⟩
    exact ⟨rfl, LStep.ps h hb hn hk hd g⟩
theorem psyn (h : PS n b D name lv L t) (hs : name.size < 140737488355328) :
    Run T f_wal_Log_Sync [lv] t fun v t' => v = .int .i64 (osyC L D) ∧ PS n b (osyD L D) name lv (L.map fun l => syncLog l D) t' ∧ Gs (PF b D lv) (PF b (osyD L D) lv) t t' := by
  rcases h.log with ⟨rfl, rfl⟩ | ⟨k, l, rfl, rfl, hk, hd, hb, hn⟩
  · exact (lgsyncnil_r t).use ⟨rfl, h, .refl fun _ x => x⟩
  · refine Run.mono _ _ _ _ _ ?_ (lgsync_r t n k l D hk (by rw [hb]; exact h.at_) h.ok (by rw [hb]; exact hd) (by rw [hn]; exact hs))
    rintro v t' ⟨rfl, g⟩
    exact ⟨rfl, LStep.ps h hb hn hk hd g⟩
theorem popn (h : PS n b D name lv L t) (hs : name.size < 140737488355328) :
    Run T f_wal_Open [.ptr b 0, .str name] t fun v t' => ∃ lv' r L', v = .tup [lv', r, .int .i64 (openE D name)] ∧ PS n b (openD D name) name lv' L' t' ∧ Gs (PF b D lv) (PF b (openD D name) lv') t t' ∧
      ((openE D name = 0 ∧ (∃ k, lv' = .ptr k 0) ∧ L' = some (openL D name b) ∧ Own t.length 1 cS t' r (scanV (readV D name).1).1 ∧ ∀ i, (∃ o e m c, r = .sl i o e m c) → ¬ PF b (openD D name) lv' i) ∨ (openE D name ≠ 0 ∧ lv' = .nilp ∧ L' = none ∧ r = .nils)) := by
  refine Run.mono _ _ _ _ _ ?_ (open_r t n b D name h.at_ h.ok hs)
  rintro v t' ⟨g, g1, g2⟩
  have hlt : ∀ i, DFoot b (openD D name) i → i < t.length := fun i x => ((openD_foot D name b i).1 x).lt h.at_
  by_cases c : openE D name = 0
  · obtain ⟨k, r, rfl, hk, hk2, hown, hne⟩ := g2 c
    have hkf : ¬ DFoot b (openD D name) k := fun x => by have := hlt k x; omega
    refine ⟨.ptr k 0, r, some (openL D name b), by rw [c], ⟨g.at_, g.ok, Nat.le_trans h.nt g.len, .inr ⟨k, _, rfl, rfl, hk2, hkf, rfl, rfl⟩⟩, ⟨g.len, fun i hi hf => g.same i hi fun x => hf (.inl x), fun i hi => ?_⟩, .inl ⟨c, ⟨k, rfl⟩, rfl, hown, fun i hv hf => ?_⟩⟩
    · rcases hi with x | x
      · exact .inl (.inl ((openD_foot D name b i).1 x))
      · cases x; exact .inr hk
    · obtain ⟨o, e, m, cc, hv⟩ := hv
      rcases hf with x | x
      · have := hlt i x; have := hown.ge hv; omega
      · cases x; exact hne o e m cc hv
  · refine ⟨.nilp, .nils, none, g1 c, ⟨g.at_, g.ok, Nat.le_trans h.nt g.len, .inl ⟨rfl, rfl⟩⟩, ⟨g.len, fun i hi hf => g.same i hi fun x => hf (.inl x), fun i hi => ?_⟩, .inr ⟨c, rfl, rfl, rfl⟩⟩
    rcases hi with x | x
    · exact .inl (.inl ((openD_foot D name b i).1 x))
    · cases x
/-! ### the reference's -/
theorem RStep.qs (h : QS n b R name mv M t) (g : RStep n b R R' t t') (hg : RGd R') : QS n b R' name mv M t' ∧ Gs (QF b R mv) (QF b R' mv) t t' := by
  refine ⟨⟨g.at_, hg, Nat.le_trans h.nt g.len, ?_⟩, g.len, fun i hi hf => g.same i hi fun x => hf (.inl x), fun i hi => ?_⟩
  · rcases h.log with x | ⟨k, l, e, e2, hk, hd, x⟩
    · exact .inl x
    · have hlt := (List.getElem?_eq_some_iff.1 hk).1
      exact .inr ⟨k, l, e, e2, by rw [g.same k hlt hd]; exact hk, fun y => by rcases g.foot k y with z | z; exact hd z; omega, x⟩
  · rcases hi with x | x
    · rcases g.foot i x with z | z
      · exact .inl (.inl z)
      · exact .inr z
    · exact .inl (.inr x)
def qapC (M : Option Lg) (R : Rsk) (p : ByteArray) : Int := match M with
  | some l => rappCode l R p
  | none => 2
def qapD (M : Option Lg) (R : Rsk) (p : ByteArray) : Rsk := match M with
  | some l => rappDisk l R p
  | none => R
def qsyC (M : Option Lg) (R : Rsk) : Int := match M with
  | some l => rsyncCode l R
  | none => 2
def qsyD (M : Option Lg) (R : Rsk) : Rsk := match M with
  | some l => rsyncDisk l R
  | none => R
theorem Gs.reflq : Gs (QF b R mv) (QF b R mv) t t := ⟨Nat.le_refl _, fun _ _ _ => rfl, fun _ x => .inl x⟩
theorem RLStep.qs {k : Nat} {l l' : Lg} (h : QS n b R name (.ptr k 0) (some l) t) (hb : l.db = b) (hn : l.name = name) (hk : t[k]? = some (.cells true (cG l))) (hd : ¬ RFoot b R k) (g : RLStep n k l l' R R' t t') :
    QS n b R' name (.ptr k 0) (some l') t' ∧ Gs (QF b R (.ptr k 0)) (QF b R' (.ptr k 0)) t t' := by
  subst hb
  have hlt := (List.getElem?_eq_some_iff.1 hk).1
  have ho : ¬ RFoot l.db R' k := fun y => by rcases g.foot k y with z | z; exact hd z; omega
  refine ⟨⟨g.at_, g.gd, Nat.le_trans h.nt g.len, .inr ⟨k, l', rfl, rfl, g.log, ho, g.db, g.name.trans hn⟩⟩, g.len, fun i hi hf => g.same i hi (fun x => hf (.inl x)) (fun x => hf (.inr (by rw [x]))), fun i hi => ?_⟩
  rcases hi with x | x
  · rcases g.foot i x with z | z
    · exact .inl (.inl z)
    · exact .inr z
  · exact .inl (.inr x)
theorem qapp (h : QS n b R name mv M t) (hs : name.size < 140737488355328) (p : ByteArray) (hp : p.size < 1000000) :
    Run T f_r07_Log_Append [mv, .str p] t fun v t' => v = .int .i64 (qapC M R p) ∧ ∃ w, QS n b { qapD M R p with v := w } name mv (M.map fun l => rappLog l R p) t' ∧ Gs (QF b R mv) (QF b { qapD M R p with v := w } mv) t t' := by
  rcases h.log with ⟨rfl, rfl⟩ | ⟨k, l, rfl, rfl, hk, hd, hb, hn⟩
  · exact (rlgappendnil_r t p).use ⟨rfl, R.v, h, .reflq⟩
  · refine Run.mono _ _ _ _ _ ?_ (rlgappend_r t n k l R p hk (by rw [hb]; exact h.at_) h.gd h.nt (by rw [hb]; exact hd) (by rw [hn]; exact hs) hp)
    rintro v t' ⟨rfl, w, g⟩
    exact ⟨rfl, w, RLStep.qs h hb hn hk hd g⟩
theorem qsyn (h : QS n b R name mv M t) (hs : name.size < 140737488355328) :
    Run T f_r07_Log_Sync [mv] t fun v t' => v = .int .i64 (qsyC M R) ∧ ∃ w, QS n b { qsyD M R with v := w } name mv (M.map fun l => rsyncLog l R) t' ∧ Gs (QF b R mv) (QF b { qsyD M R with v := w } mv) t t' := by
  rcases h.log with ⟨rfl, rfl⟩ | ⟨k, l, rfl, rfl, hk, hd, hb, hn⟩
  · exact (rlgsyncnil_r t).use ⟨rfl, R.v, h, .reflq⟩
  · refine Run.mono _ _ _ _ _ ?_ (rlgsync_r t n k l R hk (by rw [hb]; exact h.at_) h.gd (by rw [hb]; exact hd) (by rw [hn]; exact hs))
    rintro v t' ⟨rfl, w, g⟩
    exact ⟨rfl, w, RLStep.qs h hb hn hk hd g⟩
theorem qopn (h : QS n b R name mv M t) (hs : name.size < 140737488355328) :
    Run T f_r07_Open [.ptr b 0, .str name] t fun v t' => ∃ mv' r M' w, v = .tup [mv', r, .int .i64 (ropenE R name)] ∧ QS n b { ropenD R name with v := w } name mv' M' t' ∧ Gs (QF b R mv) (QF b { ropenD R name with v := w } mv') t t' ∧
      ((ropenE R name = 0 ∧ (∃ k, mv' = .ptr k 0) ∧ M' = some (ropenL R name b) ∧ Own t.length 1 cS t' r (scanV (rreadV R name).1).1) ∨ (ropenE R name ≠ 0 ∧ mv' = .nilp ∧ M' = none ∧ r = .nils)) := by
  refine Run.mono _ _ _ _ _ ?_ (ropen_r t n b R name h.at_ h.gd hs)
  rintro v t' ⟨w, g, gd, g1, g2⟩
  by_cases c : ropenE R name = 0
  · obtain ⟨k, r, rfl, hk, hk2, hown, hkf⟩ := g2 c
    refine ⟨.ptr k 0, r, some (ropenL R name b), w, by rw [c], ⟨g.at_, gd, Nat.le_trans h.nt g.len, .inr ⟨k, _, rfl, rfl, hk2, hkf, rfl, rfl⟩⟩, ⟨g.len, fun i hi hf => g.same i hi fun x => hf (.inl x), fun i hi => ?_⟩, .inl ⟨c, ⟨k, rfl⟩, rfl, hown⟩⟩
    rcases hi with x | x
    · rcases g.foot i x with z | z
      · exact .inl (.inl z)
      · exact .inr z
    · cases x; exact .inr hk
  · refine ⟨.nilp, .nils, none, w, g1 c, ⟨g.at_, gd, Nat.le_trans h.nt g.len, .inl ⟨rfl, rfl⟩⟩, ⟨g.len, fun i hi hf => g.same i hi fun x => hf (.inl x), fun i hi => ?_⟩, .inr ⟨c, rfl, rfl, rfl⟩⟩
    rcases hi with x | x
    · rcases g.foot i x with z | z
      · exact .inl (.inl z)
      · exact .inr z
    · cases x
end
end Go.Ev

/-! The joint store's steps. -/
namespace Go.Ev
set_option linter.unusedVariables false
set_option linter.unusedSimpArgs false
open Go.Ev.So Go.Proofs

structure EB (s : St) (n b n2 b2 : Nat) (name : ByteArray) (D : Dsk) (R : Rsk) (lv mv : AV) (L M : Option Lg) (t : St) : Prop where
  ps : PS n b D name lv L t
  qs : QS n2 b2 R name mv M t
  apart : ∀ i, PF b D lv i → ¬ QF b2 R mv i
  pb : ∀ i, PF b D lv i → s.length ≤ i
  qb : ∀ i, QF b2 R mv i → s.length ≤ i
  len : s.length ≤ t.length
  same : ∀ i, i < s.length → t[i]? = s[i]?
def KB (b : Nat) (D : Dsk) (lv : AV) (b2 : Nat) (R : Rsk) (mv : AV) (t : St) (i : Nat) (B : Blk) : Prop := t[i]? = some B ∧ ¬ PF b D lv i ∧ ¬ QF b2 R mv i
section
variable {s t t' : St} {n b n2 b2 : Nat} {name : ByteArray} {D D' : Dsk} {R R' : Rsk} {lv mv lv' mv' : AV} {L M L' M' : Option Lg}
theorem EB.ext (h : EB s n b n2 b2 name D R lv mv L M t) : Ext s t := ext_same h.len h.same
theorem EB.pstep (h : EB s n b n2 b2 name D R lv mv L M t) (p : PS n b D' name lv' L' t') (g : Gs (PF b D lv) (PF b D' lv') t t') : EB s n b n2 b2 name D' R lv' mv L' M t' := by
  have hl := h.len
  have gl := g.len
  have hq : ∀ i, QF b2 R mv i → t'[i]? = t[i]? := fun i hi => g.same i (h.qs.lt hi) fun x => h.apart i x hi
  refine ⟨p, h.qs.keep hq gl, fun i hi hf => ?_, fun i hi => ?_, h.qb, by omega, fun i hi => ?_⟩
  · have := h.qs.lt hf
    rcases g.foot i hi with x | x
    · exact h.apart i x hf
    · omega
  · rcases g.foot i hi with x | x
    · exact h.pb i x
    · omega
  · rw [g.same i (by omega) fun x => by have := h.pb i x; omega]; exact h.same i hi
theorem EB.rstep (h : EB s n b n2 b2 name D R lv mv L M t) (q : QS n2 b2 R' name mv' M' t') (g : Gs (QF b2 R mv) (QF b2 R' mv') t t') : EB s n b n2 b2 name D R' lv mv' L M' t' := by
  have hl := h.len
  have gl := g.len
  have hp : ∀ i, PF b D lv i → t'[i]? = t[i]? := fun i hi => g.same i (h.ps.lt hi) fun x => h.apart i hi x
  refine ⟨h.ps.keep hp gl, q, fun i hi hf => ?_, h.pb, fun i hi => ?_, by omega, fun i hi => ?_⟩
  · have := h.ps.lt hi
    rcases g.foot i hf with x | x
    · exact h.apart i hi x
    · omega
  · rcases g.foot i hi with x | x
    · exact h.qb i x
    · omega
  · rw [g.same i (by omega) fun x => by have := h.qb i x; omega]; exact h.same i hi
theorem EB.app (h : EB s n b n2 b2 name D R lv mv L M t) (r : St) : EB s n b n2 b2 name D R lv mv L M (t ++ r) := by
  have hl := h.len
  refine ⟨h.ps.keep (fun i hi => List.getElem?_append_left (h.ps.lt hi)) (by simp), h.qs.keep (fun i hi => List.getElem?_append_left (h.qs.lt hi)) (by simp), h.apart, h.pb, h.qb, by simp; omega, fun i hi => ?_⟩
  rw [List.getElem?_append_left (by omega)]; exact h.same i hi
theorem KB.pstep {i : Nat} {B : Blk} (k : KB b D lv b2 R mv t i B) (g : Gs (PF b D lv) (PF b D' lv') t t') : KB b D' lv' b2 R mv t' i B := by
  obtain ⟨k1, k2, k3⟩ := k
  have hlt := (List.getElem?_eq_some_iff.1 k1).1
  exact ⟨by rw [g.same i hlt k2]; exact k1, fun x => by rcases g.foot i x with y | y; exact k2 y; omega, k3⟩
theorem KB.rstep {i : Nat} {B : Blk} (k : KB b D lv b2 R mv t i B) (g : Gs (QF b2 R mv) (QF b2 R' mv') t t') : KB b D lv b2 R' mv' t' i B := by
  obtain ⟨k1, k2, k3⟩ := k
  have hlt := (List.getElem?_eq_some_iff.1 k1).1
  exact ⟨by rw [g.same i hlt k3]; exact k1, k2, fun x => by rcases g.foot i x with y | y; exact k3 y; omega⟩
theorem EB.new (h : EB s n b n2 b2 name D R lv mv L M t) (B : Blk) : KB b D lv b2 R mv (t ++ [B]) t.length B :=
  ⟨get_last, fun x => by have := h.ps.lt x; omega, fun x => by have := h.qs.lt x; omega⟩
/-! ### the disks' calls -/
theorem earm (h : PS n b D name lv L t) (k keep : Int) : Run T f_files_Disk_Arm [.ptr b 0, .int .i64 k, .int .i64 keep] t fun v t' => v = .tup [] ∧ PS n b (armD D k keep) name lv L t' ∧ Gs (PF b D lv) (PF b (armD D k keep) lv) t t' := by
  refine Run.mono _ _ _ _ _ ?_ (arm_g t n b D k keep h.at_ h.ok)
  rintro v t' ⟨rfl, g⟩
  exact ⟨rfl, g.ps h⟩
theorem eoff (h : PS n b D name lv L t) (keep : Int) : Run T f_files_Disk_Off [.ptr b 0, .int .i64 keep] t fun v t' => v = .tup [] ∧ PS n b (offV D keep) name lv L t' ∧ Gs (PF b D lv) (PF b (offV D keep) lv) t t' := by
  refine Run.mono _ _ _ _ _ ?_ (off_g t n b D keep h.at_ h.ok)
  rintro v t' ⟨rfl, g⟩
  exact ⟨rfl, g.ps h⟩
theorem eon (h : PS n b D name lv L t) : Run T f_files_Disk_On [.ptr b 0] t fun v t' => v = .tup [] ∧ PS n b (onD D) name lv L t' ∧ Gs (PF b D lv) (PF b (onD D) lv) t t' := by
  refine Run.mono _ _ _ _ _ ?_ (on_g t n b D h.at_ h.ok)
  rintro v t' ⟨rfl, g⟩
  exact ⟨rfl, g.ps h⟩
theorem eapp (h : PS n b D name lv L t) (hs : name.size < 140737488355328) (data : ByteArray) (hd : data.size < 140737488355328) : Run T f_files_Disk_Append [.ptr b 0, .str name, .str data] t fun v t' => v = .int .i64 (outC D (appC D name data)) ∧ PS n b (appV D name data t.length) name lv L t' ∧ Gs (PF b D lv) (PF b (appV D name data t.length) lv) t t' := by
  refine Run.mono _ _ _ _ _ ?_ (append_g t n b D name data h.at_ h.ok h.nt hs hd)
  rintro v t' ⟨rfl, g⟩
  exact ⟨rfl, g.ps h⟩
theorem farm (h : QS n b R name mv M t) (k keep : Int) : Run T f_r06_Disk_Arm [.ptr b 0, .int .i64 k, .int .i64 keep] t fun v t' => v = .tup [] ∧ QS n b (rarm R k keep) name mv M t' ∧ Gs (QF b R mv) (QF b (rarm R k keep) mv) t t' := by
  refine Run.mono _ _ _ _ _ ?_ (rarm_g (T := T) t n b R k keep h.at_)
  rintro v t' ⟨rfl, g⟩
  have hg : RGd (rarm R k keep) := h.gd.same (by unfold rarm; split <;> rfl)
  exact ⟨rfl, g.qs h hg⟩
theorem foff (h : QS n b R name mv M t) (keep : Int) : Run T f_r06_Disk_Off [.ptr b 0, .int .i64 keep] t fun v t' => v = .tup [] ∧ QS n b (roff R keep) name mv M t' ∧ Gs (QF b R mv) (QF b (roff R keep) mv) t t' := by
  refine Run.mono _ _ _ _ _ ?_ (roff_g (T := T) t n b R keep h.at_ h.gd.ok)
  rintro v t' ⟨rfl, g⟩
  have hg : RGd (roff R keep) := by
    unfold roff; split
    · exact h.gd
    · exact gone_gd h.gd keep
  exact ⟨rfl, g.qs h hg⟩
theorem fon (h : QS n b R name mv M t) : Run T f_r06_Disk_On [.ptr b 0] t fun v t' => v = .tup [] ∧ QS n b (ron R) name mv M t' ∧ Gs (QF b R mv) (QF b (ron R) mv) t t' := by
  refine Run.mono _ _ _ _ _ ?_ (ron_g (T := T) t n b R h.at_)
  rintro v t' ⟨rfl, g⟩
  exact ⟨rfl, g.qs h (h.gd.same rfl)⟩
theorem fapp (h : QS n b R name mv M t) (hs : name.size < 140737488355328) (data : ByteArray) (hd : data.size < 140737488355328) : Run T f_r06_Disk_Append [.ptr b 0, .str name, .str data] t fun v t' => v = .int .i64 (routC R (rappC R name data)) ∧ ∃ w, QS n b { rappTo R name data with v := w } name mv M t' ∧ Gs (QF b R mv) (QF b { rappTo R name data with v := w } mv) t t' := by
  refine Run.mono _ _ _ _ _ ?_ (rappend_g (T := T) t n b R name data h.at_ h.gd h.nt hs hd)
  rintro v t' ⟨rfl, w, g, hg⟩
  exact ⟨rfl, w, RStep.qs h g hg⟩
/-! ### what is alike -/
def OR (L M : Option Lg) : Prop := (L = none ∧ M = none) ∨ ∃ l m, L = some l ∧ M = some m ∧ LgR l m
theorem OR.app (h : OR L M) (p : PR D R) (x : ByteArray) (fb : Nat) : qapC M R x = oapC L D x ∧ PR (oapD L D x fb) (qapD M R x) ∧ OR (L.map fun l => appLog l D x) (M.map fun l => rappLog l R x) := by
  rcases h with ⟨rfl, rfl⟩ | ⟨l, m, rfl, rfl, h⟩
  · exact ⟨rfl, p, .inl ⟨rfl, rfl⟩⟩
  · obtain ⟨h1, h2, h3⟩ := h.lapp p x fb
    exact ⟨h1, h2, .inr ⟨_, _, rfl, rfl, h3⟩⟩
theorem OR.syn (h : OR L M) (p : PR D R) : qsyC M R = osyC L D ∧ PR (osyD L D) (qsyD M R) ∧ OR (L.map fun l => syncLog l D) (M.map fun l => rsyncLog l R) := by
  rcases h with ⟨rfl, rfl⟩ | ⟨l, m, rfl, rfl, h⟩
  · exact ⟨rfl, p, .inl ⟨rfl, rfl⟩⟩
  · obtain ⟨h1, h2, h3⟩ := h.lsyn p
    exact ⟨h1, h2, .inr ⟨_, _, rfl, rfl, h3⟩⟩
theorem PR.openL (h : PR D R) : LgR (Go.Ev.openL D name b) (ropenL R name b2) := ⟨rfl, by unfold ropenL Go.Ev.openL; rw [h.read], rfl⟩
/-- the size that a log tells -/
def osz : Option Lg → Int
  | some l => l.size
  | none => 0
theorem OR.sz (h : OR L M) : osz M = osz L := by
  rcases h with ⟨rfl, rfl⟩ | ⟨l, m, rfl, rfl, h⟩
  · rfl
  · exact h.size
theorem psize (h : PS n b D name lv L t) : RunD T f_wal_Log_Size [lv] t (.int .i64 (osz L)) t := by
  rcases h.log with ⟨rfl, rfl⟩ | ⟨k, l, rfl, rfl, hk, _⟩
  · exact lgsizenil_r t
  · exact lgsize_r t k l hk
theorem qsize (h : QS n b R name mv M t) : RunD T f_r07_Log_Size [mv] t (.int .i64 (osz M)) t := by
  rcases h.log with ⟨rfl, rfl⟩ | ⟨k, l, rfl, rfl, hk, _⟩
  · exact rlgsizenil_r t
  · exact rlgsize_r t k l hk
end
end Go.Ev

/-! WalExact: the test at the end of a round. -/
namespace Go.Ev
set_option linter.unusedVariables false
set_option linter.unusedSimpArgs false
open Go.Ev.So Go.Proofs

/-- An operation of a script: kind, data, n, keep. -/
abbrev Opq := Int × ByteArray × Int × Int
def cOp (q : Opq) : List AV := [.int .i64 q.1, .str q.2.1, .int .i64 q.2.2.1, .int .i64 q.2.2.2]
theorem cOp_len (q : Opq) : (cOp q).length = 4 := id rfl
theorem cOp_cell (q : Opq) : (cOp q).all AV.cell = true := id rfl
def OpQ (q : Opq) : Prop := q.2.1.size < 140737488355328 ∧ -9223372036854775808 ≤ q.2.2.1 ∧ q.2.2.1 ≤ 9223372036854775807
structure EI (s : St) (n b n2 b2 : Nat) (name : ByteArray) (v0 : AV) (i all : Nat) (e : Env) (t : St) (D : Dsk) (R : Rsk) (lv mv : AV) (L M : Option Lg) : Prop where
  eb : EB s n b n2 b2 name D R lv mv L M t
  pr : PR D R
  lr : OR L M
  g0 : e.get 0 = .str name
  g1 : e.get 1 = v0
  g8 : e.get 8 = .ptr b 0
  g9 : e.get 9 = .ptr b2 0
  g10 : e.get 10 = lv
  g12 : e.get 12 = mv
  g15 : e.get 15 = .int .i64 (all : Int)
  g16 : e.get 16 = .int .i64 (i : Int)
noncomputable def exL : RC := r_w07_WalExact.body.snd.snd.snd.snd.snd.snd.snd.snd.snd.snd.fst.snd.inn.inn
noncomputable def exC : RC := r_w07_WalExact.body.snd.snd.snd.snd.snd.snd.snd.snd.snd.snd.snd
noncomputable def exB : RC := exL.snd.fst.inn
noncomputable def exS : RC := exB.snd.snd.snd.fst.snd.inn
noncomputable def exT : RC := exB.snd.snd.snd.snd
section
variable {s : St} {n b n2 b2 : Nat} {name : ByteArray} {v0 : AV} {i all : Nat} {e : Env} {t : St} {D : Dsk} {R : Rsk} {lv mv : AV} {L M : Option Lg}
theorem EI.env (h : EI s n b n2 b2 name v0 i all e t D R lv mv L M) {e' : Env} (k0 : e'.get 0 = e.get 0) (k1 : e'.get 1 = e.get 1) (k8 : e'.get 8 = e.get 8) (k9 : e'.get 9 = e.get 9) (k10 : e'.get 10 = e.get 10) (k12 : e'.get 12 = e.get 12) (k15 : e'.get 15 = e.get 15) (k16 : e'.get 16 = e.get 16) :
    EI s n b n2 b2 name v0 i all e' t D R lv mv L M := ⟨h.eb, h.pr, h.lr, k0.trans h.g0, k1.trans h.g1, k8.trans h.g8, k9.trans h.g9, k10.trans h.g10, k12.trans h.g12, k15.trans h.g15, k16.trans h.g16⟩
set_option maxHeartbeats 1000000 in
theorem exT_r (h : EI s n b n2 b2 name v0 i all e t D R lv mv L M) {Q : XE → Env → St → Prop} (hq : ∀ e', EI s n b n2 b2 name v0 i all e' t D R lv mv L M → Q .nrm e' t) : awp (Run T) exT Q e t := by
  obtain ⟨eb, pr, lr, g0, g1, g8, g9, g10, g12, g15, g16⟩ := id h
  have z1 : osz M = osz L := lr.sz
  have e1 : (osz L == osz L) = true := by simp
  have e2 : (D.steps == D.steps) = true := by simp
  simp only [exT, exB, exL, RC.snd, RC.fst, RC.inn, r_w07_WalExact, XX, CC, YY, Nat.reduceAdd, Nat.reduceSub, Nat.reduceLeDiff, Nat.reduceLT, Nat.reduceEqDiff, reduceIte, ↓reduceIte, Nat.reduceBEq, g10, g12, g8, g9]
  refine (psize eb.ps).use ?_
  (try simp only [XX, CC, YY, Nat.reduceAdd, Nat.reduceSub, Nat.reduceLeDiff, Nat.reduceLT, Nat.reduceEqDiff, reduceIte, ↓reduceIte, Nat.reduceBEq, g12])
  refine (qsize eb.qs).use ?_
  rw [z1]
  simp only [XX, CC, YY, Nat.reduceAdd, Nat.reduceSub, Nat.reduceLeDiff, Nat.reduceLT, Nat.reduceEqDiff, reduceIte, ↓reduceIte, Nat.reduceBEq, e1, g8, g9, Bool.not_true]
  refine (steps_r (T := T) t n b D eb.ps.at_).use ?_
  (try simp only [XX, CC, YY, Nat.reduceAdd, Nat.reduceSub, Nat.reduceLeDiff, Nat.reduceLT, Nat.reduceEqDiff, reduceIte, ↓reduceIte, Nat.reduceBEq, g9])
  refine (rsteps_r (T := T) t b2 R eb.qs.at_.cells).use ?_
  rw [pr.n]
  simp only [XX, CC, YY, Nat.reduceAdd, Nat.reduceSub, Nat.reduceLeDiff, Nat.reduceLT, Nat.reduceEqDiff, reduceIte, ↓reduceIte, Nat.reduceBEq, e2, g8, g9, Bool.not_true]
  refine (down_r (T := T) t n b D eb.ps.at_).use ?_
  (try simp only [XX, CC, YY, Nat.reduceAdd, Nat.reduceSub, Nat.reduceLeDiff, Nat.reduceLT, Nat.reduceEqDiff, reduceIte, ↓reduceIte, Nat.reduceBEq, g9])
  refine (rdown_r (T := T) t b2 R eb.qs.at_.cells).use ?_
  rw [pr.down]
  have e3 : (D.down == D.down) = true := by simp
  simp only [XX, CC, YY, Nat.reduceAdd, Nat.reduceSub, Nat.reduceLeDiff, Nat.reduceLT, Nat.reduceEqDiff, reduceIte, ↓reduceIte, Nat.reduceBEq, e3, Bool.not_true]
  refine hq _ (h.env ?_ ?_ ?_ ?_ ?_ ?_ ?_ ?_) <;> simp only [XX, CC, YY, Nat.reduceAdd, Nat.reduceSub, Nat.reduceLeDiff, Nat.reduceLT, Nat.reduceEqDiff, reduceIte, ↓reduceIte, Nat.reduceBEq]
end
end Go.Ev

/-! WalExact: the arms of a round. -/
namespace Go.Ev
set_option linter.unusedVariables false
set_option linter.unusedSimpArgs false
open Go.Ev.So Go.Proofs

section
variable {s : St} {n b n2 b2 : Nat} {name : ByteArray} {v0 : AV} {i all : Nat} {e : Env} {t : St} {D : Dsk} {R : Rsk} {lv mv : AV} {L M : Option Lg} {ob : Nat} {q : Opq}
theorem ld_op {t : St} (h : t[ob]? = some (.cells true (cOp q))) : ldA t none (.ptr ob 0) = some (.int .i64 q.1) ∧ ldA t none (.ptr ob 1) = some (.str q.2.1) ∧ ldA t none (.ptr ob 2) = some (.int .i64 q.2.2.1) ∧ ldA t none (.ptr ob 3) = some (.int .i64 q.2.2.2) := by
  refine ⟨?_, ?_, ?_, ?_⟩ <;> rw [ld_own h] <;> rfl
/-- What an arm leaves. -/
def Arm (s : St) (n b n2 b2 : Nat) (name : ByteArray) (v0 : AV) (i all : Nat) (Q : XE → Env → St → Prop) : Prop := ∀ e' t' D' R' lv' mv' L' M', EI s n b n2 b2 name v0 i all e' t' D' R' lv' mv' L' M' → Q .nrm e' t'
set_option maxHeartbeats 2000000 in
theorem arm1 (h : EI s n b n2 b2 name v0 i all e t D R lv mv L M) (hs : name.size < 140737488355328) (hd : q.2.1.size < 1000000) (kb : KB b D lv b2 R mv t ob (.cells true (cOp q))) (g17 : e.get 17 = .ptr ob 0) (g84 : e.get 84 = .int .i64 1) {Q : XE → Env → St → Prop} (hq : Arm s n b n2 b2 name v0 i all Q) : awp (Run T) exS Q e t := by
  obtain ⟨eb, pr, lr, g0, g1, g8, g9, g10, g12, g15, g16⟩ := id h
  have k11 : ((1 : Int) == 1) = true := rfl
  obtain ⟨_, l1, _, _⟩ := ld_op kb.1
  simp only [exS, exB, exL, RC.snd, RC.fst, RC.inn, r_w07_WalExact, XX, CC, YY, Nat.reduceAdd, Nat.reduceSub, Nat.reduceLeDiff, Nat.reduceLT, Nat.reduceEqDiff, reduceIte, ↓reduceIte, Nat.reduceBEq, g84, k11]
  refine drw_in [] rfl ?_
  simp only [List.append_nil, DD, CC, YY, Nat.reduceAdd, Nat.reduceSub, Nat.reduceLeDiff, Nat.reduceLT, Nat.reduceEqDiff, reduceIte, ↓reduceIte, Nat.reduceBEq, g10, g17, l1]
  refine dr_callf (papp eb.ps hs q.2.1 hd) ?_
  rintro v t1 ⟨rfl, ps1, gs1⟩
  have eb1 := eb.pstep ps1 gs1
  have kb1 := kb.pstep gs1
  obtain ⟨_, l1', _, _⟩ := ld_op kb1.1
  simp only [DD, CC, YY, Nat.reduceAdd, Nat.reduceSub, Nat.reduceLeDiff, Nat.reduceLT, Nat.reduceEqDiff, reduceIte, ↓reduceIte, Nat.reduceBEq, g10, g12, g17, l1, l1']
  refine ⟨?_, ?_⟩
  · intro x hx p1 p2 hm
    simp only [List.mem_singleton, Prod.mk.injEq] at hm
    obtain ⟨_, rfl, rfl⟩ := hm
    rw [kb.1, kb1.1]
  refine dr_callf (qapp eb1.qs hs q.2.1 hd) ?_
  rintro v t2 ⟨rfl, w, qs2, gs2⟩
  have eb2 := eb1.rstep qs2 gs2
  obtain ⟨c1, c2, c3⟩ := lr.app pr q.2.1 t.length
  rw [c1]
  have ee : (oapC L D q.2.1 == oapC L D q.2.1) = true := by simp
  simp only [DD, CC, YY, Nat.reduceAdd, Nat.reduceSub, Nat.reduceLeDiff, Nat.reduceLT, Nat.reduceEqDiff, reduceIte, ↓reduceIte, Nat.reduceBEq, ee, Bool.not_true]
  refine hq _ _ _ _ _ _ _ _ ⟨eb2, c2.v w, c3, ?_, ?_, ?_, ?_, ?_, ?_, ?_, ?_⟩ <;> simp only [XX, CC, YY, Nat.reduceAdd, Nat.reduceSub, Nat.reduceLeDiff, Nat.reduceLT, Nat.reduceEqDiff, reduceIte, ↓reduceIte, Nat.reduceBEq, g0, g1, g8, g9, g10, g12, g15, g16]
set_option maxHeartbeats 2000000 in
theorem arm2 (h : EI s n b n2 b2 name v0 i all e t D R lv mv L M) (hs : name.size < 140737488355328) (g84 : e.get 84 = .int .i64 2) {Q : XE → Env → St → Prop} (hq : Arm s n b n2 b2 name v0 i all Q) : awp (Run T) exS Q e t := by
  obtain ⟨eb, pr, lr, g0, g1, g8, g9, g10, g12, g15, g16⟩ := id h
  have k1 : ((2 : Int) == 1) = false := rfl
  have k2 : ((2 : Int) == 2) = true := rfl
  simp only [exS, exB, exL, RC.snd, RC.fst, RC.inn, r_w07_WalExact, XX, CC, YY, Nat.reduceAdd, Nat.reduceSub, Nat.reduceLeDiff, Nat.reduceLT, Nat.reduceEqDiff, reduceIte, ↓reduceIte, Nat.reduceBEq, g84, k1, k2, g10, g12]
  refine Run.mono _ _ _ _ _ ?_ (psyn eb.ps hs)
  rintro v t1 ⟨rfl, ps1, gs1⟩
  have eb1 := eb.pstep ps1 gs1
  (try simp only [XX, CC, YY, Nat.reduceAdd, Nat.reduceSub, Nat.reduceLeDiff, Nat.reduceLT, Nat.reduceEqDiff, reduceIte, ↓reduceIte, Nat.reduceBEq, g12])
  refine Run.mono _ _ _ _ _ ?_ (qsyn eb1.qs hs)
  rintro v t2 ⟨rfl, w, qs2, gs2⟩
  have eb2 := eb1.rstep qs2 gs2
  obtain ⟨c1, c2, c3⟩ := lr.syn pr
  rw [c1]
  have ee : (osyC L D == osyC L D) = true := by simp
  simp only [XX, CC, YY, Nat.reduceAdd, Nat.reduceSub, Nat.reduceLeDiff, Nat.reduceLT, Nat.reduceEqDiff, reduceIte, ↓reduceIte, Nat.reduceBEq, ee, Bool.not_true]
  refine hq _ _ _ _ _ _ _ _ ⟨eb2, c2.v w, c3, ?_, ?_, ?_, ?_, ?_, ?_, ?_, ?_⟩ <;> simp only [XX, CC, YY, Nat.reduceAdd, Nat.reduceSub, Nat.reduceLeDiff, Nat.reduceLT, Nat.reduceEqDiff, reduceIte, ↓reduceIte, Nat.reduceBEq, g0, g1, g8, g9, g10, g12, g15, g16]
set_option maxHeartbeats 2000000 in
theorem arm3 (h : EI s n b n2 b2 name v0 i all e t D R lv mv L M) (hr : -9223372036854775808 ≤ q.2.2.1 ∧ q.2.2.1 ≤ 9223372036854775807) (kb : KB b D lv b2 R mv t ob (.cells true (cOp q))) (g17 : e.get 17 = .ptr ob 0) (g84 : e.get 84 = .int .i64 3) {Q : XE → Env → St → Prop} (hq : Arm s n b n2 b2 name v0 i all Q) : awp (Run T) exS Q e t := by
  obtain ⟨eb, pr, lr, g0, g1, g8, g9, g10, g12, g15, g16⟩ := id h
  have k1 : ((3 : Int) == 1) = false := rfl
  have k2 : ((3 : Int) == 2) = false := rfl
  have k3 : ((3 : Int) == 3) = true := rfl
  obtain ⟨_, _, l2, l3⟩ := ld_op kb.1
  simp only [exS, exB, exL, RC.snd, RC.fst, RC.inn, r_w07_WalExact, XX, CC, YY, Nat.reduceAdd, Nat.reduceSub, Nat.reduceLeDiff, Nat.reduceLT, Nat.reduceEqDiff, reduceIte, ↓reduceIte, Nat.reduceBEq, g84, k1, k2, k3, g8, g17, l2, l3]
  refine Run.mono _ _ _ _ _ ?_ (earm eb.ps q.2.2.1 q.2.2.2)
  rintro v t1 ⟨rfl, ps1, gs1⟩
  have eb1 := eb.pstep ps1 gs1
  obtain ⟨_, _, m2, m3⟩ := ld_op (kb.pstep gs1).1
  simp only [XX, CC, YY, Nat.reduceAdd, Nat.reduceSub, Nat.reduceLeDiff, Nat.reduceLT, Nat.reduceEqDiff, reduceIte, ↓reduceIte, Nat.reduceBEq, g9, g17, m2, m3]
  refine Run.mono _ _ _ _ _ ?_ (farm eb1.qs q.2.2.1 q.2.2.2)
  rintro v t2 ⟨rfl, qs2, gs2⟩
  have eb2 := eb1.rstep qs2 gs2
  (try simp only [XX, CC, YY, Nat.reduceAdd, Nat.reduceSub, Nat.reduceLeDiff, Nat.reduceLT, Nat.reduceEqDiff, reduceIte, ↓reduceIte, Nat.reduceBEq])
  refine hq _ _ _ _ _ _ _ _ ⟨eb2, pr.arm_ _ _ hr, lr, ?_, ?_, ?_, ?_, ?_, ?_, ?_, ?_⟩ <;> simp only [XX, CC, YY, Nat.reduceAdd, Nat.reduceSub, Nat.reduceLeDiff, Nat.reduceLT, Nat.reduceEqDiff, reduceIte, ↓reduceIte, Nat.reduceBEq, g0, g1, g8, g9, g10, g12, g15, g16]
set_option maxHeartbeats 2000000 in
theorem arm4 (h : EI s n b n2 b2 name v0 i all e t D R lv mv L M) (kb : KB b D lv b2 R mv t ob (.cells true (cOp q))) (g17 : e.get 17 = .ptr ob 0) (g84 : e.get 84 = .int .i64 4) {Q : XE → Env → St → Prop} (hq : Arm s n b n2 b2 name v0 i all Q) : awp (Run T) exS Q e t := by
  obtain ⟨eb, pr, lr, g0, g1, g8, g9, g10, g12, g15, g16⟩ := id h
  have k1 : ((4 : Int) == 1) = false := rfl
  have k2 : ((4 : Int) == 2) = false := rfl
  have k3 : ((4 : Int) == 3) = false := rfl
  have k4 : ((4 : Int) == 4) = true := rfl
  obtain ⟨_, _, l2, l3⟩ := ld_op kb.1
  simp only [exS, exB, exL, RC.snd, RC.fst, RC.inn, r_w07_WalExact, XX, CC, YY, Nat.reduceAdd, Nat.reduceSub, Nat.reduceLeDiff, Nat.reduceLT, Nat.reduceEqDiff, reduceIte, ↓reduceIte, Nat.reduceBEq, g84, k1, k2, k3, k4, g8, g17, l3]
  refine Run.mono _ _ _ _ _ ?_ (eoff eb.ps q.2.2.2)
  rintro v t1 ⟨rfl, ps1, gs1⟩
  have eb1 := eb.pstep ps1 gs1
  obtain ⟨_, _, m2, m3⟩ := ld_op (kb.pstep gs1).1
  simp only [XX, CC, YY, Nat.reduceAdd, Nat.reduceSub, Nat.reduceLeDiff, Nat.reduceLT, Nat.reduceEqDiff, reduceIte, ↓reduceIte, Nat.reduceBEq, g9, g17, m3]
  refine Run.mono _ _ _ _ _ ?_ (foff eb1.qs q.2.2.2)
  rintro v t2 ⟨rfl, qs2, gs2⟩
  have eb2 := eb1.rstep qs2 gs2
  (try simp only [XX, CC, YY, Nat.reduceAdd, Nat.reduceSub, Nat.reduceLeDiff, Nat.reduceLT, Nat.reduceEqDiff, reduceIte, ↓reduceIte, Nat.reduceBEq])
  refine hq _ _ _ _ _ _ _ _ ⟨eb2, pr.off _, lr, ?_, ?_, ?_, ?_, ?_, ?_, ?_, ?_⟩ <;> simp only [XX, CC, YY, Nat.reduceAdd, Nat.reduceSub, Nat.reduceLeDiff, Nat.reduceLT, Nat.reduceEqDiff, reduceIte, ↓reduceIte, Nat.reduceBEq, g0, g1, g8, g9, g10, g12, g15, g16]
set_option maxHeartbeats 2000000 in
theorem arm5 (h : EI s n b n2 b2 name v0 i all e t D R lv mv L M) (g84 : e.get 84 = .int .i64 5) {Q : XE → Env → St → Prop} (hq : Arm s n b n2 b2 name v0 i all Q) : awp (Run T) exS Q e t := by
  obtain ⟨eb, pr, lr, g0, g1, g8, g9, g10, g12, g15, g16⟩ := id h
  have k1 : ((5 : Int) == 1) = false := rfl
  have k2 : ((5 : Int) == 2) = false := rfl
  have k3 : ((5 : Int) == 3) = false := rfl
  have k4 : ((5 : Int) == 4) = false := rfl
  have k5 : ((5 : Int) == 5) = true := rfl
  simp only [exS, exB, exL, RC.snd, RC.fst, RC.inn, r_w07_WalExact, XX, CC, YY, Nat.reduceAdd, Nat.reduceSub, Nat.reduceLeDiff, Nat.reduceLT, Nat.reduceEqDiff, reduceIte, ↓reduceIte, Nat.reduceBEq, g84, k1, k2, k3, k4, k5, g8]
  refine Run.mono _ _ _ _ _ ?_ (eon eb.ps)
  rintro v t1 ⟨rfl, ps1, gs1⟩
  have eb1 := eb.pstep ps1 gs1
  (try simp only [XX, CC, YY, Nat.reduceAdd, Nat.reduceSub, Nat.reduceLeDiff, Nat.reduceLT, Nat.reduceEqDiff, reduceIte, ↓reduceIte, Nat.reduceBEq, g9])
  refine Run.mono _ _ _ _ _ ?_ (fon eb1.qs)
  rintro v t2 ⟨rfl, qs2, gs2⟩
  have eb2 := eb1.rstep qs2 gs2
  (try simp only [XX, CC, YY, Nat.reduceAdd, Nat.reduceSub, Nat.reduceLeDiff, Nat.reduceLT, Nat.reduceEqDiff, reduceIte, ↓reduceIte, Nat.reduceBEq])
  refine hq _ _ _ _ _ _ _ _ ⟨eb2, pr.on, lr, ?_, ?_, ?_, ?_, ?_, ?_, ?_, ?_⟩ <;> simp only [XX, CC, YY, Nat.reduceAdd, Nat.reduceSub, Nat.reduceLeDiff, Nat.reduceLT, Nat.reduceEqDiff, reduceIte, ↓reduceIte, Nat.reduceBEq, g0, g1, g8, g9, g10, g12, g15, g16]
theorem arm0 (h : EI s n b n2 b2 name v0 i all e t D R lv mv L M) {k : Int} (g84 : e.get 84 = .int .i64 k) (h1 : k ≠ 1) (h2 : k ≠ 2) (h3 : k ≠ 3) (h4 : k ≠ 4) (h5 : k ≠ 5) (h6 : k ≠ 6) (h7 : k ≠ 7) {Q : XE → Env → St → Prop} (hq : Arm s n b n2 b2 name v0 i all Q) : awp (Run T) exS Q e t := by
  obtain ⟨eb, pr, lr, g0, g1, g8, g9, g10, g12, g15, g16⟩ := id h
  have f : ∀ x : Int, k ≠ x → (k == x) = false := fun x hx => by simp [hx]
  simp only [exS, exB, exL, RC.snd, RC.fst, RC.inn, r_w07_WalExact, XX, CC, YY, Nat.reduceAdd, Nat.reduceSub, Nat.reduceLeDiff, Nat.reduceLT, Nat.reduceEqDiff, reduceIte, ↓reduceIte, Nat.reduceBEq, g84, f 1 h1, f 2 h2, f 3 h3, f 4 h4, f 5 h5, f 6 h6, f 7 h7]
  refine hq _ _ _ _ _ _ _ _ ⟨eb, pr, lr, ?_, ?_, ?_, ?_, ?_, ?_, ?_, ?_⟩ <;> simp only [XX, CC, YY, Nat.reduceAdd, Nat.reduceSub, Nat.reduceLeDiff, Nat.reduceLT, Nat.reduceEqDiff, reduceIte, ↓reduceIte, Nat.reduceBEq, g0, g1, g8, g9, g10, g12, g15, g16]
end
end Go.Ev

/-! WalExact: the log opened anew. -/
namespace Go.Ev
set_option linter.unusedVariables false
set_option linter.unusedSimpArgs false
open Go.Ev.So Go.Proofs

def RC.thn : RC → RC
  | .cond _ a _ => a
  | c => c
def RC.els : RC → RC
  | .cond _ _ b => b
  | c => c
noncomputable def ex5 : RC := exS.snd.els.snd.els.snd.els.snd.els.snd
noncomputable def exR : RC := ex5.els.snd.thn.snd
section
variable {s : St} {n b n2 b2 : Nat} {name : ByteArray} {v0 : AV} {i all : Nat} {e : Env} {t : St} {D : Dsk} {R : Rsk} {lv mv : AV} {L M : Option Lg} {ob : Nat} {q : Opq}
set_option maxHeartbeats 4000000 in
theorem exR_r (h : EI s n b n2 b2 name v0 i all e t D R lv mv L M) (hs : name.size < 140737488355328) {Q : XE → Env → St → Prop} (hq : Arm s n b n2 b2 name v0 i all Q) : awp (Run T) exR Q e t := by
  obtain ⟨eb, pr, lr, g0, g1, g8, g9, g10, g12, g15, g16⟩ := id h
  have hsz := readV_size eb.ps.ok name
  have hlen := scanV_len (readV D name).1
  obtain ⟨o1, o2, o3⟩ := pr.opn name
  simp only [exR, ex5, exS, exB, exL, RC.snd, RC.fst, RC.inn, RC.thn, RC.els, r_w07_WalExact, XX, CC, YY, Nat.reduceAdd, Nat.reduceSub, Nat.reduceLeDiff, Nat.reduceLT, Nat.reduceEqDiff, reduceIte, ↓reduceIte, Nat.reduceBEq, g8, g0]
  refine Run.mono _ _ _ _ _ ?_ (popn eb.ps hs)
  rintro v t1 ⟨lv', r, L', rfl, ps1, gs1, hc⟩
  have eb1 := eb.pstep ps1 gs1
  simp only [XX, CC, YY, Nat.reduceAdd, Nat.reduceSub, Nat.reduceLeDiff, Nat.reduceLT, Nat.reduceEqDiff, reduceIte, ↓reduceIte, Nat.reduceBEq, g9, g0]
  refine Run.mono _ _ _ _ _ ?_ (qopn eb1.qs hs)
  rintro v t2 ⟨mv', r2, M', w, rfl, qs2, gs2, hc2⟩
  have eb2 := eb1.rstep qs2 gs2
  have pr2 := o2.v w
  rw [o1] at hc2 ⊢
  rw [o3] at hc2
  have ee : (openE D name == openE D name) = true := by simp
  have bt : ((false : Bool) == false) = true := rfl
  have bt2 : ((true : Bool) == true) = true := rfl
  rcases hc with ⟨c, ⟨k, rfl⟩, rfl, hown, hne⟩ | ⟨c, rfl, rfl, rfl⟩
  · rcases hc2 with ⟨_, ⟨k2, rfl⟩, rfl, hown2⟩ | ⟨c', _⟩
    rotate_left
    · exact absurd c c'
    have rd2 := hown2.rd cS_len
    have rd1 : Rd 1 cS t2 r (scanV (readV D name).1).1 := by
      refine (hown.keep fun i' hi hv => ?_).rd cS_len
      have hlt : i' < t1.length := by obtain ⟨o, e', m, cc, hv⟩ := hv; exact (hown.rd cS_len).lt hv
      exact gs2.same i' hlt fun hf => by have := eb.qs.lt hf; omega
    simp only [XX, CC, YY, Nat.reduceAdd, Nat.reduceSub, Nat.reduceLeDiff, Nat.reduceLT, Nat.reduceEqDiff, reduceIte, ↓reduceIte, Nat.reduceBEq, ee, eqp_f, bt, Bool.not_true]
    refine (same07_r (T := T) t2 r r2 _ _ (by omega) (by omega) rd1 rd2).use ?_
    rw [decide_eq_true rfl]
    simp only [XX, CC, YY, Nat.reduceAdd, Nat.reduceSub, Nat.reduceLeDiff, Nat.reduceLT, Nat.reduceEqDiff, reduceIte, ↓reduceIte, Nat.reduceBEq, Bool.not_true]
    refine hq _ _ _ _ _ _ _ _ ⟨eb2, pr2, .inr ⟨_, _, rfl, rfl, pr.openL⟩, ?_, ?_, ?_, ?_, ?_, ?_, ?_, ?_⟩ <;> simp only [XX, CC, YY, Nat.reduceAdd, Nat.reduceSub, Nat.reduceLeDiff, Nat.reduceLT, Nat.reduceEqDiff, reduceIte, ↓reduceIte, Nat.reduceBEq, g0, g1, g8, g9, g10, g12, g15, g16]
  · rcases hc2 with ⟨c', _⟩ | ⟨_, rfl, rfl, rfl⟩
    · exact absurd c' c
    simp only [XX, CC, YY, Nat.reduceAdd, Nat.reduceSub, Nat.reduceLeDiff, Nat.reduceLT, Nat.reduceEqDiff, reduceIte, ↓reduceIte, Nat.reduceBEq, ee, eqp_t, bt2, Bool.not_true]
    refine (same07_r (T := T) t2 .nils .nils [] [] (by simp) (by simp) Rd.nil Rd.nil).use ?_
    rw [decide_eq_true rfl]
    simp only [XX, CC, YY, Nat.reduceAdd, Nat.reduceSub, Nat.reduceLeDiff, Nat.reduceLT, Nat.reduceEqDiff, reduceIte, ↓reduceIte, Nat.reduceBEq, Bool.not_true]
    refine hq _ _ _ _ _ _ _ _ ⟨eb2, pr2, .inl ⟨rfl, rfl⟩, ?_, ?_, ?_, ?_, ?_, ?_, ?_, ?_⟩ <;> simp only [XX, CC, YY, Nat.reduceAdd, Nat.reduceSub, Nat.reduceLeDiff, Nat.reduceLT, Nat.reduceEqDiff, reduceIte, ↓reduceIte, Nat.reduceBEq, g0, g1, g8, g9, g10, g12, g15, g16]
theorem exS_eq : exS = .seq exS.fst (.cond (.t 85) exS.snd.thn (.seq exS.snd.els.fst (.cond (.t 96) exS.snd.els.snd.thn (.seq exS.snd.els.snd.els.fst (.cond (.t 103) exS.snd.els.snd.els.snd.thn (.seq exS.snd.els.snd.els.snd.els.fst (.cond (.t 117) exS.snd.els.snd.els.snd.els.snd.thn (.seq exS.snd.els.snd.els.snd.els.snd.els.fst (.cond (.t 127) ex5.thn (.seq ex5.els.fst (.cond (.t 133) (.seq ex5.els.snd.thn.fst exR) .skip))))))))))) := rfl
set_option maxHeartbeats 4000000 in
theorem arm6 (h : EI s n b n2 b2 name v0 i all e t D R lv mv L M) (hs : name.size < 140737488355328) (kb : KB b D lv b2 R mv t ob (.cells true (cOp q))) (g17 : e.get 17 = .ptr ob 0) (g84 : e.get 84 = .int .i64 6) (hk : q.1 = 6) {Q : XE → Env → St → Prop} (hq : Arm s n b n2 b2 name v0 i all Q) : awp (Run T) exS Q e t := by
  obtain ⟨eb, pr, lr, g0, g1, g8, g9, g10, g12, g15, g16⟩ := id h
  have hre := @exR_r
  have hb := exS_eq
  generalize exR = RE at *
  rw [hb]
  clear hb
  have k1 : ((6 : Int) == 1) = false := rfl
  have k2 : ((6 : Int) == 2) = false := rfl
  have k3 : ((6 : Int) == 3) = false := rfl
  have k4 : ((6 : Int) == 4) = false := rfl
  have k5 : ((6 : Int) == 5) = false := rfl
  have k6 : ((6 : Int) == 6) = true := rfl
  have k7 : ((6 : Int) == 7) = false := rfl
  obtain ⟨l0, _, _, _⟩ := ld_op kb.1
  rw [hk] at l0
  simp only [ex5, exS, exB, exL, RC.snd, RC.fst, RC.inn, RC.thn, RC.els, r_w07_WalExact, XX, CC, YY, Nat.reduceAdd, Nat.reduceSub, Nat.reduceLeDiff, Nat.reduceLT, Nat.reduceEqDiff, reduceIte, ↓reduceIte, Nat.reduceBEq, g84, k1, k2, k3, k4, k5, k6, k7, g17, l0]
  refine hre (h.env ?_ ?_ ?_ ?_ ?_ ?_ ?_ ?_) hs hq <;> simp only [XX, CC, YY, Nat.reduceAdd, Nat.reduceSub, Nat.reduceLeDiff, Nat.reduceLT, Nat.reduceEqDiff, reduceIte, ↓reduceIte, Nat.reduceBEq]
set_option maxHeartbeats 4000000 in
theorem arm7 (h : EI s n b n2 b2 name v0 i all e t D R lv mv L M) (hs : name.size < 140737488355328) (hd : q.2.1.size < 140737488355328) (kb : KB b D lv b2 R mv t ob (.cells true (cOp q))) (g17 : e.get 17 = .ptr ob 0) (g84 : e.get 84 = .int .i64 7) (hk : q.1 = 7) {Q : XE → Env → St → Prop} (hq : Arm s n b n2 b2 name v0 i all Q) : awp (Run T) exS Q e t := by
  obtain ⟨eb, pr, lr, g0, g1, g8, g9, g10, g12, g15, g16⟩ := id h
  have hre := @exR_r
  have hb := exS_eq
  generalize exR = RE at *
  rw [hb]
  clear hb
  have k1 : ((7 : Int) == 1) = false := rfl
  have k2 : ((7 : Int) == 2) = false := rfl
  have k3 : ((7 : Int) == 3) = false := rfl
  have k4 : ((7 : Int) == 4) = false := rfl
  have k5 : ((7 : Int) == 5) = false := rfl
  have k6 : ((7 : Int) == 6) = false := rfl
  have k7 : ((7 : Int) == 7) = true := rfl
  obtain ⟨l0, l1, _, _⟩ := ld_op kb.1
  rw [hk] at l0
  simp only [ex5, exS, exB, exL, RC.snd, RC.fst, RC.inn, RC.thn, RC.els, r_w07_WalExact, XX, CC, YY, Nat.reduceAdd, Nat.reduceSub, Nat.reduceLeDiff, Nat.reduceLT, Nat.reduceEqDiff, reduceIte, ↓reduceIte, Nat.reduceBEq, g84, k1, k2, k3, k4, k5, k6, k7, g17, l0, g8, g0, l1]
  refine Run.mono _ _ _ _ _ ?_ (eapp eb.ps hs q.2.1 hd)
  rintro v t1 ⟨rfl, ps1, gs1⟩
  have eb1 := eb.pstep ps1 gs1
  obtain ⟨_, l1', _, _⟩ := ld_op (kb.pstep gs1).1
  simp only [XX, CC, YY, Nat.reduceAdd, Nat.reduceSub, Nat.reduceLeDiff, Nat.reduceLT, Nat.reduceEqDiff, reduceIte, ↓reduceIte, Nat.reduceBEq, g9, g0, g17, l1']
  refine Run.mono _ _ _ _ _ ?_ (fapp eb1.qs hs q.2.1 hd)
  rintro v t2 ⟨rfl, w, qs2, gs2⟩
  have eb2 := eb1.rstep qs2 gs2
  (try simp only [XX, CC, YY, Nat.reduceAdd, Nat.reduceSub, Nat.reduceLeDiff, Nat.reduceLT, Nat.reduceEqDiff, reduceIte, ↓reduceIte, Nat.reduceBEq])
  refine hre ⟨eb2, (pr.app name q.2.1 t.length).v w, lr, ?_, ?_, ?_, ?_, ?_, ?_, ?_, ?_⟩ hs hq <;> simp only [XX, CC, YY, Nat.reduceAdd, Nat.reduceSub, Nat.reduceLeDiff, Nat.reduceLT, Nat.reduceEqDiff, reduceIte, ↓reduceIte, Nat.reduceBEq, g0, g1, g8, g9, g10, g12, g15, g16]
end
end Go.Ev

/-! WalExact: a round. -/
namespace Go.Ev
set_option linter.unusedVariables false
set_option linter.unusedSimpArgs false
open Go.Ev.So Go.Proofs

theorem set_Op (q : Opq) {a b c d : AV} : setL [a, b, c, d] 0 (cOp q) = cOp q := id rfl
theorem exL_eq : exL = .seq exL.fst (.seq (.block 1 (.seq exB.fst (.seq exB.snd.fst (.seq exB.snd.snd.fst (.seq (.seq exB.snd.snd.snd.fst.fst (.block 2 exS)) exT))))) exL.snd.snd) := rfl
set_option maxHeartbeats 8000000 in
theorem exact_round (s : St) (name : ByteArray) (v0 : AV) (l : List Opq) (hl : l.length ≤ 140737488351232) (hq : ∀ q ∈ l, OpQ q) (hv : Rd 4 cOp s v0 l) (hs : name.size < 140737488355328) (n b n2 b2 : Nat) (Q : XE → Env → St → Prop)
    (hret : ∀ e t, e.get 4 = .bool true → Q .ret e t)
    (hend : ∀ e t i all D R lv mv L M, EI s n b n2 b2 name v0 i all e t D R lv mv L M → Q (.exit 0) e t)
    (J : Env → St → Prop) (d : Nat) (e : Env) (t : St) (hJ : ∀ d' e' t', d' < d → (∃ i all D R lv mv L M, i + d' = l.length ∧ i ≤ 500 ∧ all ≤ 262144 ∧ EI s n b n2 b2 name v0 i all e' t' D R lv mv L M) → J e' t')
    (i all : Nat) (D : Dsk) (R : Rsk) (lv mv : AV) (L M : Option Lg) (hid : i + d = l.length) (hi5 : i ≤ 500) (hall : all ≤ 262144) (h : EI s n b n2 b2 name v0 i all e t D R lv mv L M) :
    awp (Run T) exL (loopK J Q) e t := by
  obtain ⟨eb, pr, lr, g0, g1, g8, g9, g10, g12, g15, g16⟩ := id h
  have lV : lenlA v0 = some (.int .i64 (l.length : Int)) := hv.len
  have a0 := @arm0; have a1 := @arm1; have a2 := @arm2; have a3 := @arm3; have a4 := @arm4; have a5 := @arm5; have a6 := @arm6; have a7 := @arm7
  have aT := @exT_r
  have hbody := exL_eq
  generalize exS = SW at *
  generalize exT = TEST at *
  rw [hbody]
  clear hbody
  have em : i < l.length ∨ ¬ i < l.length := Classical.em _
  rcases em with c1 | c1
  rotate_left
  · simp only [exB, exL, RC.snd, RC.fst, RC.inn, r_w07_WalExact, XX, CC, YY, Nat.reduceAdd, Nat.reduceSub, Nat.reduceLeDiff, Nat.reduceLT, Nat.reduceEqDiff, reduceIte, ↓reduceIte, Nat.reduceBEq, g16, g1, lV, dec_f (show ¬ (i : Int) < (l.length : Int) by omega)]
    refine hend _ _ i all D R lv mv L M (h.env ?_ ?_ ?_ ?_ ?_ ?_ ?_ ?_) <;> simp only [XX, CC, YY, Nat.reduceAdd, Nat.reduceSub, Nat.reduceLeDiff, Nat.reduceLT, Nat.reduceEqDiff, reduceIte, ↓reduceIte, Nat.reduceBEq]
  have em2 : i < 500 ∨ ¬ i < 500 := Classical.em _
  rcases em2 with c2 | c2
  rotate_left
  · simp only [exB, exL, RC.snd, RC.fst, RC.inn, r_w07_WalExact, XX, CC, YY, Nat.reduceAdd, Nat.reduceSub, Nat.reduceLeDiff, Nat.reduceLT, Nat.reduceEqDiff, reduceIte, ↓reduceIte, Nat.reduceBEq, g16, g1, lV, dec_t (show (i : Int) < (l.length : Int) by omega), dec_f (show ¬ (i : Int) < 500 by omega)]
    refine hend _ _ i all D R lv mv L M (h.env ?_ ?_ ?_ ?_ ?_ ?_ ?_ ?_) <;> simp only [XX, CC, YY, Nat.reduceAdd, Nat.reduceSub, Nat.reduceLeDiff, Nat.reduceLT, Nat.reduceEqDiff, reduceIte, ↓reduceIte, Nat.reduceBEq]
  have d1 := dec_t (show (i : Int) < (l.length : Int) by omega)
  have d2 := dec_t (show (i : Int) < 500 by omega)
  have hp : l[i]? = some (l[i]'c1) := List.getElem?_eq_getElem _
  generalize l[i]'c1 = q at hp
  obtain ⟨hqs, hqn⟩ := hq q (List.mem_of_getElem? hp)
  obtain ⟨b0, o0, j1, j2⟩ := (hv.ext eb.ext).get cOp_len hp
  have j3 : ldA t (some 4) (.ptr b0 o0) = some (.agg (cOp q)) := j2 (some 4) 0 (.agg (cOp q)) rfl
  have hcell := cOp_cell q
  have hlen4 := cOp_len q
  have hA0 : (cOp q)[0]? = some (.int .i64 q.1) := rfl
  have hA1 : (cOp q)[1]? = some (.str q.2.1) := rfl
  have kb := eb.new (.cells true (cOp q))
  have eb1 := eb.app [.cells true (cOp q)]
  obtain ⟨l0, l1, l2, l3⟩ := ld_op kb.1
  have w2 : IntKind.i64.wrap ((all : Int) + (q.2.1.size : Int)) = ((all + q.2.1.size : Nat) : Int) := by rw [w64_in (by omega) (by omega)]; omega
  have w3 : IntKind.i64.wrap ((i : Int) + 1) = ((i + 1 : Nat) : Int) := w64_nat (by omega)
  have em3 : all + q.2.1.size > 262144 ∨ ¬ all + q.2.1.size > 262144 := Classical.em _
  rcases em3 with c3 | c3
  · simp only [exB, exL, RC.snd, RC.fst, RC.inn, r_w07_WalExact, XX, CC, YY, Nat.reduceAdd, Nat.reduceSub, Nat.reduceLeDiff, Nat.reduceLT, Nat.reduceEqDiff, reduceIte, ↓reduceIte, Nat.reduceBEq, g16, g1, g15, lV, d1, d2, j1, j3, hcell, hlen4, set_Op, hA0, hA1, l1, w2, dec_t (show ((all + q.2.1.size : Nat) : Int) > 262144 by omega)]
    exact hret _ _ (by simp only [XX, CC, YY, Nat.reduceAdd, Nat.reduceSub, Nat.reduceLeDiff, Nat.reduceLT, Nat.reduceEqDiff, reduceIte, ↓reduceIte, Nat.reduceBEq])
  have d3 := dec_f (show ¬ ((all + q.2.1.size : Nat) : Int) > 262144 by omega)
  simp only [exB, exL, RC.snd, RC.fst, RC.inn, r_w07_WalExact, XX, CC, YY, Nat.reduceAdd, Nat.reduceSub, Nat.reduceLeDiff, Nat.reduceLT, Nat.reduceEqDiff, reduceIte, ↓reduceIte, Nat.reduceBEq, g16, g1, g15, lV, d1, d2, j1, j3, hcell, hlen4, set_Op, hA0, hA1, l0, l1, w2, d3]
  have key : ∀ (Q' : XE → Env → St → Prop) (e1 : Env), Arm s n b n2 b2 name v0 i (all + q.2.1.size) Q' → EI s n b n2 b2 name v0 i (all + q.2.1.size) e1 (t ++ [.cells true (cOp q)]) D R lv mv L M → e1.get 17 = .ptr t.length 0 → e1.get 84 = .int .i64 q.1 → awp (Run T) SW Q' e1 (t ++ [.cells true (cOp q)]) := by
    intro Q' e1 hA h1 g17 g84
    have m1 : q.1 = 1 ∨ ¬ q.1 = 1 := Classical.em _
    rcases m1 with m1 | m1
    · rw [m1] at g84; exact a1 h1 hs (by omega) kb g17 g84 hA
    have m2 : q.1 = 2 ∨ ¬ q.1 = 2 := Classical.em _
    rcases m2 with m2 | m2
    · rw [m2] at g84; exact a2 h1 hs g84 hA
    have m3 : q.1 = 3 ∨ ¬ q.1 = 3 := Classical.em _
    rcases m3 with m3 | m3
    · rw [m3] at g84; exact a3 h1 hqn kb g17 g84 hA
    have m4 : q.1 = 4 ∨ ¬ q.1 = 4 := Classical.em _
    rcases m4 with m4 | m4
    · rw [m4] at g84; exact a4 h1 kb g17 g84 hA
    have m5 : q.1 = 5 ∨ ¬ q.1 = 5 := Classical.em _
    rcases m5 with m5 | m5
    · rw [m5] at g84; exact a5 h1 g84 hA
    have m6 : q.1 = 6 ∨ ¬ q.1 = 6 := Classical.em _
    rcases m6 with m6 | m6
    · rw [m6] at g84; exact a6 h1 hs kb g17 g84 m6 hA
    have m7 : q.1 = 7 ∨ ¬ q.1 = 7 := Classical.em _
    rcases m7 with m7 | m7
    · rw [m7] at g84; exact a7 h1 hs hqs kb g17 g84 m7 hA
    exact a0 h1 g84 m1 m2 m3 m4 m5 m6 m7 hA
  refine key _ _ ?_ ⟨eb1, pr, lr, ?_, ?_, ?_, ?_, ?_, ?_, ?_, ?_⟩ ?_ ?_
  · intro e' t' D' R' lv' mv' L' M' h'
    simp only [XX, CC, YY, Nat.reduceAdd, Nat.reduceSub, Nat.reduceLeDiff, Nat.reduceLT, Nat.reduceEqDiff, reduceIte, ↓reduceIte, Nat.reduceBEq]
    refine aT h' fun e2 h2 => ?_
    simp only [XX, CC, YY, Nat.reduceAdd, Nat.reduceSub, Nat.reduceLeDiff, Nat.reduceLT, Nat.reduceEqDiff, reduceIte, ↓reduceIte, Nat.reduceBEq, h2.g16, w3]
    refine hJ (d - 1) _ _ (by omega) ⟨i + 1, all + q.2.1.size, D', R', lv', mv', L', M', by omega, by omega, by omega, ⟨h2.eb, h2.pr, h2.lr, ?_, ?_, ?_, ?_, ?_, ?_, ?_, ?_⟩⟩ <;> simp only [XX, CC, YY, Nat.reduceAdd, Nat.reduceSub, Nat.reduceLeDiff, Nat.reduceLT, Nat.reduceEqDiff, reduceIte, ↓reduceIte, Nat.reduceBEq, h2.g0, h2.g1, h2.g8, h2.g9, h2.g10, h2.g12, h2.g15]
  all_goals simp only [XX, CC, YY, Nat.reduceAdd, Nat.reduceSub, Nat.reduceLeDiff, Nat.reduceLT, Nat.reduceEqDiff, reduceIte, ↓reduceIte, Nat.reduceBEq, g0, g1, g8, g9, g10, g12, g16]
end Go.Ev

/-! WalExact: its run. -/
namespace Go.Ev
set_option linter.unusedVariables false
set_option linter.unusedSimpArgs false
open Go.Ev.So Go.Proofs

set_option maxHeartbeats 2000000 in
theorem exact_tail {s : St} {n b n2 b2 : Nat} {name : ByteArray} {v0 : AV} {i all : Nat} {e : Env} {t : St} {D : Dsk} {R : Rsk} {lv mv : AV} {L M : Option Lg} (h : EI s n b n2 b2 name v0 i all e t D R lv mv L M) (hs : name.size < 140737488355328) :
    awp (Run T) exC (endK [.tmp 4] s fun r _ => r = .bool true) e t := by
  obtain ⟨eb, pr, lr, g0, g1, g8, g9, g10, g12, g15, g16⟩ := id h
  simp only [exC, RC.snd, r_w07_WalExact, XX, CC, YY, Nat.reduceAdd, Nat.reduceSub, Nat.reduceLeDiff, Nat.reduceLT, Nat.reduceEqDiff, reduceIte, ↓reduceIte, Nat.reduceBEq, g8]
  refine Run.mono _ _ _ _ _ ?_ (eon eb.ps)
  rintro v t1 ⟨rfl, ps1, gs1⟩
  have eb1 := eb.pstep ps1 gs1
  (try simp only [XX, CC, YY, Nat.reduceAdd, Nat.reduceSub, Nat.reduceLeDiff, Nat.reduceLT, Nat.reduceEqDiff, reduceIte, ↓reduceIte, Nat.reduceBEq, g9])
  refine Run.mono _ _ _ _ _ ?_ (fon eb1.qs)
  rintro v t2 ⟨rfl, qs2, gs2⟩
  have eb2 := eb1.rstep qs2 gs2
  have p2 := pr.on
  generalize onD D = D2 at *
  generalize ron R = R2 at *
  simp only [XX, CC, YY, Nat.reduceAdd, Nat.reduceSub, Nat.reduceLeDiff, Nat.reduceLT, Nat.reduceEqDiff, reduceIte, ↓reduceIte, Nat.reduceBEq, g8, g0]
  refine (read_r (T := T) t2 n b D2 name eb2.ps.at_ hs).use ?_
  simp only [XX, CC, YY, Nat.reduceAdd, Nat.reduceSub, Nat.reduceLeDiff, Nat.reduceLT, Nat.reduceEqDiff, reduceIte, ↓reduceIte, Nat.reduceBEq, g9, g0]
  refine (rread_r (T := T) t2 b2 R2 name eb2.qs.at_.cells eb2.qs.at_.rd (by have := eb2.qs.gd.ok.2; omega) hs).use ?_
  rw [p2.read]
  have e1 := eq_str (readV D2 name).1
  have e2 : ((readV D2 name).2 == (readV D2 name).2) = true := by simp
  simp only [XX, CC, YY, Nat.reduceAdd, Nat.reduceSub, Nat.reduceLeDiff, Nat.reduceLT, Nat.reduceEqDiff, reduceIte, ↓reduceIte, Nat.reduceBEq, e1, e2]
  exact .inl rfl
theorem start_EB (s : St) (name : ByteArray) : EB s s.length (s.length + 1) (s.length + 2) (s.length + 2) name (newD s.length) rnew .nilp .nilp none none (s ++ [.map [] 0, .cells true (cD (newD s.length))] ++ [.cells true (cE rnew)]) := by
  have cw := newC (Ext.refl s)
  have hlen : (s ++ [Blk.map [] 0, .cells true (cD (newD s.length))]).length = s.length + 2 := by simp
  have x : Ext (s ++ [Blk.map [] 0, .cells true (cD (newD s.length))]) (s ++ [.map [] 0, .cells true (cD (newD s.length))] ++ [.cells true (cE rnew)]) := ⟨_, rfl⟩
  refine ⟨⟨cw.at_.ext x, cw.ok, by simp, .inl ⟨rfl, rfl⟩⟩, ⟨⟨Nat.le_refl _, ?_, .inl ⟨rfl, rfl⟩, fun o e k c h => by cases h⟩, ⟨⟨fun f hf => by simp [rnew] at hf, by simp [rnew]⟩, by simp [rnew]⟩, by simp, .inl ⟨rfl, rfl⟩⟩, fun i hi hf => ?_, fun i hi => ?_, fun i hi => ?_, by simp, fun i hi => ?_⟩
  · rw [List.getElem?_append_right (by omega), hlen]; simp
  · rcases hi with hi | hi
    · have := hi.lt cw.at_
      rcases hf with hf | hf
      · rcases hf with hf | ⟨o, e, k, c, hf⟩
        · omega
        · cases hf
      · cases hf
    · cases hi
  · rcases hi with hi | hi
    · exact cw.foot i hi
    · cases hi
  · rcases hi with hi | hi
    · rcases hi with hi | ⟨o, e, k, c, hi⟩
      · omega
      · cases hi
    · cases hi
  · rw [List.getElem?_append_left (by omega), cw.same i hi]
set_option maxHeartbeats 8000000 in
theorem exact_r (s : St) (v0 : AV) (name : ByteArray) (l : List Opq) (hs : name.size < 140737488355328) (hl : l.length ≤ 140737488351232) (hq : ∀ q ∈ l, OpQ q) (hv : Rd 4 cOp s v0 l) :
    Run T f_w07_WalExact [.str name, v0] s fun r _ => r = .bool true := by
  refine run_body (F := r_w07_WalExact) (has rfl) (by simp [r_w07_WalExact]) ?_
  have hround := exact_round s name v0 l hl hq hv hs
  have htail := @exact_tail s
  obtain ⟨LOOP, hL⟩ : ∃ c, c = exL := ⟨_, rfl⟩
  obtain ⟨TAIL, hT⟩ : ∃ c, c = exC := ⟨_, rfl⟩
  obtain ⟨B, hB⟩ : ∃ c, c = r_w07_WalExact.body := ⟨_, rfl⟩
  have hbody : r_w07_WalExact.body = .seq B.fst (.seq B.snd.fst (.seq B.snd.snd.fst (.seq B.snd.snd.snd.fst (.seq B.snd.snd.snd.snd.fst (.seq B.snd.snd.snd.snd.snd.fst (.seq B.snd.snd.snd.snd.snd.snd.fst (.seq B.snd.snd.snd.snd.snd.snd.snd.fst (.seq B.snd.snd.snd.snd.snd.snd.snd.snd.fst (.seq B.snd.snd.snd.snd.snd.snd.snd.snd.snd.fst (.seq (.seq B.snd.snd.snd.snd.snd.snd.snd.snd.snd.snd.fst.fst (.block 0 (.loop LOOP))) TAIL)))))))))) := by rw [hB, hL, hT]; rfl
  rw [← hL] at hround
  rw [← hT] at htail
  rw [hbody, hB]
  clear hL hT hbody hB
  have t22 : ((2 : Int) == 2) = true := rfl
  simp only [r_w07_WalExact, RC.fst, RC.snd, XX, CC, YY, Nat.reduceAdd, Nat.reduceSub, Nat.reduceLeDiff, Nat.reduceLT, Nat.reduceEqDiff, reduceIte, ↓reduceIte, Nat.reduceBEq]
  refine (awake07_r s).use ?_
  simp only [XX, CC, YY, Nat.reduceAdd, Nat.reduceSub, Nat.reduceLeDiff, Nat.reduceLT, Nat.reduceEqDiff, reduceIte, ↓reduceIte, Nat.reduceBEq, Bool.not_true]
  refine (opennil_r s name).use ?_
  simp only [XX, CC, YY, Nat.reduceAdd, Nat.reduceSub, Nat.reduceLeDiff, Nat.reduceLT, Nat.reduceEqDiff, reduceIte, ↓reduceIte, Nat.reduceBEq, t22, Bool.not_true]
  refine Run.mono _ _ _ _ _ ?_ (new_r s)
  rintro v t1 ⟨rfl, rfl⟩
  (try simp only [XX, CC, YY, Nat.reduceAdd, Nat.reduceSub, Nat.reduceLeDiff, Nat.reduceLT, Nat.reduceEqDiff, reduceIte, ↓reduceIte, Nat.reduceBEq])
  refine Run.mono _ _ _ _ _ ?_ (rnew_r (T := T) _)
  rintro v t2 ⟨rfl, rfl⟩
  have eb := start_EB s name
  have pr := new_PR s.length
  have hb2 : (s ++ [Blk.map [] 0, .cells true (cD (newD s.length))]).length = s.length + 2 := by simp
  rw [hb2]
  generalize s ++ [Blk.map [] 0, .cells true (cD (newD s.length))] ++ [.cells true (cE rnew)] = t at *
  generalize newD s.length = D at *
  generalize rnew = R at *
  have hsz := readV_size eb.ps.ok name
  have hlen := scanV_len (readV D name).1
  obtain ⟨o1, o2, o3⟩ := pr.opn name
  (try simp only [XX, CC, YY, Nat.reduceAdd, Nat.reduceSub, Nat.reduceLeDiff, Nat.reduceLT, Nat.reduceEqDiff, reduceIte, ↓reduceIte, Nat.reduceBEq])
  refine Run.mono _ _ _ _ _ ?_ (popn eb.ps hs)
  rintro v t1 ⟨lv', r, L', rfl, ps1, gs1, hc⟩
  have eb1 := eb.pstep ps1 gs1
  (try simp only [XX, CC, YY, Nat.reduceAdd, Nat.reduceSub, Nat.reduceLeDiff, Nat.reduceLT, Nat.reduceEqDiff, reduceIte, ↓reduceIte, Nat.reduceBEq])
  refine Run.mono _ _ _ _ _ ?_ (qopn eb1.qs hs)
  rintro v t2 ⟨mv', r2, M', w, rfl, qs2, gs2, hc2⟩
  have eb2 := eb1.rstep qs2 gs2
  have pr2 := o2.v w
  rw [o1] at hc2 ⊢
  rw [o3] at hc2
  have ee : (openE D name == openE D name) = true := by simp
  have bt : ((false : Bool) == false) = true := rfl
  have bt2 : ((true : Bool) == true) = true := rfl
  have loop : ∀ (e : Env) (lv mv : AV) (L M : Option Lg), EI s s.length (s.length + 1) (s.length + 2) (s.length + 2) name v0 0 0 e t2 (openD D name) { ropenD R name with v := w } lv mv L M →
      awp (Run T) (.block 0 (.loop LOOP)) (seqK (Run T) TAIL (endK [.tmp 4] s fun r _ => r = .bool true)) e t2 := by
    intro e lv mv L M h0
    simp only [XX, CC, YY, Nat.reduceAdd, Nat.reduceSub, Nat.reduceLeDiff, Nat.reduceLT, Nat.reduceEqDiff, reduceIte, ↓reduceIte, Nat.reduceBEq]
    refine awp_rounds (fun d e t => ∃ i all D R lv mv L M, i + d = l.length ∧ i ≤ 500 ∧ all ≤ 262144 ∧ EI s s.length (s.length + 1) (s.length + 2) (s.length + 2) name v0 i all e t D R lv mv L M) l.length ?_ ?_
    · exact ⟨0, 0, _, _, _, _, _, _, by omega, by omega, by omega, h0⟩
    · rintro J d e t hJ ⟨i, all, D, R, lv, mv, L, M, hid, hi5, hall, h⟩
      refine hround s.length (s.length + 1) (s.length + 2) (s.length + 2) _ ?_ ?_ J d e t hJ i all D R lv mv L M hid hi5 hall h
      · intro e t h4
        simp only [XX, CC, YY, Nat.reduceAdd, Nat.reduceSub, Nat.reduceLeDiff, Nat.reduceLT, Nat.reduceEqDiff, reduceIte, ↓reduceIte, Nat.reduceBEq, h4]
        exact .inl rfl
      · intro e t i all D R lv mv L M h
        simp only [XX, CC, YY, Nat.reduceAdd, Nat.reduceSub, Nat.reduceLeDiff, Nat.reduceLT, Nat.reduceEqDiff, reduceIte, ↓reduceIte, Nat.reduceBEq]
        exact htail h hs
  rcases hc with ⟨c, ⟨k, rfl⟩, rfl, hown, hne⟩ | ⟨c, rfl, rfl, rfl⟩
  · rcases hc2 with ⟨_, ⟨k2, rfl⟩, rfl, hown2⟩ | ⟨c', _⟩
    rotate_left
    · exact absurd c c'
    have rd2 := hown2.rd cS_len
    have rd1 : Rd 1 cS t2 r (scanV (readV D name).1).1 := by
      refine (hown.keep fun i' hi hv => ?_).rd cS_len
      have hlt : i' < t1.length := by obtain ⟨o, e', m, cc, hv⟩ := hv; exact (hown.rd cS_len).lt hv
      exact gs2.same i' hlt fun hf => by have := eb.qs.lt hf; omega
    simp only [XX, CC, YY, Nat.reduceAdd, Nat.reduceSub, Nat.reduceLeDiff, Nat.reduceLT, Nat.reduceEqDiff, reduceIte, ↓reduceIte, Nat.reduceBEq, ee, eqp_f, bt, Bool.not_true]
    refine (same07_r (T := T) t2 r r2 _ _ (by omega) (by omega) rd1 rd2).use ?_
    rw [decide_eq_true rfl]
    simp only [XX, CC, YY, Nat.reduceAdd, Nat.reduceSub, Nat.reduceLeDiff, Nat.reduceLT, Nat.reduceEqDiff, reduceIte, ↓reduceIte, Nat.reduceBEq, Bool.not_true]
    refine loop _ _ _ _ _ ⟨eb2, pr2, .inr ⟨_, _, rfl, rfl, pr.openL⟩, ?_, ?_, ?_, ?_, ?_, ?_, ?_, ?_⟩ <;> simp only [XX, CC, YY, Nat.reduceAdd, Nat.reduceSub, Nat.reduceLeDiff, Nat.reduceLT, Nat.reduceEqDiff, reduceIte, ↓reduceIte, Nat.reduceBEq] <;> rfl
  · rcases hc2 with ⟨c', _⟩ | ⟨_, rfl, rfl, rfl⟩
    · exact absurd c' c
    simp only [XX, CC, YY, Nat.reduceAdd, Nat.reduceSub, Nat.reduceLeDiff, Nat.reduceLT, Nat.reduceEqDiff, reduceIte, ↓reduceIte, Nat.reduceBEq, ee, eqp_t, bt2, Bool.not_true]
    refine (same07_r (T := T) t2 .nils .nils [] [] (by simp) (by simp) Rd.nil Rd.nil).use ?_
    rw [decide_eq_true rfl]
    simp only [XX, CC, YY, Nat.reduceAdd, Nat.reduceSub, Nat.reduceLeDiff, Nat.reduceLT, Nat.reduceEqDiff, reduceIte, ↓reduceIte, Nat.reduceBEq, Bool.not_true]
    refine loop _ _ _ _ _ ⟨eb2, pr2, .inl ⟨rfl, rfl⟩, ?_, ?_, ?_, ?_, ?_, ?_, ?_, ?_⟩ <;> simp only [XX, CC, YY, Nat.reduceAdd, Nat.reduceSub, Nat.reduceLeDiff, Nat.reduceLT, Nat.reduceEqDiff, reduceIte, ↓reduceIte, Nat.reduceBEq] <;> rfl
end Go.Ev

/-! The arguments' types: strings, ints. -/
namespace Go.Ev
open Go.ChangeShapes Go.WideShapes Go.ChangeAt Go.RowKit Go.Proofs
set_option maxRecDepth 100000
set_option linter.unusedVariables false
set_option linter.unusedSimpArgs false

section
variable {Hh : Type} {enc : TypeId × Value → Hh} {w : World} {base : Nat} {spare : Nat → Bool} {held : Bool} {fuel : Nat} {cs : List Value} {x : DataW Hh × List MemPlace}
theorem i64_of (y : Int) (h : (Lit.int .i64 y).wf = true) : -9223372036854775808 ≤ y ∧ y ≤ 9223372036854775807 := by
  simpa [Lit.wf, IntKind.min, IntKind.max, IntKind.signed, IntKind.bits] using h
theorem arg_I {v : Value} {d : DataW Hh} {p : List MemPlace} {b0 : Nat} {r : Reach} (hv : Value.okWide Tryd.prog w r b0 3 v) (h : DataW.Trod enc Tryd.prog w base spare held 3 v d p) : ∃ q : Int, (-9223372036854775808 ≤ q ∧ q ≤ 9223372036854775807) ∧ ∀ m, VR m (.int .i64 q) v := by
  obtain ⟨y, rfl, _, _, u⟩ := open_int Tryd.underlying3 hv h
  exact ⟨y, i64_of y u, fun m => rfl⟩
theorem arg_S {v : Value} {d : DataW Hh} {p : List MemPlace} {b0 : Nat} {r : Reach} (hv : Value.okWide Tryd.prog w r b0 9 v) (h : DataW.Trod enc Tryd.prog w base spare held 9 v d p)
    {ts : List TypeId} {ds : List (DataW Hh)} (hsz : (DataW.weightsEach Tryd.prog ts ds).all (· ≤ reachBytes) = true) {j : Nat} (htj : ts[j]? = some 9) (hdj : ds[j]? = some d) : ∃ q : ByteArray, q.size < 140737488355328 ∧ ∀ m, VR m (.str q) v := by
  obtain ⟨y, rfl, rfl, _, _⟩ := Go.ChangeMaps.open_string Tryd.underlying9 hv h
  have := sized_string hsz htj hdj
  unfold reachBytes at this
  have e : y.data.toList.length = y.size := Array.length_toList ..
  exact ⟨y, by omega, fun m => rfl⟩
end

section
variable {α : Type} {H : Type} {enc : TypeId × Value → H} {P : Program} {W : World}
theorem weights_mem {e : TypeId} : ∀ {l : List (DataW H)} {d : DataW H}, d ∈ l → ∀ {w : Nat}, w ∈ d.weights P e → w ∈ DataW.weightsAll P e l
  | x :: l, d, h, w, hw => by
    unfold DataW.weightsAll
    rcases List.mem_cons.1 h with rfl | h
    · exact List.mem_append_left _ hw
    · exact List.mem_append_right _ (weights_mem h hw)
/-- A slice argument, opened, what its elements hold bounded. -/
theorem slice_argW {t e : TypeId} {v : Value} {d : DataW H} {ps : List MemPlace} {b0 : Nat} (ht : P.underlying t = some (.slice e)) (hv : Value.okWide P W .any b0 t v) (h : DataW.Trod enc P W 0 (fun _ => true) true t v d ps)
    {n : Nat} (hn : P.cellsOf e = n) (h0 : 0 < n) {en : α → List AV} (he : ∀ q, (en q).length = n) {Q : α → Prop}
    (elem : ∀ fuel cs x, DataW.trod enc P W 0 (fun _ => true) true fuel e cs = some x → (∀ w ∈ x.1.weights P e, w ≤ reachBytes) → ∃ q, Q q ∧ ∀ m, VRs m (en q) cs)
    {ts : List TypeId} {ds : List (DataW H)} (hsz : (DataW.weightsEach P ts ds).all (· ≤ reachBytes) = true) {j : Nat} (htj : ts[j]? = some t) (hdj : ds[j]? = some d) (hB : 0 < P.bytesOf e) :
    ∃ l : List α, (∀ q ∈ l, Q q) ∧ SlArg W v n en l ∧ l.length ≤ 140737488351232 := by
  obtain ⟨a, len, cap, rfl⟩ := okWide_slice ht hv
  obtain ⟨fuel, hf⟩ := h
  rcases Go.Deep.open_slice ht hf with ⟨hcs, _⟩ | ⟨a', len', cap', m, k, D, Pl, hcs, _, hl, hm, hmm, hx, hi⟩
  · simp [Value.cells] at hcs
    obtain ⟨rfl, rfl, rfl⟩ := hcs
    exact ⟨[], by simp, .inl ⟨rfl, rfl⟩, by simp⟩
  · simp [Value.cells] at hcs
    obtain ⟨rfl, rfl, rfl⟩ := hcs
    simp at hmm
    subst hmm
    rw [hn] at hi
    have hok : len ≤ m ∧ (m : Int) ≤ IntKind.i64.max ∧ W.has P .any b0 a' e m := by
      have hv' := hv
      unfold Value.okWide at hv'
      rw [ht] at hv'
      simp only [Cell.okWide, ht, Cell.ok] at hv'
      exact hv'
    obtain ⟨_, hsp, row, cells, hsh, hlies⟩ := hok.2.2
    obtain ⟨c, x, sp⟩ := a'
    simp only at hsp
    subst hsp
    unfold World.shape? at hsh
    split at hsh <;> try (simp at hsh; done)
    rename_i cs tt fz hc
    simp only [Option.some.injEq, Prod.mk.injEq] at hsh
    obtain ⟨rfl, rfl⟩ := hsh
    have hx0 := lies_le hlies
    change x ≤ _ at hx0
    change W.heap[c]? = _ at hc
    have hx1 := Nat.div_mul_le_self cs.size (P.cellsOf tt)
    have hwt : ∀ i, i < len → ∀ w ∈ (D i).weights P e, w ≤ reachBytes := by
      intro i hlt w hw
      obtain ⟨hx1, _⟩ := Prod.mk.inj hx
      have hall := List.all_eq_true.1 hsz
      refine of_decide_eq_true (hall w (DataW.weights_mem_each htj (hdj.trans (congrArg some hx1)) w ?_))
      unfold DataW.weights
      rw [ht]
      exact List.mem_cons_of_mem _ (List.mem_append_left _ (weights_mem (List.mem_map.2 ⟨i, List.mem_range.2 hlt, rfl⟩) hw))
    have cellAt : ∀ i, i < m → ∃ (cs' : List Value), DataW.trod enc P W 0 (fun _ => true) true k e cs' = some (D i, Pl i) ∧ cs'.length = n ∧ ∀ k, k < n → cs[x + (i * n + k)]? = cs'[k]? := by
      intro i hlt
      obtain ⟨cs', h1, h2⟩ := hi i hlt
      obtain ⟨_, h3, h4⟩ := World.cells?_some h1
      refine ⟨cs', h2, h3, fun k hk => ?_⟩
      have := h4 k hk
      rw [Go.Deep.add_add] at this
      rw [← this, cell_off hc]
    obtain ⟨l, hll, hle⟩ := list_of (P := fun i (q : α) => Q q ∧ ∀ k a, (en q)[k]? = some a → ∃ u : Value, cs[x + (i * n + k)]? = some u ∧ ∀ m, VR m a u) len fun i hlt => by
      obtain ⟨cs', h1, h2, h3⟩ := cellAt i (by omega)
      obtain ⟨q, hq, hvr⟩ := elem _ _ _ h1 (hwt i hlt)
      refine ⟨q, hq, fun k a ha => ?_⟩
      have hkn : k < n := by rw [← he q]; exact (List.getElem?_eq_some_iff.1 ha).1
      obtain ⟨u, hu, _⟩ := VRs.at (hvr fun _ => none) ha
      refine ⟨u, by rw [h3 k hkn]; exact hu, fun m => ?_⟩
      obtain ⟨u', hu', hr⟩ := VRs.at (hvr m) ha
      rw [hu] at hu'; cases hu'; exact hr
    refine ⟨l, ?_, .inr ⟨c, x, m, cs, tt, fz, by rw [hll], by omega, ?_, hc, ?_⟩, ?_⟩
    · intro q hq
      obtain ⟨i, hlt, rfl⟩ := List.getElem_of_mem hq
      exact (hle i _ (List.getElem?_eq_getElem hlt)).1
    · rcases Nat.eq_zero_or_pos m with rfl | hm0
      · rw [Nat.zero_mul]; omega
      · obtain ⟨cs', h1, h2, h3⟩ := cellAt (m - 1) (by omega)
        have h4 := h3 (n - 1) (by omega)
        rw [List.getElem?_eq_getElem (by omega)] at h4
        have h5 := (Array.getElem?_eq_some_iff.1 h4).1
        have : m * n = (m - 1) * n + n := by rw [← Nat.succ_mul]; congr 1; omega
        omega
    · intro i a ha
      obtain ⟨j, k, q, rfl, hk, hq, hqa⟩ := flat_at he ha
      exact (hle j q hq).2 k a hqa
    · obtain ⟨hx, _⟩ := Prod.mk.inj hx
      have z := sized_slice hsz htj (hdj.trans (congrArg some hx)) ht
      have h1 : ((List.range len).map D).length + ((List.range (m - len)).map fun j => D (len + j)).length = m := by simp; omega
      rw [h1] at z
      rw [hll]
      have : m * 1 ≤ m * P.bytesOf e := Nat.mul_le_mul_left _ hB
      unfold reachBytes at z
      omega
end
end Go.Ev

/-! The argument's type: operations. -/
namespace Go.Ev
open Go.ChangeShapes Go.WideShapes Go.ChangeAt Go.RowKit Go.Proofs
set_option maxRecDepth 100000
set_option linter.unusedVariables false
set_option linter.unusedSimpArgs false

section
variable {Hh : Type} {enc : TypeId × Value → Hh} {w : World} {base : Nat} {spare : Nat → Bool} {held : Bool} {fuel : Nat} {cs : List Value} {x : DataW Hh × List MemPlace}
theorem agg_weight2 {fs : Array Field} {t e : TypeId} {xs : List (DataW Hh)} {j : Nat} {y : ByteArray} (ht : Tryd.prog.underlying t = some (.struct fs)) (hj : (fs.toList.map (·.type))[j]? = some e) (hx : xs[j]? = some (.lit (.string y.data.toList)))
    (hw : ∀ w ∈ (DataW.agg xs).weights Tryd.prog t, w ≤ reachBytes) : y.size < 140737488355328 := by
  have h1 : y.data.toList.length ∈ DataW.weightsEach Tryd.prog (fs.toList.map (·.type)) xs := DataW.weights_mem_each hj hx _ (by unfold DataW.weights; exact List.mem_singleton.2 rfl)
  have h2 := hw y.data.toList.length (by unfold DataW.weights; rw [ht]; exact h1)
  have e : y.data.toList.length = y.size := Array.length_toList ..
  unfold reachBytes at h2
  omega
theorem trod_Op (h : DataW.trod enc Tryd.prog w base spare held fuel 54 cs = some x) (hw : ∀ w ∈ x.1.weights Tryd.prog 54, w ≤ reachBytes) : ∃ q : Opq, OpQ q ∧ ∀ m, VRs m (cOp q) cs := by
  obtain ⟨xs, n, _, hx, hl, hlen, hf⟩ := DataW.trod_struct Tryd.underlying54 h
  have hl' : cs.length = 4 := hl.trans (by kernel_rfl)
  obtain ⟨c0, c1, c2, c3, rfl⟩ : ∃ c0 c1 c2 c3 : Value, cs = [c0, c1, c2, c3] := by
    match cs, hl' with
    | [c0, c1, c2, c3], _ => exact ⟨_, _, _, _, rfl⟩
  have kS : Tryd.prog.cellsOf 9 = 1 := by kernel_rfl
  have kI : Tryd.prog.cellsOf 3 = 1 := by kernel_rfl
  have h0 : DataW.trod enc Tryd.prog w base spare held n 3 ((([c0, c1, c2, c3] : List Value).drop 0).take (Tryd.prog.cellsOf 3)) = xs[0]? := hf 0 _ rfl
  rw [kI, List.getElem?_eq_getElem (by rw [hlen]; decide)] at h0
  have h1 : DataW.trod enc Tryd.prog w base spare held n 9 ((([c0, c1, c2, c3] : List Value).drop 1).take (Tryd.prog.cellsOf 9)) = xs[1]? := hf 1 _ rfl
  rw [kS, List.getElem?_eq_getElem (by rw [hlen]; decide)] at h1
  have h2 : DataW.trod enc Tryd.prog w base spare held n 3 ((([c0, c1, c2, c3] : List Value).drop 2).take (Tryd.prog.cellsOf 3)) = xs[2]? := hf 2 _ rfl
  rw [kI, List.getElem?_eq_getElem (by rw [hlen]; decide)] at h2
  have h3 : DataW.trod enc Tryd.prog w base spare held n 3 ((([c0, c1, c2, c3] : List Value).drop 3).take (Tryd.prog.cellsOf 3)) = xs[3]? := hf 3 _ rfl
  rw [kI, List.getElem?_eq_getElem (by rw [hlen]; decide)] at h3
  obtain ⟨y0, e0, _, u0⟩ := DataW.trod_int Tryd.underlying3 h0
  obtain ⟨y1, e1, f1, _⟩ := DataW.trod_string Tryd.underlying9 h1
  obtain ⟨y2, e2, _, u2⟩ := DataW.trod_int Tryd.underlying3 h2
  obtain ⟨y3, e3, _, u3⟩ := DataW.trod_int Tryd.underlying3 h3
  obtain rfl : c0 = .int .i64 y0 := by simpa using e0
  obtain rfl : c1 = .string y1 := by simpa using e1
  obtain rfl : c2 = .int .i64 y2 := by simpa using e2
  obtain rfl : c3 = .int .i64 y3 := by simpa using e3
  rw [hx] at hw
  refine ⟨(y0, y1, y2, y3), ⟨agg_weight2 (j := 1) Tryd.underlying54 rfl (by rw [List.getElem?_map, List.getElem?_eq_getElem (by rw [hlen]; decide), f1]; rfl) hw, i64_of y2 u2⟩, fun m => ⟨_, _, rfl, rfl, _, _, rfl, rfl, _, _, rfl, rfl, _, _, rfl, rfl, rfl⟩⟩
end
end Go.Ev
