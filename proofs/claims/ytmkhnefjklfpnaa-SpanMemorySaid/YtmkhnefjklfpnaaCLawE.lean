import Derived.Test.YtmkhnefjklfpnaaCLawD
/-! SpanPlaces: places and ranks. -/
namespace Go.Ev
set_option linter.unusedVariables false
set_option linter.unusedSimpArgs false
open Go.Ev.Sp

theorem nth_none : ∀ {s : List (Nat × Nat)} {lo n : Nat}, Snd 340282366920938463463374607431768211456 lo s → (nthL s n = none ↔ cnt s ≤ n)
  | [], _, n, _ => by simp [nthL, cnt]
  | q :: s, lo, n, h => by
    have h2 := h.2.1
    rw [cnt_cons]
    unfold nthL
    split
    · rw [nth_none h.2.2.2]; omega
    · simp; omega
theorem nth_rank : ∀ {s : List (Nat × Nat)} {lo n x : Nat}, Snd 340282366920938463463374607431768211456 lo s → nthL s n = some x → rankL x s = n
  | [], _, _, _, _, h => by simp [nthL] at h
  | q :: s, lo, n, x, hs, h => by
    have h2 := hs.2.1
    unfold nthL at h
    split at h
    · have ih := nth_rank hs.2.2.2 h
      have hx := Snd.ge hs.2.2.2 (nthL_lt hs.2.2.2 h).2
      unfold rankL
      rw [if_neg (by omega), if_neg (by omega), ih]; omega
    · obtain rfl := Option.some.inj h
      have h0 : rankL (q.1 + n) s = 0 := rank_zero hs.2.2.2 (by omega)
      unfold rankL
      split
      · omega
      · rw [if_pos (by omega), h0]; omega
  where
  rank_zero {s : List (Nat × Nat)} {lo a : Nat} (h : Snd 340282366920938463463374607431768211456 lo s) (ha : a ≤ lo) : rankL a s = 0 := by
    cases s with
    | nil => rfl
    | cons q s => unfold rankL; rw [if_pos (by have := h.1; omega)]
theorem rank_le : ∀ {s : List (Nat × Nat)} {lo : Nat} (a : Nat), Snd 340282366920938463463374607431768211456 lo s → rankL a s ≤ a - lo
  | [], _, _, _ => Nat.zero_le _
  | q :: s, lo, a, h => by
    have h1 := h.1
    have h2 := h.2.1
    have ih := rank_le a h.2.2.2
    unfold rankL
    split
    · omega
    · split
      · omega
      · omega
theorem rank_nth : ∀ {s : List (Nat × Nat)} {lo a : Nat}, Snd 340282366920938463463374607431768211456 lo s → mem s a → nthL s (rankL a s) = some a
  | [], _, _, _, h => ((mem_nil _).1 h).elim
  | q :: s, lo, a, hs, h => by
    have h2 := hs.2.1
    rw [mem_cons] at h
    have hz : a ≤ q.2 → rankL a s = 0 := fun ha => nth_rank.rank_zero hs.2.2.2 (by omega)
    unfold rankL
    split
    · have : a = q.1 := by
        rcases h with h | h
        · omega
        · have := Snd.ge hs.2.2.2 h; omega
      unfold nthL
      rw [if_neg (by omega), this]; simp
    · split
      · rename_i c1 c2
        rw [hz c2]
        unfold nthL
        rw [if_neg (by omega)]; congr 1; omega
      · have hm : mem s a := by
          rcases h with h | h
          · omega
          · exact h
        have ih := rank_nth hs.2.2.2 hm
        unfold nthL
        rw [if_pos (by omega), show q.2 - q.1 + 1 + rankL a s - (q.2 - q.1) - 1 = rankL a s by omega, ih]
theorem rank_above : ∀ {s : List (Nat × Nat)} {lo a y : Nat}, Snd 340282366920938463463374607431768211456 lo s → ¬ mem s a → nthL s (rankL a s) = some y → a < y
  | [], _, _, _, _, _, h => by simp [nthL] at h
  | q :: s, lo, a, y, hs, hm, h => by
    have h2 := hs.2.1
    rw [mem_cons] at hm
    have hm1 : ¬ (q.1 ≤ a ∧ a ≤ q.2) := fun h => hm (.inl h)
    have hm2 : ¬ mem s a := fun h => hm (.inr h)
    unfold rankL at h
    split at h
    · unfold nthL at h
      rw [if_neg (by omega)] at h
      have := Option.some.inj h
      omega
    · split at h
      · omega
      · unfold nthL at h
        rw [if_pos (by omega), show q.2 - q.1 + 1 + rankL a s - (q.2 - q.1) - 1 = rankL a s by omega] at h
        exact rank_above hs.2.2.2 hm2 h

theorem gt_dec (a b : Nat) : decide (cmpN a b > 0) = decide (b < a) := cmpN_dgt a b

set_option maxHeartbeats 4000000 in
theorem places_r (s : St) (v : AV) (l : List (Nat × Nat)) (n a : Nat) (hl : l.length < 4611686018427387904) (hw : Wf l) (hv : Rd 4 cR s v l) (hn : n < 340282366920938463463374607431768211456) (ha : a < 340282366920938463463374607431768211456) :
    Run T f_w03_SpanPlaces [v, aA n, aA a] s (fun r _ => r = .bool true) := by
  have hS : Snd 340282366920938463463374607431768211456 0 (builtL [] (l.take 200)) := builtL_snd trivial fun r hr => hw r (List.mem_of_mem_take hr)
  have hlen : (builtL [] (l.take 200)).length ≤ 200 := by
    have := builtL_len (l.take 200) []
    simp at this; omega
  have hb := built_r (s ++ [.cells true (cA n), .cells true (cA a)]) v l hl hw (hv.ext ⟨_, rfl⟩)
  generalize builtL [] (l.take 200) = S at hS hlen hb
  have hwS := Snd.toWf hS
  have hok := (sndB_iff hwS).2 hS
  have hcv : cntV S = .tup [aA (cnt S % 340282366920938463463374607431768211456), .bool (decide (0 < S.length ∧ cnt S % 340282366920938463463374607431768211456 = 0))] := by unfold cntV; rw [if_pos hok]
  have hcl := cnt_le hS
  have hk := rank_le a hS
  have hkm : rankL a S % 340282366920938463463374607431768211456 = rankL a S := Nat.mod_eq_of_lt (by omega)
  have hq : ∀ x : Nat, eqA (.st (.one 0 .i (.one 1 .i .nil))) (aA x) (aA x) = some true := fun x => by rw [eq_A, dec_t rfl]
  have hq0 : eqA (.st (.one 0 .i (.one 1 .i .nil))) (aA 0) (.agg [.int .u64 0, .int .u64 0]) = some true := by rw [eq_A0, dec_t rfl]
  have btt : (true == true) = true := rfl
  have bff : (false == false) = true := rfl
  -- the second half
  obtain ⟨TAIL, hT⟩ : ∃ c, c = r_w03_SpanPlaces.body.snd.snd.snd.snd.snd.snd := ⟨_, rfl⟩
  have hbody : r_w03_SpanPlaces.body = .seq r_w03_SpanPlaces.body.fst (.seq r_w03_SpanPlaces.body.snd.fst (.seq r_w03_SpanPlaces.body.snd.snd.fst (.seq r_w03_SpanPlaces.body.snd.snd.snd.fst (.seq r_w03_SpanPlaces.body.snd.snd.snd.snd.fst (.seq r_w03_SpanPlaces.body.snd.snd.snd.snd.snd.fst TAIL))))) := by rw [hT]; rfl
  have htail : ∀ (e : Env) (t : St) (vs : AV), Ext s t → Rd 4 cR t vs S → (∀ l, ldA (t ++ l) (some 2) (e.get 5) = some (aA a)) → e.get 7 = vs → awp (Run T) TAIL (endK [.tmp 6] s fun r _ => r = .bool true) e t := by
    intro e t vs hx hr g5 g7
    have g5' := g5 []
    rw [List.append_nil] at g5'
    rw [hT]
    have hbA := fun x b l => (blkA (t := t ++ (b :: .cells true (cA x) :: l)) (b := t.length + 1) (q := x) (by simp)).1
    have hb0 := fun x l => (blkA (t := t ++ (.cells true (cA x) :: l)) (b := t.length) (q := x) (by simp)).1
    cases hin : inL S a
    · have hnm : ¬ mem S a := fun h => by rw [(inL_iff S a).2 h] at hin; cases hin
      have hab := fun y h => rank_above (y := y) hS hnm h
      cases hy : nthL S (rankL a S)
      · have hnv : nthV S (rankL a S) = .tup [aA 0, .bool false] := by unfold nthV; rw [if_pos hok, hy]
        simp only [r_w03_SpanPlaces, RC.snd, XX, CC, Nat.reduceAdd, Nat.reduceSub, Nat.reduceLeDiff, Nat.reduceLT, Nat.reduceEqDiff, reduceIte, ↓reduceIte, Nat.reduceBEq, g5, g5', g7]
        refine (rank_r _ vs S a ha (by omega) hwS hr).use ?_
        rw [if_pos hok, hkm]
        simp only [XX, CC, Nat.reduceAdd, Nat.reduceSub, Nat.reduceLeDiff, Nat.reduceLT, Nat.reduceEqDiff, reduceIte, ↓reduceIte, Nat.reduceBEq, g5, g7, hb0]
        refine (nth_r _ vs S _ (by omega) (by omega) hwS (hr.ext ⟨_, rfl⟩)).use ?_
        rw [hnv]
        simp only [XX, CC, Nat.reduceAdd, Nat.reduceSub, Nat.reduceLeDiff, Nat.reduceLT, Nat.reduceEqDiff, reduceIte, ↓reduceIte, Nat.reduceBEq, g5, g7]
        refine (has_r _ vs S a (by omega) hwS (hr.ext ⟨_, rfl⟩)).use ?_
        rw [hok, hin]
        simp only [XX, CC, Nat.reduceAdd, Nat.reduceSub, Nat.reduceLeDiff, Nat.reduceLT, Nat.reduceEqDiff, reduceIte, ↓reduceIte, Nat.reduceBEq, Bool.and_false, Bool.not_false]
        exact ret_drop (k := fun r _ => r = AV.bool true) (hx.app _) rfl rfl
      · rename_i y
        have hay := hab y hy
        have hnv : nthV S (rankL a S) = .tup [aA y, .bool true] := by unfold nthV; rw [if_pos hok, hy]
        simp only [r_w03_SpanPlaces, RC.snd, XX, CC, Nat.reduceAdd, Nat.reduceSub, Nat.reduceLeDiff, Nat.reduceLT, Nat.reduceEqDiff, reduceIte, ↓reduceIte, Nat.reduceBEq, g5, g5', g7]
        refine (rank_r _ vs S a ha (by omega) hwS hr).use ?_
        rw [if_pos hok, hkm]
        simp only [XX, CC, Nat.reduceAdd, Nat.reduceSub, Nat.reduceLeDiff, Nat.reduceLT, Nat.reduceEqDiff, reduceIte, ↓reduceIte, Nat.reduceBEq, g5, g7, hb0]
        refine (nth_r _ vs S _ (by omega) (by omega) hwS (hr.ext ⟨_, rfl⟩)).use ?_
        rw [hnv]
        simp only [XX, CC, Nat.reduceAdd, Nat.reduceSub, Nat.reduceLeDiff, Nat.reduceLT, Nat.reduceEqDiff, reduceIte, ↓reduceIte, Nat.reduceBEq, g5, g7]
        refine (has_r _ vs S a (by omega) hwS (hr.ext ⟨_, rfl⟩)).use ?_
        rw [hok, hin]
        simp only [XX, CC, Nat.reduceAdd, Nat.reduceSub, Nat.reduceLeDiff, Nat.reduceLT, Nat.reduceEqDiff, reduceIte, ↓reduceIte, Nat.reduceBEq, Bool.and_false, Bool.not_true, g5, g7, hbA]
        refine (cmp_r _ y a).use ?_
        simp only [gt_dec, dec_t hay, XX, CC, Nat.reduceAdd, Nat.reduceSub, Nat.reduceLeDiff, Nat.reduceLT, Nat.reduceEqDiff, reduceIte, ↓reduceIte, Nat.reduceBEq]
        exact ret_drop (k := fun r _ => r = AV.bool true) (hx.app _) rfl rfl
    · have hy := rank_nth hS ((inL_iff S a).1 hin)
      have hnv : nthV S (rankL a S) = .tup [aA a, .bool true] := by unfold nthV; rw [if_pos hok, hy]
      simp only [r_w03_SpanPlaces, RC.snd, XX, CC, Nat.reduceAdd, Nat.reduceSub, Nat.reduceLeDiff, Nat.reduceLT, Nat.reduceEqDiff, reduceIte, ↓reduceIte, Nat.reduceBEq, g5, g5', g7]
      refine (rank_r _ vs S a ha (by omega) hwS hr).use ?_
      rw [if_pos hok, hkm]
      simp only [XX, CC, Nat.reduceAdd, Nat.reduceSub, Nat.reduceLeDiff, Nat.reduceLT, Nat.reduceEqDiff, reduceIte, ↓reduceIte, Nat.reduceBEq, g5, g7, hb0]
      refine (nth_r _ vs S _ (by omega) (by omega) hwS (hr.ext ⟨_, rfl⟩)).use ?_
      rw [hnv]
      simp only [XX, CC, Nat.reduceAdd, Nat.reduceSub, Nat.reduceLeDiff, Nat.reduceLT, Nat.reduceEqDiff, reduceIte, ↓reduceIte, Nat.reduceBEq, g5, g7]
      refine (has_r _ vs S a (by omega) hwS (hr.ext ⟨_, rfl⟩)).use ?_
      rw [hok, hin]
      simp only [XX, CC, Nat.reduceAdd, Nat.reduceSub, Nat.reduceLeDiff, Nat.reduceLT, Nat.reduceEqDiff, reduceIte, ↓reduceIte, Nat.reduceBEq, Bool.and_true, g5, g7, hbA, hq]
      exact ret_drop (k := fun r _ => r = AV.bool true) (hx.app _) rfl rfl
  refine run_body (F := r_w03_SpanPlaces) rfl (by simp [r_w03_SpanPlaces]) ?_
  rw [hbody]
  simp only [r_w03_SpanPlaces, RC.fst, RC.snd, XX, CC, Nat.reduceAdd, Nat.reduceSub, Nat.reduceLeDiff, Nat.reduceLT, Nat.reduceEqDiff, reduceIte, ↓reduceIte, Nat.reduceBEq]
  refine (awake_r _).use ?_
  simp only [XX, CC, Nat.reduceAdd, Nat.reduceSub, Nat.reduceLeDiff, Nat.reduceLT, Nat.reduceEqDiff, reduceIte, ↓reduceIte, Nat.reduceBEq, Bool.not_true]
  refine Run.mono _ _ _ _ _ ?_ hb
  intro vs t o
  have hx : Ext s t := Ext.trans ⟨_, rfl⟩ o.ext
  have hr := o.rd cR_len
  have bn := blkA (t := t) (b := s.length) (q := n) (o.ext.get_some (by simp))
  have ba := blkA (t := t) (b := s.length + 1) (q := a) (o.ext.get_some (by simp))
  have hbA := fun x b l => (blkA (t := t ++ (b :: .cells true (cA x) :: l)) (b := t.length + 1) (q := x) (by simp)).1
  have hb0 := fun x l => (blkA (t := t ++ (.cells true (cA x) :: l)) (b := t.length) (q := x) (by simp)).1
  have bal : ∀ r l, ldA (t ++ r ++ l) (some 2) (.ptr (s.length + 1) 0) = some (aA a) := fun r l => by rw [List.append_assoc]; exact ba.2 _
  cases hx1 : nthL S n
  · have hnv : nthV S n = .tup [aA 0, .bool false] := by unfold nthV; rw [if_pos hok, hx1]
    have hcn := (nth_none hS).1 hx1
    have hall : decide (0 < S.length ∧ cnt S % 340282366920938463463374607431768211456 = 0) = false := by
      rw [decide_eq_false_iff_not]
      rintro ⟨h1, h2⟩
      have : 0 < cnt S := by cases S with | nil => simp at h1 | cons q S => rw [cnt_cons]; omega
      omega
    have hlt : decide (n < cnt S % 340282366920938463463374607431768211456) = false := by
      rw [decide_eq_false_iff_not, Nat.mod_eq_of_lt (by omega)]; omega
    rw [hall] at hcv
    (try simp only [XX, CC, Nat.reduceAdd, Nat.reduceSub, Nat.reduceLeDiff, Nat.reduceLT, Nat.reduceEqDiff, reduceIte, ↓reduceIte, Nat.reduceBEq])
    refine (count_r _ vs S (by omega) hwS hr).use ?_
    rw [hcv]
    simp only [XX, CC, Nat.reduceAdd, Nat.reduceSub, Nat.reduceLeDiff, Nat.reduceLT, Nat.reduceEqDiff, reduceIte, ↓reduceIte, Nat.reduceBEq, bn]
    refine (nth_r _ vs S n hn (by omega) hwS (hr.ext ⟨_, rfl⟩)).use ?_
    rw [hnv]
    simp only [XX, CC, Nat.reduceAdd, Nat.reduceSub, Nat.reduceLeDiff, Nat.reduceLT, Nat.reduceEqDiff, reduceIte, ↓reduceIte, Nat.reduceBEq]
    refine drw_in [] rfl ?_
    simp only [List.append_nil, DD, CC, Nat.reduceAdd, Nat.reduceSub, Nat.reduceLeDiff, Nat.reduceLT, Nat.reduceEqDiff, reduceIte, ↓reduceIte, Nat.reduceBEq, bn, hb0]
    refine dr_call (cmp_r _ n _) ?_
    simp only [DD, CC, Nat.reduceAdd, Nat.reduceSub, Nat.reduceLeDiff, Nat.reduceLT, Nat.reduceEqDiff, reduceIte, ↓reduceIte, Nat.reduceBEq, cmpN_dlt, hlt, bff, Bool.not_true, Bool.not_false, hbA, hq0]
    refine htail _ _ vs (hx.app _) (hr.ext ⟨_, rfl⟩) ?_ ?_ <;> simp only [XX, CC, Nat.reduceAdd, Nat.reduceSub, Nat.reduceLeDiff, Nat.reduceLT, Nat.reduceEqDiff, reduceIte, ↓reduceIte, Nat.reduceBEq]
    exact fun l => ba.2 _
  · rename_i x
    have hnv : nthV S n = .tup [aA x, .bool true] := by unfold nthV; rw [if_pos hok, hx1]
    have hxw := nthL_lt hS hx1
    have hrk : (if sndB 0 S = true then rankL x S % 340282366920938463463374607431768211456 else 0) = n := by rw [if_pos hok, nth_rank hS hx1, Nat.mod_eq_of_lt hn]
    have hin : (sndB 0 S && inL S x) = true := by rw [hok, (inL_iff S x).2 hxw.2]; rfl
    have hcn : ¬ cnt S ≤ n := fun h => by rw [(nth_none hS).2 h] at hx1; cases hx1
    cases hall : decide (0 < S.length ∧ cnt S % 340282366920938463463374607431768211456 = 0)
    · have hlt : decide (n < cnt S % 340282366920938463463374607431768211456) = true := by
        have hne : ¬ (0 < S.length ∧ cnt S % 340282366920938463463374607431768211456 = 0) := by simpa using hall
        have : 0 < S.length := by cases S with | nil => simp [cnt] at hcn | cons q S => simp
        have : cnt S ≠ 340282366920938463463374607431768211456 := fun h => hne ⟨this, by rw [h]⟩
        rw [decide_eq_true_iff, Nat.mod_eq_of_lt (by omega)]; omega
      rw [hall] at hcv
      (try simp only [XX, CC, Nat.reduceAdd, Nat.reduceSub, Nat.reduceLeDiff, Nat.reduceLT, Nat.reduceEqDiff, reduceIte, ↓reduceIte, Nat.reduceBEq])
      refine (count_r _ vs S (by omega) hwS hr).use ?_
      rw [hcv]
      simp only [XX, CC, Nat.reduceAdd, Nat.reduceSub, Nat.reduceLeDiff, Nat.reduceLT, Nat.reduceEqDiff, reduceIte, ↓reduceIte, Nat.reduceBEq, bn]
      refine (nth_r _ vs S n hn (by omega) hwS (hr.ext ⟨_, rfl⟩)).use ?_
      rw [hnv]
      simp only [XX, CC, Nat.reduceAdd, Nat.reduceSub, Nat.reduceLeDiff, Nat.reduceLT, Nat.reduceEqDiff, reduceIte, ↓reduceIte, Nat.reduceBEq]
      refine drw_in [] rfl ?_
      simp only [List.append_nil, DD, CC, Nat.reduceAdd, Nat.reduceSub, Nat.reduceLeDiff, Nat.reduceLT, Nat.reduceEqDiff, reduceIte, ↓reduceIte, Nat.reduceBEq, bn, hb0]
      refine dr_call (cmp_r _ n _) ?_
      simp only [DD, CC, Nat.reduceAdd, Nat.reduceSub, Nat.reduceLeDiff, Nat.reduceLT, Nat.reduceEqDiff, reduceIte, ↓reduceIte, Nat.reduceBEq, cmpN_dlt, hlt, btt, Bool.not_true, Bool.not_false, hbA]
      refine dr_call (has_r _ vs S x (by omega) hwS (hr.ext ⟨_, rfl⟩)) ?_
      simp only [DD, CC, Nat.reduceAdd, Nat.reduceSub, Nat.reduceLeDiff, Nat.reduceLT, Nat.reduceEqDiff, reduceIte, ↓reduceIte, Nat.reduceBEq, hin, Bool.not_true, hbA]
      refine dr_call (rank_r _ vs S x hxw.1 (by omega) hwS (hr.ext ⟨_, rfl⟩)) ?_
      simp only [DD, CC, Nat.reduceAdd, Nat.reduceSub, Nat.reduceLeDiff, Nat.reduceLT, Nat.reduceEqDiff, reduceIte, ↓reduceIte, Nat.reduceBEq, hrk, bn, hq, Bool.not_true]
      refine htail _ _ vs (hx.app _) (hr.ext ⟨_, rfl⟩) ?_ ?_ <;> simp only [XX, CC, Nat.reduceAdd, Nat.reduceSub, Nat.reduceLeDiff, Nat.reduceLT, Nat.reduceEqDiff, reduceIte, ↓reduceIte, Nat.reduceBEq]
      exact fun l => ba.2 _
    · rw [hall] at hcv
      (try simp only [XX, CC, Nat.reduceAdd, Nat.reduceSub, Nat.reduceLeDiff, Nat.reduceLT, Nat.reduceEqDiff, reduceIte, ↓reduceIte, Nat.reduceBEq])
      refine (count_r _ vs S (by omega) hwS hr).use ?_
      rw [hcv]
      simp only [XX, CC, Nat.reduceAdd, Nat.reduceSub, Nat.reduceLeDiff, Nat.reduceLT, Nat.reduceEqDiff, reduceIte, ↓reduceIte, Nat.reduceBEq, bn]
      refine (nth_r _ vs S n hn (by omega) hwS (hr.ext ⟨_, rfl⟩)).use ?_
      rw [hnv]
      simp only [XX, CC, Nat.reduceAdd, Nat.reduceSub, Nat.reduceLeDiff, Nat.reduceLT, Nat.reduceEqDiff, reduceIte, ↓reduceIte, Nat.reduceBEq]
      refine drw_in [] rfl ?_
      simp only [List.append_nil, DD, CC, Nat.reduceAdd, Nat.reduceSub, Nat.reduceLeDiff, Nat.reduceLT, Nat.reduceEqDiff, reduceIte, ↓reduceIte, Nat.reduceBEq, btt, Bool.not_true, hbA]
      refine dr_call (has_r _ vs S x (by omega) hwS (hr.ext ⟨_, rfl⟩)) ?_
      simp only [DD, CC, Nat.reduceAdd, Nat.reduceSub, Nat.reduceLeDiff, Nat.reduceLT, Nat.reduceEqDiff, reduceIte, ↓reduceIte, Nat.reduceBEq, hin, Bool.not_true, hbA]
      refine dr_call (rank_r _ vs S x hxw.1 (by omega) hwS (hr.ext ⟨_, rfl⟩)) ?_
      simp only [DD, CC, Nat.reduceAdd, Nat.reduceSub, Nat.reduceLeDiff, Nat.reduceLT, Nat.reduceEqDiff, reduceIte, ↓reduceIte, Nat.reduceBEq, hrk, bn, hq, Bool.not_true]
      refine htail _ _ vs (hx.app _) (hr.ext ⟨_, rfl⟩) ?_ ?_ <;> simp only [XX, CC, Nat.reduceAdd, Nat.reduceSub, Nat.reduceLeDiff, Nat.reduceLT, Nat.reduceEqDiff, reduceIte, ↓reduceIte, Nat.reduceBEq]
      exact fun l => ba.2 _
end Go.Ev
