import Derived.Test.YtmkhnefjklfpnaaCRefC
/-! The reference's Rank. -/
namespace Go.Ev
set_option linter.unusedVariables false
set_option linter.unusedSimpArgs false
open Go.Ev.Sp

set_option maxHeartbeats 4000000 in
/-- tenancyref03.Rank -/
theorem rrank_r (s : St) (v : AV) (set : List (Nat × Nat)) (a : Nat) (ha : a < 340282366920938463463374607431768211456) (hl : set.length < 4611686018427387904) (hw : Wf set) (hv : Rd 4 cR s v set) : RunD T f_r03_Rank [v, aA a] s (aA (if sndB 0 set = true then rankL a set % 340282366920938463463374607431768211456 else 0)) s := by
  refine run_body (F := r_r03_Rank) rfl (by simp [r_r03_Rank]) ?_
  simp only [r_r03_Rank, XX, CC, Nat.reduceAdd, Nat.reduceSub, Nat.reduceLeDiff, Nat.reduceLT, Nat.reduceEqDiff, reduceIte, ↓reduceIte, Nat.reduceBEq]
  refine awp_loop (fun d e t => Ext s t ∧ ∃ (i n : Nat), i + d = set.length ∧ e.get 0 = v ∧ e.get 3 = .ptr s.length 0 ∧ e.get 4 = .ptr (s.length + 1) 0 ∧ e.get 5 = .ptr (s.length + 2) 0 ∧ e.get 6 = .int .i64 i ∧
    t[s.length]? = some (.cells true (cA a)) ∧ t[s.length + 1]? = some (.cells true (cA 0)) ∧ t[s.length + 2]? = some (.cells true (cA n)) ∧ n < 340282366920938463463374607431768211456 ∧ (sndB 0 set = true → rankL a set % 340282366920938463463374607431768211456 = (n + rankL a (set.drop i)) % 340282366920938463463374607431768211456) ∧ (sndB 0 set = false → n = 0)) set.length ?_ ?_
  · refine ⟨⟨_, rfl⟩, 0, 0, by omega, ?_, ?_, ?_, ?_, ?_, by simp, by simp; rfl, by simp; rfl, by decide, fun _ => by simp, fun _ => rfl⟩ <;> (try simp only [XX, CC, Nat.reduceAdd, Nat.reduceSub, Nat.reduceLeDiff, Nat.reduceLT, Nat.reduceEqDiff, reduceIte, ↓reduceIte, Nat.reduceBEq]) <;> rfl
  rintro d e t ⟨hx, i, n, hi, g0, g3, g4, g5, g6, ba, b0, bn, hn, hr1, hr0⟩
  have hv := hv.ext hx
  have ka := blkA ba
  have kn := blkA bn
  have htl : s.length + 2 < t.length := (List.getElem?_eq_some_iff.1 bn).1
  have fin : ∀ m : Nat, m < 340282366920938463463374607431768211456 → ∀ l : St, ∀ x : Nat, x = m → (ob (wrA (t ++ l) (s.length + 1) 0 (cA m)) fun s' => ob ((ldA s' (some 2) (.ptr (s.length + 1) 0)).bind fun v => some [v]) fun vs => Ret s (oneV vs) s' fun a_1 t => a_1 = aA x ∧ t = s) := by
    rintro m hm l x rfl
    refine ⟨t.set (s.length + 1) (.cells true (cA x)) ++ l, ?_, ?_⟩
    · have := st_in b0 (cA_len x) (cA_cell x) (show 0 + 2 ≤ 2 by omega) l
      rw [st_agg (cA_len x)] at this
      exact this
    · dsimp only
      rw [(blkA (key_set (t := t) (b := s.length + 1) (x := .cells true (cA x)) (by omega))).2 l]
      simp only [XX, CC, Nat.reduceAdd, Nat.reduceSub, Nat.reduceLeDiff, Nat.reduceLT, Nat.reduceEqDiff, reduceIte, ↓reduceIte, Nat.reduceBEq]
      exact ret_drop ((hx.set (by omega) _).app _) rfl ⟨rfl, rfl⟩
  simp only [XX, CC, Nat.reduceAdd, Nat.reduceSub, Nat.reduceLeDiff, Nat.reduceLT, Nat.reduceEqDiff, reduceIte, ↓reduceIte, Nat.reduceBEq, g0, g3, g4, g5, g6]
  refine (rsound_r _ v set hl hw hv).use ?_
  obtain ⟨q, b2, o2, hqq⟩ : ∃ (q : Nat × Nat) (b o : Nat), i < set.length → set[i]? = some q ∧ set.drop i = q :: set.drop (i + 1) ∧ (∀ k : IntKind, ixaA 4 v (.int k (i : Int)) = some (.ptr b o)) ∧ ldA t (some 4) (.ptr b o) = some (aR q) ∧ ∀ l, ldA (t ++ l) (some 4) (.ptr b o) = some (aR q) := by
    by_cases h : i < set.length
    · obtain ⟨q, hq, hd⟩ := drop_get h
      obtain ⟨b2, o2, h1, h2⟩ := rdR hv hq
      exact ⟨q, b2, o2, fun _ => ⟨hq, hd, h1, h2.1, h2.2.2.2.1⟩⟩
    · exact ⟨(0, 0), 0, 0, fun h' => absurd h' h⟩
  cases hs : sndB 0 set
  · simp only [XX, CC, Nat.reduceAdd, Nat.reduceSub, Nat.reduceLeDiff, Nat.reduceLT, Nat.reduceEqDiff, reduceIte, ↓reduceIte, Nat.reduceBEq, g0, g3, g4, g5, g6, kn]
    have hn0 := hr0 hs
    subst hn0
    have := fin 0 (by decide) [] 0 rfl
    rw [List.append_nil] at this
    exact this
  · simp only [XX, CC, Nat.reduceAdd, Nat.reduceSub, Nat.reduceLeDiff, Nat.reduceLT, Nat.reduceEqDiff, reduceIte, ↓reduceIte, Nat.reduceBEq, g0, g3, g4, g5, g6, hv.len]
    have hr1 := hr1 hs
    have hsn := Snd.wf ((sndB_iff hw).1 hs)
    by_cases h : i < set.length
    · have hq := (hqq h).1
      have hd := (hqq h).2.1
      have h1 := (hqq h).2.2.1
      have h2 := (hqq h).2.2.2
      have hqw := hsn q (List.mem_of_getElem? hq)
      rw [hd] at hr1
      simp only [rankL] at hr1
      simp only [dec_t (show (i : Int) < set.length by omega), XX, CC, Nat.reduceAdd, Nat.reduceSub, Nat.reduceLeDiff, Nat.reduceLT, Nat.reduceEqDiff, reduceIte, ↓reduceIte, Nat.reduceBEq, g0, g3, g4, g5, g6, h1, h2, ka]
      refine (le_r _ a q.1 ha (by omega)).use ?_
      cases c1 : decide (a ≤ q.1)
      · simp only [XX, CC, Nat.reduceAdd, Nat.reduceSub, Nat.reduceLeDiff, Nat.reduceLT, Nat.reduceEqDiff, reduceIte, ↓reduceIte, Nat.reduceBEq, g0, g3, g4, g5, g6, ka]
        simp at c1
        rw [if_neg (by omega)] at hr1
        refine (le_r _ a q.2 ha (by omega)).use ?_
        cases c2 : decide (a ≤ q.2)
        · simp only [XX, CC, Nat.reduceAdd, Nat.reduceSub, Nat.reduceLeDiff, Nat.reduceLT, Nat.reduceEqDiff, reduceIte, ↓reduceIte, Nat.reduceBEq, g0, g3, g4, g5, g6, kn]
          simp at c2
          rw [if_neg (by omega)] at hr1
          refine drw_in [] rfl ?_
          simp only [List.append_nil, DD, CC, Nat.reduceAdd, Nat.reduceSub, Nat.reduceLeDiff, Nat.reduceLT, Nat.reduceEqDiff, reduceIte, ↓reduceIte, Nat.reduceBEq, g0, g3, g4, g5, g6, kn]
          refine dr_call (size_r _ q hqw.1 hqw.2) ?_
          simp only [DD, CC, Nat.reduceAdd, Nat.reduceSub, Nat.reduceLeDiff, Nat.reduceLT, Nat.reduceEqDiff, reduceIte, ↓reduceIte, Nat.reduceBEq, g0, g3, g4, g5, g6]
          refine dr_call (radd_r _ n ((q.2 - q.1 + 1) % 340282366920938463463374607431768211456) hn (Nat.mod_lt _ (by decide))) ?_
          simp only [DD, CC, Nat.reduceAdd, Nat.reduceSub, Nat.reduceLeDiff, Nat.reduceLT, Nat.reduceEqDiff, reduceIte, ↓reduceIte, Nat.reduceBEq, g0, g3, g4, g5, g6, st_in bn]
          refine loop_again ⟨d - 1, by omega, (hx.set (by omega) _).app _, i + 1, (n + (q.2 - q.1 + 1) % 340282366920938463463374607431768211456) % 340282366920938463463374607431768211456, by omega, ?_, ?_, ?_, ?_, ?_, ?_, ?_, ?_, Nat.mod_lt _ (by decide), ?_, ?_⟩ <;> (try simp only [XX, CC, Nat.reduceAdd, Nat.reduceSub, Nat.reduceLeDiff, Nat.reduceLT, Nat.reduceEqDiff, reduceIte, ↓reduceIte, Nat.reduceBEq, g0, g3, g4, g5, g6])
          · rw [w64_nat (by omega)]
          · rw [List.getElem?_append_left (by simp; omega)]; exact set_at ba (by omega)
          · rw [List.getElem?_append_left (by simp; omega)]; exact set_at b0 (by omega)
          · rw [List.getElem?_append_left (by simp; omega)]; exact key_set htl
          · intro _; rw [hr1]; omega
          · intro h; simp at h
        · simp only [XX, CC, Nat.reduceAdd, Nat.reduceSub, Nat.reduceLeDiff, Nat.reduceLT, Nat.reduceEqDiff, reduceIte, ↓reduceIte, Nat.reduceBEq, g0, g3, g4, g5, g6, ka]
          simp at c2
          rw [if_pos (by omega)] at hr1
          refine (ahead_r _ a ha).use ?_
          have hm : (a + 340282366920938463463374607431768211456 - 1) % 340282366920938463463374607431768211456 = a - 1 := by omega
          simp only [XX, CC, Nat.reduceAdd, Nat.reduceSub, Nat.reduceLeDiff, Nat.reduceLT, Nat.reduceEqDiff, reduceIte, ↓reduceIte, Nat.reduceBEq, g0, g3, g4, g5, g6, hm]
          refine drw_in [] rfl ?_
          simp only [List.append_nil, DD, CC, Nat.reduceAdd, Nat.reduceSub, Nat.reduceLeDiff, Nat.reduceLT, Nat.reduceEqDiff, reduceIte, ↓reduceIte, Nat.reduceBEq, g0, g3, g4, g5, g6, kn]
          refine dr_call (size_r _ (q.1, a - 1) (by omega) (by omega)) ?_
          simp only [DD, CC, Nat.reduceAdd, Nat.reduceSub, Nat.reduceLeDiff, Nat.reduceLT, Nat.reduceEqDiff, reduceIte, ↓reduceIte, Nat.reduceBEq, g0, g3, g4, g5, g6]
          refine dr_call (radd_r _ n ((a - 1 - q.1 + 1) % 340282366920938463463374607431768211456) hn (Nat.mod_lt _ (by decide))) ?_
          simp only [DD, CC, Nat.reduceAdd, Nat.reduceSub, Nat.reduceLeDiff, Nat.reduceLT, Nat.reduceEqDiff, reduceIte, ↓reduceIte, Nat.reduceBEq, g0, g3, g4, g5, g6, st_in bn]
          refine loop_again ⟨d - 1, by omega, (hx.set (by omega) _).app _, i + 1, (n + (a - 1 - q.1 + 1) % 340282366920938463463374607431768211456) % 340282366920938463463374607431768211456, by omega, ?_, ?_, ?_, ?_, ?_, ?_, ?_, ?_, Nat.mod_lt _ (by decide), ?_, ?_⟩ <;> (try simp only [XX, CC, Nat.reduceAdd, Nat.reduceSub, Nat.reduceLeDiff, Nat.reduceLT, Nat.reduceEqDiff, reduceIte, ↓reduceIte, Nat.reduceBEq, g0, g3, g4, g5, g6])
          · rw [w64_nat (by omega)]
          · rw [List.getElem?_append_left (by simp; omega)]; exact set_at ba (by omega)
          · rw [List.getElem?_append_left (by simp; omega)]; exact set_at b0 (by omega)
          · rw [List.getElem?_append_left (by simp; omega)]; exact key_set htl
          · intro _; rw [hr1]; omega
          · intro h; simp at h
      · simp only [XX, CC, Nat.reduceAdd, Nat.reduceSub, Nat.reduceLeDiff, Nat.reduceLT, Nat.reduceEqDiff, reduceIte, ↓reduceIte, Nat.reduceBEq, g0, g3, g4, g5, g6, kn]
        simp at c1
        rw [if_pos (by omega), Nat.add_zero, Nat.mod_eq_of_lt hn] at hr1
        have := fin n hn [.cells true (cR q)] (rankL a set % 340282366920938463463374607431768211456) hr1
        exact this
    · rw [List.drop_of_length_le (by omega), show rankL a [] = 0 from rfl, Nat.add_zero, Nat.mod_eq_of_lt hn] at hr1
      simp only [dec_f (show ¬ (i : Int) < set.length by omega), XX, CC, Nat.reduceAdd, Nat.reduceSub, Nat.reduceLeDiff, Nat.reduceLT, Nat.reduceEqDiff, reduceIte, ↓reduceIte, Nat.reduceBEq, g0, g3, g4, g5, kn]
      have := fin n hn [] (rankL a set % 340282366920938463463374607431768211456) hr1
      rw [List.append_nil] at this
      exact this
end Go.Ev
