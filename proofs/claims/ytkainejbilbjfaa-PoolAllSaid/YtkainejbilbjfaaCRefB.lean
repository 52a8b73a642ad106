import Derived.Test.YtkainejbilbjfaaCRefA
/-! The reference's sets: the small functions. -/
namespace Go.Ev
set_option linter.unusedVariables false
set_option linter.unusedSimpArgs false
open Go.Ev.Sp

theorem le_r (s : St) (a b : Nat) (ha : a < 340282366920938463463374607431768211456) (hb : b < 340282366920938463463374607431768211456) : RunD T f_r03_le [aA a, aA b] s (.bool (decide (a ≤ b))) s := by
  refine run_body (F := r_r03_le) rfl (by simp [r_r03_le]) ?_
  simp only [r_r03_le, XX, CC, Nat.reduceAdd, Nat.reduceSub, Nat.reduceLeDiff, Nat.reduceLT, Nat.reduceEqDiff, reduceIte, ↓reduceIte, Nat.reduceBEq]
  refine (rcmp_r _ a b ha hb).use ?_
  simp only [XX, CC, Nat.reduceAdd, Nat.reduceSub, Nat.reduceLeDiff, Nat.reduceLT, Nat.reduceEqDiff, reduceIte, ↓reduceIte, Nat.reduceBEq, cmpN_dle]
  exact ret_drop ⟨_, rfl⟩ rfl ⟨rfl, rfl⟩
theorem one_cells : (AV.agg [.int .u64 0, .int .u64 1]) = aA 1 := rfl
theorem next_r (s : St) (a : Nat) (ha : a < 340282366920938463463374607431768211456) : RunD T f_r03_next [aA a] s (.tup [aA ((a + 1) % 340282366920938463463374607431768211456), .bool !(ovr a 1)]) s := by
  refine run_body (F := r_r03_next) rfl (by simp [r_r03_next]) ?_
  simp only [r_r03_next, XX, CC, Nat.reduceAdd, Nat.reduceSub, Nat.reduceLeDiff, Nat.reduceLT, Nat.reduceEqDiff, reduceIte, ↓reduceIte, Nat.reduceBEq, one_cells]
  refine (radd_r _ a 1 ha (by decide)).use ?_
  simp only [XX, CC, Nat.reduceAdd, Nat.reduceSub, Nat.reduceLeDiff, Nat.reduceLT, Nat.reduceEqDiff, reduceIte, ↓reduceIte, Nat.reduceBEq]
  exact ret_drop ⟨_, rfl⟩ rfl ⟨rfl, rfl⟩
theorem ahead_r (s : St) (a : Nat) (ha : a < 340282366920938463463374607431768211456) : RunD T f_r03_ahead [aA a] s (.tup [aA ((a + 340282366920938463463374607431768211456 - 1) % 340282366920938463463374607431768211456), .bool (!decide (a < 1))]) s := by
  refine run_body (F := r_r03_ahead) rfl (by simp [r_r03_ahead]) ?_
  simp only [r_r03_ahead, XX, CC, Nat.reduceAdd, Nat.reduceSub, Nat.reduceLeDiff, Nat.reduceLT, Nat.reduceEqDiff, reduceIte, ↓reduceIte, Nat.reduceBEq, one_cells]
  refine (rsub_r _ a 1 ha (by decide)).use ?_
  simp only [XX, CC, Nat.reduceAdd, Nat.reduceSub, Nat.reduceLeDiff, Nat.reduceLT, Nat.reduceEqDiff, reduceIte, ↓reduceIte, Nat.reduceBEq]
  exact ret_drop ⟨_, rfl⟩ rfl ⟨rfl, rfl⟩
theorem size_r (s : St) (r : Nat × Nat) (h : r.1 ≤ r.2) (hb : r.2 < 340282366920938463463374607431768211456) : RunD T f_r03_size [aR r] s (aA ((r.2 - r.1 + 1) % 340282366920938463463374607431768211456)) s := by
  refine run_body (F := r_r03_size) rfl (by simp [r_r03_size]) ?_
  simp only [r_r03_size, XX, CC, Nat.reduceAdd, Nat.reduceSub, Nat.reduceLeDiff, Nat.reduceLT, Nat.reduceEqDiff, reduceIte, ↓reduceIte, Nat.reduceBEq]
  refine (rsub_r _ r.2 r.1 hb (by omega)).use ?_
  have hm : (r.2 + 340282366920938463463374607431768211456 - r.1) % 340282366920938463463374607431768211456 = r.2 - r.1 := by omega
  simp only [XX, CC, Nat.reduceAdd, Nat.reduceSub, Nat.reduceLeDiff, Nat.reduceLT, Nat.reduceEqDiff, reduceIte, ↓reduceIte, Nat.reduceBEq, hm]
  refine (next_r _ (r.2 - r.1) (by omega)).use ?_
  simp only [XX, CC, Nat.reduceAdd, Nat.reduceSub, Nat.reduceLeDiff, Nat.reduceLT, Nat.reduceEqDiff, reduceIte, ↓reduceIte, Nat.reduceBEq]
  exact ret_drop ⟨_, rfl⟩ rfl ⟨rfl, rfl⟩

theorem lo_prev {t : St} {v : AV} {set : List (Nat × Nat)} (hw : Wf set) (hv : Rd 4 cR t v set) {i : Nat} (hi : i ≤ set.length) : ∃ (p : Nat × Nat) (b o : Nat), 0 < i → (p.1 < 340282366920938463463374607431768211456 ∧ p.2 < 340282366920938463463374607431768211456) ∧ lo set i = p.2 + 2 ∧
    (∀ k : IntKind, ixaA 4 v (.int k ((i - 1 : Nat) : Int)) = some (.ptr b o)) ∧ ldA t (some 4) (.ptr b o) = some (aR p) ∧ ldA t (some 2) (.ptr b o) = some (aA p.1) ∧ ldA t (some 2) (.ptr b (o + 2)) = some (aA p.2) ∧
      (∀ l, ldA (t ++ l) (some 4) (.ptr b o) = some (aR p)) ∧ (∀ l, ldA (t ++ l) (some 2) (.ptr b o) = some (aA p.1)) ∧ ∀ l, ldA (t ++ l) (some 2) (.ptr b (o + 2)) = some (aA p.2) := by
  cases i with
  | zero => exact ⟨(0, 0), 0, 0, fun h => absurd h (by omega)⟩
  | succ j =>
    obtain ⟨p, hp, _⟩ := drop_get (l := set) (i := j) (by omega)
    obtain ⟨b, o, h1, h2⟩ := rdR hv hp
    exact ⟨p, b, o, fun _ => ⟨hw.get hp, by simp [lo, hp], h1, h2⟩⟩
set_option maxHeartbeats 2000000 in
/-- tenancyref03.Sound -/
theorem rsound_r (s : St) (v : AV) (set : List (Nat × Nat)) (hl : set.length < 4611686018427387904) (hw : Wf set) (hv : Rd 4 cR s v set) : RunD T f_r03_Sound [v] s (.bool (sndB 0 set)) s := by
  refine run_body (F := r_r03_Sound) rfl (by simp [r_r03_Sound]) ?_
  simp only [r_r03_Sound, XX, CC, Nat.reduceAdd, Nat.reduceSub, Nat.reduceLeDiff, Nat.reduceLT, Nat.reduceEqDiff, reduceIte, ↓reduceIte, Nat.reduceBEq, hv.len]
  refine awp_loop (fun d e t => Ext s t ∧ ∃ i : Nat, i + d = set.length ∧ e.get 0 = v ∧ e.get 3 = .int .i64 i ∧ sndB 0 set = sndB (lo set i) (set.drop i)) set.length ?_ ?_
  · refine ⟨.refl s, 0, by omega, ?_, ?_, rfl⟩ <;> (try simp only [XX, CC, Nat.reduceAdd, Nat.reduceSub, Nat.reduceLeDiff, Nat.reduceLT, Nat.reduceEqDiff, reduceIte, ↓reduceIte, Nat.reduceBEq]) <;> rfl
  · rintro d e t ⟨hx, i, hi, h0, h3, hs⟩
    have hv := hv.ext hx
    simp only [XX, CC, Nat.reduceAdd, Nat.reduceSub, Nat.reduceLeDiff, Nat.reduceLT, Nat.reduceEqDiff, reduceIte, ↓reduceIte, Nat.reduceBEq, h0, h3, hv.len]
    by_cases h : i < set.length
    · obtain ⟨q, hq, hd⟩ := drop_get h
      obtain ⟨b, o, h1, h2⟩ := rdR hv hq
      have hqw := hw.get hq
      obtain ⟨p, b', o', hpv⟩ := lo_prev hw hv (Nat.le_of_lt h)
      simp only [dec_t (show (i : Int) < set.length by omega), XX, CC, Nat.reduceAdd, Nat.reduceSub, Nat.reduceLeDiff, Nat.reduceLT, Nat.reduceEqDiff, reduceIte, ↓reduceIte, Nat.reduceBEq, h0, h3]
      refine drw_in [] rfl ?_
      simp only [List.append_nil, DD, CC, Nat.reduceAdd, Nat.reduceSub, Nat.reduceLeDiff, Nat.reduceLT, Nat.reduceEqDiff, reduceIte, ↓reduceIte, Nat.reduceBEq, h0, h3, h1, h2]
      refine dr_call (le_r _ q.1 q.2 hqw.1 hqw.2) ?_
      rw [hd] at hs; simp only [sndB] at hs
      cases hr : decide (q.1 ≤ q.2)
      · simp only [DD, CC, Nat.reduceAdd, Nat.reduceSub, Nat.reduceLeDiff, Nat.reduceLT, Nat.reduceEqDiff, reduceIte, ↓reduceIte, Nat.reduceBEq, h0, h3, Bool.not_false]
        refine ret_drop hx rfl ⟨?_, rfl⟩
        rw [hs, hr]; simp
      · simp only [DD, CC, Nat.reduceAdd, Nat.reduceSub, Nat.reduceLeDiff, Nat.reduceLT, Nat.reduceEqDiff, reduceIte, ↓reduceIte, Nat.reduceBEq, h0, h3, Bool.not_true]
        by_cases hz : 0 < i
        · have hpw := (hpv hz).1
          have hlo := (hpv hz).2.1
          have h3' := (hpv hz).2.2.1
          have h4 := (hpv hz).2.2.2
          simp only [dec_t (show (i : Int) > 0 by omega), XX, CC, Nat.reduceAdd, Nat.reduceSub, Nat.reduceLeDiff, Nat.reduceLT, Nat.reduceEqDiff, reduceIte, ↓reduceIte, Nat.reduceBEq, h0, h3, h3', h4, w64_sub hz (by omega)]
          refine (next_r _ p.2 hpw.2).use ?_
          rw [hlo] at hs
          simp only [XX, CC, Nat.reduceAdd, Nat.reduceSub, Nat.reduceLeDiff, Nat.reduceLT, Nat.reduceEqDiff, reduceIte, ↓reduceIte, Nat.reduceBEq, h0, h3]
          refine drw_in [] rfl ?_
          by_cases hov : 340282366920938463463374607431768211456 ≤ p.2 + 1
          · simp only [List.append_nil, ovr_t hov, Bool.not_true, Bool.not_false, DD, CC, Nat.reduceAdd, Nat.reduceSub, Nat.reduceLeDiff, Nat.reduceLT, Nat.reduceEqDiff, reduceIte, ↓reduceIte, Nat.reduceBEq, h0, h3]
            refine ret_drop (hx.app _) rfl ⟨?_, rfl⟩
            rw [hs, dec_f (by omega)]; rfl
          · have hm : (p.2 + 1) % 340282366920938463463374607431768211456 = p.2 + 1 := Nat.mod_eq_of_lt (by omega)
            simp only [List.append_nil, ovr_f hov, hm, Bool.not_true, Bool.not_false, DD, CC, Nat.reduceAdd, Nat.reduceSub, Nat.reduceLeDiff, Nat.reduceLT, Nat.reduceEqDiff, reduceIte, ↓reduceIte, Nat.reduceBEq, h0, h3, h1, h2]
            refine dr_call (le_r _ q.1 (p.2 + 1) hqw.1 (by omega)) ?_
            cases ha : decide (q.1 ≤ p.2 + 1)
            · simp only [DD, CC, Nat.reduceAdd, Nat.reduceSub, Nat.reduceLeDiff, Nat.reduceLT, Nat.reduceEqDiff, reduceIte, ↓reduceIte, Nat.reduceBEq, h0, h3]
              simp at ha hr
              refine loop_again ⟨d - 1, by omega, hx.app _, i + 1, by omega, ?_, ?_, ?_⟩ <;> (try simp only [XX, CC, Nat.reduceAdd, Nat.reduceSub, Nat.reduceLeDiff, Nat.reduceLT, Nat.reduceEqDiff, reduceIte, ↓reduceIte, Nat.reduceBEq, h0, h3])
              · rw [w64_nat (by omega)]
              · rw [hs, dec_t (by omega), dec_t hr]
                simp [lo, hq]
            · simp only [DD, CC, Nat.reduceAdd, Nat.reduceSub, Nat.reduceLeDiff, Nat.reduceLT, Nat.reduceEqDiff, reduceIte, ↓reduceIte, Nat.reduceBEq, h0, h3]
              simp at ha
              refine ret_drop (hx.app _) rfl ⟨?_, rfl⟩
              rw [hs, dec_f (by omega)]; rfl
        · have hi0 : i = 0 := by omega
          subst hi0
          simp only [dec_f (show ¬ ((0 : Nat) : Int) > 0 by omega), XX, CC, Nat.reduceAdd, Nat.reduceSub, Nat.reduceLeDiff, Nat.reduceLT, Nat.reduceEqDiff, reduceIte, ↓reduceIte, Nat.reduceBEq, h0, h3]
          refine loop_again ⟨d - 1, by omega, hx, 0 + 1, by omega, ?_, ?_, ?_⟩ <;> (try simp only [XX, CC, Nat.reduceAdd, Nat.reduceSub, Nat.reduceLeDiff, Nat.reduceLT, Nat.reduceEqDiff, reduceIte, ↓reduceIte, Nat.reduceBEq, h0, h3])
          · rw [w64_nat (by omega)]
          · simp at hr
            rw [hs, dec_t hr]
            simp [lo, hq]
    · simp only [dec_f (show ¬ (i : Int) < set.length by omega), XX, CC, Nat.reduceAdd, Nat.reduceSub, Nat.reduceLeDiff, Nat.reduceLT, Nat.reduceEqDiff, reduceIte, ↓reduceIte, Nat.reduceBEq]
      refine ret_drop hx rfl ⟨?_, rfl⟩
      rw [hs, List.drop_of_length_le (by omega)]; rfl

set_option maxHeartbeats 2000000 in
/-- tenancyref03.in -/
theorem in_r (s : St) (v : AV) (set : List (Nat × Nat)) (a : Nat) (ha : a < 340282366920938463463374607431768211456) (hl : set.length < 4611686018427387904) (hw : Wf set) (hv : Rd 4 cR s v set) : RunD T f_r03_in [v, aA a] s (.bool (inL set a)) s := by
  refine run_body (F := r_r03_in) rfl (by simp [r_r03_in]) ?_
  simp only [r_r03_in, XX, CC, Nat.reduceAdd, Nat.reduceSub, Nat.reduceLeDiff, Nat.reduceLT, Nat.reduceEqDiff, reduceIte, ↓reduceIte, Nat.reduceBEq, hv.len]
  refine awp_loop (fun d e t => t = s ++ [.cells true (cA a)] ∧ ∃ i : Nat, i + d = set.length ∧ e.get 0 = v ∧ e.get 3 = .ptr s.length 0 ∧ e.get 5 = .int .i64 i ∧ inL set a = inL (set.drop i) a) set.length ?_ ?_
  · refine ⟨rfl, 0, by omega, ?_, ?_, ?_, rfl⟩ <;> (try simp only [XX, CC, Nat.reduceAdd, Nat.reduceSub, Nat.reduceLeDiff, Nat.reduceLT, Nat.reduceEqDiff, reduceIte, ↓reduceIte, Nat.reduceBEq]) <;> rfl
  · rintro d e t ⟨rfl, i, hi, h0, h3, h5, hs⟩
    have hv1 := hv.ext (t := s ++ [.cells true (cA a)]) ⟨_, rfl⟩
    simp only [XX, CC, Nat.reduceAdd, Nat.reduceSub, Nat.reduceLeDiff, Nat.reduceLT, Nat.reduceEqDiff, reduceIte, ↓reduceIte, Nat.reduceBEq, h0, h3, h5, hv.len]
    by_cases h : i < set.length
    · obtain ⟨q, hq, hd⟩ := drop_get h
      obtain ⟨b, o, h1, h2⟩ := rdR hv hq
      have hqw := hw.get hq
      rw [hd] at hs; unfold inL at hs; rw [List.any_cons] at hs
      simp only [dec_t (show (i : Int) < set.length by omega), XX, CC, Nat.reduceAdd, Nat.reduceSub, Nat.reduceLeDiff, Nat.reduceLT, Nat.reduceEqDiff, reduceIte, ↓reduceIte, Nat.reduceBEq, h0, h3, h5]
      refine drw_in [] rfl ?_
      simp only [List.append_nil, DD, CC, Nat.reduceAdd, Nat.reduceSub, Nat.reduceLeDiff, Nat.reduceLT, Nat.reduceEqDiff, reduceIte, ↓reduceIte, Nat.reduceBEq, h0, h3, h5, h1, h2]
      refine dr_call (le_r _ q.1 a hqw.1 ha) ?_
      cases c1 : decide (q.1 ≤ a)
      · simp only [DD, CC, Nat.reduceAdd, Nat.reduceSub, Nat.reduceLeDiff, Nat.reduceLT, Nat.reduceEqDiff, reduceIte, ↓reduceIte, Nat.reduceBEq, h0, h3, h5]
        refine loop_again ⟨d - 1, by omega, rfl, i + 1, by omega, ?_, ?_, ?_, ?_⟩ <;> (try simp only [XX, CC, Nat.reduceAdd, Nat.reduceSub, Nat.reduceLeDiff, Nat.reduceLT, Nat.reduceEqDiff, reduceIte, ↓reduceIte, Nat.reduceBEq, h0, h3, h5])
        · rw [w64_nat (by omega)]
        · rw [c1] at hs; unfold inL; rw [hs]; rfl
      · simp only [DD, CC, Nat.reduceAdd, Nat.reduceSub, Nat.reduceLeDiff, Nat.reduceLT, Nat.reduceEqDiff, reduceIte, ↓reduceIte, Nat.reduceBEq, h0, h3, h5, h1, h2]
        refine dr_call (le_r _ a q.2 ha hqw.2) ?_
        cases c2 : decide (a ≤ q.2)
        · simp only [DD, CC, Nat.reduceAdd, Nat.reduceSub, Nat.reduceLeDiff, Nat.reduceLT, Nat.reduceEqDiff, reduceIte, ↓reduceIte, Nat.reduceBEq, h0, h3, h5]
          refine loop_again ⟨d - 1, by omega, rfl, i + 1, by omega, ?_, ?_, ?_, ?_⟩ <;> (try simp only [XX, CC, Nat.reduceAdd, Nat.reduceSub, Nat.reduceLeDiff, Nat.reduceLT, Nat.reduceEqDiff, reduceIte, ↓reduceIte, Nat.reduceBEq, h0, h3, h5])
          · rw [w64_nat (by omega)]
          · rw [c1, c2] at hs; unfold inL; rw [hs]; rfl
        · simp only [DD, CC, Nat.reduceAdd, Nat.reduceSub, Nat.reduceLeDiff, Nat.reduceLT, Nat.reduceEqDiff, reduceIte, ↓reduceIte, Nat.reduceBEq, h0, h3, h5]
          refine ret_drop ⟨_, rfl⟩ rfl ⟨?_, rfl⟩
          rw [c1, c2] at hs; unfold inL; rw [hs]; rfl
    · simp only [dec_f (show ¬ (i : Int) < set.length by omega), XX, CC, Nat.reduceAdd, Nat.reduceSub, Nat.reduceLeDiff, Nat.reduceLT, Nat.reduceEqDiff, reduceIte, ↓reduceIte, Nat.reduceBEq]
      refine ret_drop ⟨_, rfl⟩ rfl ⟨?_, rfl⟩
      rw [hs, List.drop_of_length_le (by omega)]; rfl
end Go.Ev
