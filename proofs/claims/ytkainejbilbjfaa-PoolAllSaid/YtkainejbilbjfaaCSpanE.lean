import Derived.Test.YtkainejbilbjfaaCSpanD
/-! span.Put. -/
namespace Go.Ev
set_option linter.unusedVariables false
set_option linter.unusedSimpArgs false
open Go.Ev.Sp

theorem Own.cell {α : Type} {n e : Nat} {enc : α → List AV} {t : St} {v : AV} {l : List α} (h : Own n e enc t v l) : v.cell = true := by
  rcases h with ⟨rfl, _⟩ | ⟨_, _, _, _, _, rfl, _⟩ <;> rfl
/-- Two slices over different blocks. -/
def Apt (v w : AV) : Prop := ∀ i o e k c o' e' k' c', v = .sl i o e k c → w ≠ .sl i o' e' k' c'
theorem Apt.symm {v w : AV} (h : Apt v w) : Apt w v := fun i o e k c o' e' k' c' hw hv => h i o' e' k' c' o e k c hv hw

/-- A write into a block that was there before. -/
theorem st_in {t : St} {b n o : Nat} {cs vs : List AV} (h : t[b]? = some (.cells true cs)) (hv : vs.length = n) (hc : vs.all AV.cell = true) (ho : o + n ≤ cs.length) (l : St) :
    stA (t ++ l) (some n) (.ptr b o) (.agg vs) = some (t.set b (.cells true (setL cs o vs)) ++ l) := by
  have hb := (List.getElem?_eq_some_iff.1 h).1
  rw [st_agg hv, wr_own (by rw [List.getElem?_append_left hb]; exact h), if_pos ⟨by omega, hc⟩, List.set_append_left _ _ hb]
theorem st_in0 {t : St} {b n o : Nat} {cs vs : List AV} (h : t[b]? = some (.cells true cs)) (hv : vs.length = n) (hc : vs.all AV.cell = true) (ho : o + n ≤ cs.length) :
    stA t (some n) (.ptr b o) (.agg vs) = some (t.set b (.cells true (setL cs o vs))) := by
  have := st_in h hv hc ho []
  simpa using this

/-- Two slices of one's own, and an append to the first. -/
theorem app2 {s t : St} {b : Blk} {v w : AV} {l m : List (Nat × Nat)} (x : Nat × Nat) (r : St) (ho : Own (s.length + 1) 4 cR t v l) (ho' : Own (s.length + 1) 4 cR t w m) (ha : Apt v w) (hx : Ext s t) (hb : t[s.length]? = some b) (hl : l.length < 1000000000000) :
    ∃ v' t', appA (t ++ (r ++ [.cells true (cR x)])) 4 32 v (.sl (t.length + r.length) 0 4 1 (some 1)) = some (v', t') ∧ Own (s.length + 1) 4 cR t' v' (l ++ [x]) ∧ Own (s.length + 1) 4 cR t' w m ∧ Apt v' w ∧ Ext s t' ∧ t'[s.length]? = some b := by
  have hn : s.length + 1 ≤ t.length := (List.getElem?_eq_some_iff.1 hb).1
  obtain ⟨v', t', e1, e2, e3, e4, e5, e6, e7⟩ := app_R x r ho hn hx (by omega) hl
  refine ⟨v', t', e1, e2, ?_, ?_, e3, ?_⟩
  · rcases ho' with h | ⟨b2, c, cs, h1, h2, rfl, h3, h4⟩
    · exact .inl h
    · exact .inr ⟨b2, c, cs, h1, h2, rfl, e6 _ _ (fun o e k c hv => ha _ _ _ _ _ _ _ _ _ hv rfl) h3, h4⟩
  · intro i o e k c o' e' k' c' hv hw
    rcases e7 _ _ _ _ _ hv with h | h
    · exact ha _ _ _ _ _ _ _ _ _ h hw
    · rcases ho' with ⟨rfl, _⟩ | ⟨b2, c, cs, h1, h2, rfl, h3, h4⟩
      · simp at hw
      · simp at hw; obtain ⟨rfl, _⟩ := hw
        have := (List.getElem?_eq_some_iff.1 h3).1; omega
  · refine e6 _ _ (fun o e k c hv => ?_) hb
    subst hv
    rcases ho with ⟨h, _⟩ | ⟨b2, c, cs, h1, h2, h, h3, h4⟩
    · simp at h
    · simp at h; omega

theorem Own.set {α : Type} {n e : Nat} {enc : α → List AV} {t : St} {v : AV} {l : List α} (h : Own n e enc t v l) {b : Nat} (hb : b < n) (x : Blk) : Own n e enc (t.set b x) v l := by
  rcases h with h | ⟨b2, c, cs, h1, h2, rfl, h3, h4⟩
  · exact .inl h
  · exact .inr ⟨b2, c, cs, h1, h2, rfl, by rw [List.getElem?_set, if_neg (by omega)]; exact h3, h4⟩

set_option maxHeartbeats 4000000 in
/-- span.Put -/
theorem put_r (s : St) (v : AV) (set : List (Nat × Nat)) (a b : Nat) (hl : set.length < 100000000) (hw : Wf set) (ha : a < 340282366920938463463374607431768211456) (hb : b < 340282366920938463463374607431768211456) (hv : Rd 4 cR s v set) :
    Run T f_span_Put [v, aR (a, b)] s (Ans s (sndB 0 set && decide (a ≤ b)) (putL [] [] a b set)) := by
  refine run_body (F := r_span_Put) rfl (by simp [r_span_Put]) ?_
  simp only [r_span_Put, XX, CC, Nat.reduceAdd, Nat.reduceSub, Nat.reduceLeDiff, Nat.reduceLT, Nat.reduceEqDiff, reduceIte, ↓reduceIte, Nat.reduceBEq, hv.len]
  refine (sound_r _ v set (by omega) hw (hv.ext ⟨_, rfl⟩)).use ?_
  cases hs : sndB 0 set
  · simp only [XX, CC, Nat.reduceAdd, Nat.reduceSub, Nat.reduceLeDiff, Nat.reduceLT, Nat.reduceEqDiff, reduceIte, ↓reduceIte, Nat.reduceBEq, Bool.not_false]
    exact ret_drop ⟨_, rfl⟩ rfl ans_no
  simp only [XX, CC, Nat.reduceAdd, Nat.reduceSub, Nat.reduceLeDiff, Nat.reduceLT, Nat.reduceEqDiff, reduceIte, ↓reduceIte, Nat.reduceBEq, Bool.not_true]
  refine (isRange_r _ (a, b)).use ?_
  cases hr : decide (a ≤ b)
  · simp only [XX, CC, Nat.reduceAdd, Nat.reduceSub, Nat.reduceLeDiff, Nat.reduceLT, Nat.reduceEqDiff, reduceIte, ↓reduceIte, Nat.reduceBEq, Bool.not_false]
    exact ret_drop ⟨_, rfl⟩ rfl ans_no
  simp only [XX, CC, Nat.reduceAdd, Nat.reduceSub, Nat.reduceLeDiff, Nat.reduceLT, Nat.reduceEqDiff, reduceIte, ↓reduceIte, Nat.reduceBEq, Bool.not_true, hv.len]
  refine awp_loop (fun d e t => Ext s t ∧ ∃ (i : Nat) (v6 v7 : AV) (ah be : List (Nat × Nat)) (a' b' : Nat), i + d = set.length ∧ e.get 3 = .ptr s.length 0 ∧ e.get 6 = v6 ∧ e.get 7 = v7 ∧ e.get 18 = v ∧ e.get 19 = .int .i64 set.length ∧ e.get 20 = .int .i64 i ∧
    t[s.length]? = some (.cells true (cR (a', b'))) ∧ Own (s.length + 1) 4 cR t v6 ah ∧ Own (s.length + 1) 4 cR t v7 be ∧ Apt v6 v7 ∧ ah.length ≤ i ∧ be.length ≤ i ∧ a' < 340282366920938463463374607431768211456 ∧ b' < 340282366920938463463374607431768211456 ∧ putL [] [] a b set = putL ah be a' b' (set.drop i)) set.length ?_ ?_
  · refine ⟨⟨_, rfl⟩, 0, .nils, .nils, [], [], a, b, by omega, ?_, ?_, ?_, ?_, ?_, ?_, get_last, .nil, .nil, by intro; simp, by simp, by simp, ha, hb, rfl⟩ <;> (try simp only [XX, CC, Nat.reduceAdd, Nat.reduceSub, Nat.reduceLeDiff, Nat.reduceLT, Nat.reduceEqDiff, reduceIte, ↓reduceIte, Nat.reduceBEq, hv.len]) <;> rfl
  rintro d e t ⟨hx, i, v6, v7, ah, be, a', b', hi, g3, g6, g7, g18, g19, g20, hbx, ho6, ho7, hap, hl6, hl7, ha', hb', hd0⟩
  have hv := hv.ext hx
  have hbox := blkR hbx
  have htl : s.length + 1 ≤ t.length := (List.getElem?_eq_some_iff.1 hbx).1
  simp only [XX, CC, Nat.reduceAdd, Nat.reduceSub, Nat.reduceLeDiff, Nat.reduceLT, Nat.reduceEqDiff, reduceIte, ↓reduceIte, Nat.reduceBEq, g3, g6, g7, g18, g19, g20]
  by_cases h : i < set.length
  · obtain ⟨q, hq, hd⟩ := drop_get h
    obtain ⟨b2, o2, h1, h2⟩ := rdR hv hq
    have hqw := hw.get hq
    rw [hd] at hd0
    simp only [putL] at hd0
    simp only [dec_t (show (i : Int) < set.length by omega), XX, CC, Nat.reduceAdd, Nat.reduceSub, Nat.reduceLeDiff, Nat.reduceLT, Nat.reduceEqDiff, reduceIte, ↓reduceIte, Nat.reduceBEq, g3, g6, g7, g18, g19, g20, h1, h2, hbox]
    refine (apart_r _ q (a', b') hqw.2 ha').use ?_
    cases c1 : decide (q.2 + 1 < a')
    · simp only [XX, CC, Nat.reduceAdd, Nat.reduceSub, Nat.reduceLeDiff, Nat.reduceLT, Nat.reduceEqDiff, reduceIte, ↓reduceIte, Nat.reduceBEq, g3, g6, g7, g18, g19, g20, hbox]
      simp at c1
      refine (apart_r _ (a', b') q hb' hqw.1).use ?_
      cases c2 : decide (b' + 1 < q.1)
      · simp only [XX, CC, Nat.reduceAdd, Nat.reduceSub, Nat.reduceLeDiff, Nat.reduceLT, Nat.reduceEqDiff, reduceIte, ↓reduceIte, Nat.reduceBEq, g3, g6, g7, g18, g19, g20, hbox]
        simp at c2
        rw [if_neg (by omega), if_neg (by omega)] at hd0
        refine (below_r _ q.1 a').use ?_
        have key : ∀ x y : Nat, (t.set s.length (.cells true (cR (x, y))))[s.length]? = some (.cells true (cR (x, y))) := fun x y => by rw [List.getElem?_set_self (by omega)]
        have hxk : ∀ x, Ext s (t.set s.length x) := fun x => hx.set (Nat.le_refl _) x
        cases c3 : decide (q.1 < a')
        · simp only [XX, CC, Nat.reduceAdd, Nat.reduceSub, Nat.reduceLeDiff, Nat.reduceLT, Nat.reduceEqDiff, reduceIte, ↓reduceIte, Nat.reduceBEq, g3, g6, g7, g18, g19, g20, hbox]
          simp at c3
          rw [if_neg (show ¬ q.1 < a' by omega)] at hd0
          refine (below_r _ b' q.2).use ?_
          cases c4 : decide (b' < q.2)
          · simp only [XX, CC, Nat.reduceAdd, Nat.reduceSub, Nat.reduceLeDiff, Nat.reduceLT, Nat.reduceEqDiff, reduceIte, ↓reduceIte, Nat.reduceBEq, g3, g6, g7, g18, g19, g20, hbox]
            simp at c4
            rw [if_neg (show ¬ b' < q.2 by omega)] at hd0
            refine loop_again ⟨d - 1, by omega, hx.app _, i + 1, v6, v7, ah, be, a', b', by omega, ?_, ?_, ?_, ?_, ?_, ?_, by rw [List.getElem?_append_left (by omega)]; exact hbx, ho6.app _, ho7.app _, hap, by omega, by omega, ha', hb', hd0⟩ <;> (try simp only [XX, CC, Nat.reduceAdd, Nat.reduceSub, Nat.reduceLeDiff, Nat.reduceLT, Nat.reduceEqDiff, reduceIte, ↓reduceIte, Nat.reduceBEq, g3, g6, g7, g18, g19, g20])
            rw [w64_nat (by omega)]
          · simp only [XX, CC, Nat.reduceAdd, Nat.reduceSub, Nat.reduceLeDiff, Nat.reduceLT, Nat.reduceEqDiff, reduceIte, ↓reduceIte, Nat.reduceBEq, g3, g6, g7, g18, g19, g20, hbox, st_in hbx]
            simp at c4
            rw [if_pos c4] at hd0
            refine loop_again ⟨d - 1, by omega, (hxk _).app _, i + 1, v6, v7, ah, be, a', q.2, by omega, ?_, ?_, ?_, ?_, ?_, ?_, by rw [List.getElem?_append_left (by simp; omega)]; exact key _ _, (ho6.set (by omega) _).app _, (ho7.set (by omega) _).app _, hap, by omega, by omega, ha', hqw.2, hd0⟩ <;> (try simp only [XX, CC, Nat.reduceAdd, Nat.reduceSub, Nat.reduceLeDiff, Nat.reduceLT, Nat.reduceEqDiff, reduceIte, ↓reduceIte, Nat.reduceBEq, g3, g6, g7, g18, g19, g20])
            rw [w64_nat (by omega)]
        · simp only [XX, CC, Nat.reduceAdd, Nat.reduceSub, Nat.reduceLeDiff, Nat.reduceLT, Nat.reduceEqDiff, reduceIte, ↓reduceIte, Nat.reduceBEq, g3, g6, g7, g18, g19, g20, hbox, st_in hbx]
          simp at c3
          rw [if_pos c3] at hd0
          have hq2 : ∀ l : St, ldA (t.set s.length (.cells true (cR (q.1, b'))) ++ (.cells true (cR q) :: l)) (some 2) (.ptr t.length 2) = some (aA q.2) := fun l => by rw [ld_own (own := true) (cs := cR q) (by rw [List.getElem?_append_right (by simp)]; simp)]; rfl
          have hbox1 := blkR (key q.1 b')
          simp only [XX, CC, Nat.reduceAdd, Nat.reduceSub, Nat.reduceLeDiff, Nat.reduceLT, Nat.reduceEqDiff, reduceIte, ↓reduceIte, Nat.reduceBEq, g3, g6, g7, g18, g19, g20, hbox1, hq2]
          refine (below_r _ b' q.2).use ?_
          cases c4 : decide (b' < q.2)
          · simp only [XX, CC, Nat.reduceAdd, Nat.reduceSub, Nat.reduceLeDiff, Nat.reduceLT, Nat.reduceEqDiff, reduceIte, ↓reduceIte, Nat.reduceBEq, g3, g6, g7, g18, g19, g20, hbox]
            simp at c4
            rw [if_neg (show ¬ b' < q.2 by omega)] at hd0
            refine loop_again ⟨d - 1, by omega, (hxk _).app _, i + 1, v6, v7, ah, be, q.1, b', by omega, ?_, ?_, ?_, ?_, ?_, ?_, by rw [List.getElem?_append_left (by simp; omega)]; exact key _ _, (ho6.set (by omega) _).app _, (ho7.set (by omega) _).app _, hap, by omega, by omega, hqw.1, hb', hd0⟩ <;> (try simp only [XX, CC, Nat.reduceAdd, Nat.reduceSub, Nat.reduceLeDiff, Nat.reduceLT, Nat.reduceEqDiff, reduceIte, ↓reduceIte, Nat.reduceBEq, g3, g6, g7, g18, g19, g20])
            rw [w64_nat (by omega)]
          · simp only [XX, CC, Nat.reduceAdd, Nat.reduceSub, Nat.reduceLeDiff, Nat.reduceLT, Nat.reduceEqDiff, reduceIte, ↓reduceIte, Nat.reduceBEq, g3, g6, g7, g18, g19, g20, hbox1, hq2, st_in (key q.1 b'), List.set_set]
            simp at c4
            rw [if_pos c4] at hd0
            refine loop_again ⟨d - 1, by omega, (hxk _).app _, i + 1, v6, v7, ah, be, q.1, q.2, by omega, ?_, ?_, ?_, ?_, ?_, ?_, by rw [List.getElem?_append_left (by simp; omega)]; exact key _ _, (ho6.set (by omega) _).app _, (ho7.set (by omega) _).app _, hap, by omega, by omega, hqw.1, hqw.2, hd0⟩ <;> (try simp only [XX, CC, Nat.reduceAdd, Nat.reduceSub, Nat.reduceLeDiff, Nat.reduceLT, Nat.reduceEqDiff, reduceIte, ↓reduceIte, Nat.reduceBEq, g3, g6, g7, g18, g19, g20])
            rw [w64_nat (by omega)]
      · simp at c2
        rw [if_neg (by omega), if_pos c2] at hd0
        obtain ⟨v', t', e1, e2, e3, e4, e5, e6⟩ := app2 q [.cells true (cR q)] ho7 ho6 hap.symm hx hbx (by omega)
        simp only [XX, CC, Nat.reduceAdd, Nat.reduceSub, Nat.reduceLeDiff, Nat.reduceLT, Nat.reduceEqDiff, reduceIte, ↓reduceIte, Nat.reduceBEq] at e1
        simp only [XX, CC, Nat.reduceAdd, Nat.reduceSub, Nat.reduceLeDiff, Nat.reduceLT, Nat.reduceEqDiff, reduceIte, ↓reduceIte, Nat.reduceBEq, g3, g6, g7, g18, g19, g20, hbox, e1]
        refine loop_again ⟨d - 1, by omega, e5, i + 1, v6, v', ah, be ++ [q], a', b', by omega, ?_, ?_, ?_, ?_, ?_, ?_, e6, e3, e2, e4.symm, by omega, by simp; omega, ha', hb', hd0⟩ <;> (try simp only [XX, CC, Nat.reduceAdd, Nat.reduceSub, Nat.reduceLeDiff, Nat.reduceLT, Nat.reduceEqDiff, reduceIte, ↓reduceIte, Nat.reduceBEq, g3, g6, g7, g18, g19, g20])
        rw [w64_nat (by omega)]
    · simp at c1
      rw [if_pos c1] at hd0
      obtain ⟨v', t', e1, e2, e3, e4, e5, e6⟩ := app2 q [.cells true (cR q)] ho6 ho7 hap hx hbx (by omega)
      simp only [XX, CC, Nat.reduceAdd, Nat.reduceSub, Nat.reduceLeDiff, Nat.reduceLT, Nat.reduceEqDiff, reduceIte, ↓reduceIte, Nat.reduceBEq] at e1
      simp only [XX, CC, Nat.reduceAdd, Nat.reduceSub, Nat.reduceLeDiff, Nat.reduceLT, Nat.reduceEqDiff, reduceIte, ↓reduceIte, Nat.reduceBEq, g3, g6, g7, g18, g19, g20, hbox, e1]
      refine loop_again ⟨d - 1, by omega, e5, i + 1, v', v7, ah ++ [q], be, a', b', by omega, ?_, ?_, ?_, ?_, ?_, ?_, e6, e2, e3, e4, by simp; omega, by omega, ha', hb', hd0⟩ <;> (try simp only [XX, CC, Nat.reduceAdd, Nat.reduceSub, Nat.reduceLeDiff, Nat.reduceLT, Nat.reduceEqDiff, reduceIte, ↓reduceIte, Nat.reduceBEq, g3, g6, g7, g18, g19, g20])
      rw [w64_nat (by omega)]
  · rw [List.drop_of_length_le (by omega)] at hd0
    simp only [putL] at hd0
    have f1 : ∀ cs : List AV, 0 < cs.length → ∀ r, fillA cs ((0, 1, v6) :: r) = fillA (cs.set 0 v6) r := fun cs h r => fill_one ho6.cell h
    have f2 : ∀ cs : List AV, 2 < cs.length → ∀ r, fillA cs ((2, 1, v7) :: r) = fillA (cs.set 2 v7) r := fun cs h r => fill_one ho7.cell h
    simp only [dec_f (show ¬ (i : Int) < set.length by omega), XX, CC, Nat.reduceAdd, Nat.reduceSub, Nat.reduceLeDiff, Nat.reduceLT, Nat.reduceEqDiff, reduceIte, ↓reduceIte, Nat.reduceBEq, g3, g6, g7, hbox, f1, f2]
    refine Run.mono _ _ _ _ _ ?_ (concat_r _ _ [(v6, ah), (.sl t.length 0 4 1 (some 1), [(a', b')]), (v7, be)] (by simp) (by simp; omega) (rd_lit (by simp) (fun _ => rfl) rfl) ?_)
    · intro r s' ho
      have hlt := hx.len
      refine ret_own (ho.own.mono (m := s.length) (by simp; omega)) (Nat.le_refl _) ((hx.app _).trans ho.ext) cR_un rfl fun v' s'' h => ⟨v', rfl, ?_⟩
      rw [hd0]; simpa using h
    · intro p hp
      simp at hp
      rcases hp with rfl | rfl | rfl
      · exact (ho6.app _).rd cR_len
      · exact rd_lit (by simp) cR_len rfl
      · exact (ho7.app _).rd cR_len
end Go.Ev
