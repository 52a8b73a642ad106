import Derived.Test.YtkainejbilbjfaaZPoolOwns4
import Derived.Laws.BitsLemmas
import Derived.Test.YtkainejbilbjfaaZPoolOwns2
/-! span.Put. -/
namespace Go.Ev
set_option linter.unusedVariables false
set_option linter.unusedSimpArgs false
open Go.Ev.Sp

theorem Own.cell {α : Type} {n e : Nat} {enc : α → List AV} {t : St} {v : AV} {l : List α} (h : Own n e enc t v l) : v.cell = true := by
  rcases h with ⟨rfl, _⟩ | ⟨_, _, _, _, _, rfl, _⟩ <;> rfl
/-- Two slices over different blocks. -/
def Apt (v w : AV) : Prop := ∀ i o e k c o' e' k' c', v = .sl i o e k c → w ≠ .sl i o' e' k' c'
theorem Apt.symm {v w : AV} (h : Apt v w) : Apt w v := fun i o e k c o' e' k' c' hw hv => h i o' e' k' c' o e k c hv hw

/-- A write into a block that was there before. -/
theorem st_in {t : St} {b n o : Nat} {cs vs : List AV} (h : t[b]? = some (.cells true cs)) (hv : vs.length = n) (hc : vs.all AV.cell = true) (ho : o + n ≤ cs.length) (l : St) :
    stA (t ++ l) (some n) (.ptr b o) (.agg vs) = some (t.set b (.cells true (setL cs o vs)) ++ l) := by
  have hb := (List.getElem?_eq_some_iff.1 h).1
  rw [st_agg hv, wr_own (by rw [List.getElem?_append_left hb]; exact h), if_pos ⟨by omega, hc⟩, List.set_append_left _ _ hb]
theorem st_in0 {t : St} {b n o : Nat} {cs vs : List AV} (h : t[b]? = some (.cells true cs)) (hv : vs.length = n) (hc : vs.all AV.cell = true) (ho : o + n ≤ cs.length) :
    stA t (some n) (.ptr b o) (.agg vs) = some (t.set b (.cells true (setL cs o vs))) := by
  have := st_in h hv hc ho []
  simpa using this

/-- Two slices of one's own, and an append to the first. -/
theorem app2 {s t : St} {b : Blk} {v w : AV} {l m : List (Nat × Nat)} (x : Nat × Nat) (r : St) (ho : Own (s.length + 1) 4 cR t v l) (ho' : Own (s.length + 1) 4 cR t w m) (ha : Apt v w) (hx : Ext s t) (hb : t[s.length]? = some b) (hl : l.length < 1000000000000) :
    ∃ v' t', appA (t ++ (r ++ [.cells true (cR x)])) 4 32 v (.sl (t.length + r.length) 0 4 1 (some 1)) = some (v', t') ∧ Own (s.length + 1) 4 cR t' v' (l ++ [x]) ∧ Own (s.length + 1) 4 cR t' w m ∧ Apt v' w ∧ Ext s t' ∧ t'[s.length]? = some b := by
  have hn : s.length + 1 ≤ t.length := (List.getElem?_eq_some_iff.1 hb).1
  obtain ⟨v', t', e1, e2, e3, e4, e5, e6, e7⟩ := app_R x r ho hn hx (by omega) hl
  refine ⟨v', t', e1, e2, ?_, ?_, e3, ?_⟩
  · rcases ho' with h | ⟨b2, c, cs, h1, h2, rfl, h3, h4⟩
    · exact .inl h
    · exact .inr ⟨b2, c, cs, h1, h2, rfl, e6 _ _ (fun o e k c hv => ha _ _ _ _ _ _ _ _ _ hv rfl) h3, h4⟩
  · intro i o e k c o' e' k' c' hv hw
    rcases e7 _ _ _ _ _ hv with h | h
    · exact ha _ _ _ _ _ _ _ _ _ h hw
    · rcases ho' with ⟨rfl, _⟩ | ⟨b2, c, cs, h1, h2, rfl, h3, h4⟩
      · simp at hw
      · simp at hw; obtain ⟨rfl, _⟩ := hw
        have := (List.getElem?_eq_some_iff.1 h3).1; omega
  · refine e6 _ _ (fun o e k c hv => ?_) hb
    subst hv
    rcases ho with ⟨h, _⟩ | ⟨b2, c, cs, h1, h2, h, h3, h4⟩
    · simp at h
    · simp at h; omega

theorem Own.set {α : Type} {n e : Nat} {enc : α → List AV} {t : St} {v : AV} {l : List α} (h : Own n e enc t v l) {b : Nat} (hb : b < n) (x : Blk) : Own n e enc (t.set b x) v l := by
  rcases h with h | ⟨b2, c, cs, h1, h2, rfl, h3, h4⟩
  · exact .inl h
  · exact .inr ⟨b2, c, cs, h1, h2, rfl, by rw [List.getElem?_set, if_neg (by omega)]; exact h3, h4⟩

set_option maxHeartbeats 4000000 in
/-- span.Put -/
theorem put_r (s : St) (v : AV) (set : List (Nat × Nat)) (a b : Nat) (hl : set.length < 100000000) (hw : Wf set) (ha : a < 340282366920938463463374607431768211456) (hb : b < 340282366920938463463374607431768211456) (hv : Rd 4 cR s v set) :
    Run T f_span_Put [v, aR (a, b)] s (Ans s (sndB 0 set && decide (a ≤ b)) (putL [] [] a b set)) := by
  refine run_body (F := r_span_Put) rfl (by simp [r_span_Put]) ?_
  simp only [r_span_Put, XX, CC, Nat.reduceAdd, Nat.reduceSub, Nat.reduceLeDiff, Nat.reduceLT, Nat.reduceEqDiff, reduceIte, ↓reduceIte, Nat.reduceBEq, hv.len]
  refine (sound_r _ v set (by omega) hw (hv.ext ⟨_, rfl⟩)).use ?_
  cases hs : sndB 0 set
  · simp only [XX, CC, Nat.reduceAdd, Nat.reduceSub, Nat.reduceLeDiff, Nat.reduceLT, Nat.reduceEqDiff, reduceIte, ↓reduceIte, Nat.reduceBEq, Bool.not_false]
    exact ret_drop ⟨_, rfl⟩ rfl ans_no
  simp only [XX, CC, Nat.reduceAdd, Nat.reduceSub, Nat.reduceLeDiff, Nat.reduceLT, Nat.reduceEqDiff, reduceIte, ↓reduceIte, Nat.reduceBEq, Bool.not_true]
  refine (isRange_r _ (a, b)).use ?_
  cases hr : decide (a ≤ b)
  · simp only [XX, CC, Nat.reduceAdd, Nat.reduceSub, Nat.reduceLeDiff, Nat.reduceLT, Nat.reduceEqDiff, reduceIte, ↓reduceIte, Nat.reduceBEq, Bool.not_false]
    exact ret_drop ⟨_, rfl⟩ rfl ans_no
  simp only [XX, CC, Nat.reduceAdd, Nat.reduceSub, Nat.reduceLeDiff, Nat.reduceLT, Nat.reduceEqDiff, reduceIte, ↓reduceIte, Nat.reduceBEq, Bool.not_true, hv.len]
  refine awp_loop (fun d e t => Ext s t ∧ ∃ (i : Nat) (v6 v7 : AV) (ah be : List (Nat × Nat)) (a' b' : Nat), i + d = set.length ∧ e.get 3 = .ptr s.length 0 ∧ e.get 6 = v6 ∧ e.get 7 = v7 ∧ e.get 18 = v ∧ e.get 19 = .int .i64 set.length ∧ e.get 20 = .int .i64 i ∧
    t[s.length]? = some (.cells true (cR (a', b'))) ∧ Own (s.length + 1) 4 cR t v6 ah ∧ Own (s.length + 1) 4 cR t v7 be ∧ Apt v6 v7 ∧ ah.length ≤ i ∧ be.length ≤ i ∧ a' < 340282366920938463463374607431768211456 ∧ b' < 340282366920938463463374607431768211456 ∧ putL [] [] a b set = putL ah be a' b' (set.drop i)) set.length ?_ ?_
  · refine ⟨⟨_, rfl⟩, 0, .nils, .nils, [], [], a, b, by omega, ?_, ?_, ?_, ?_, ?_, ?_, get_last, .nil, .nil, by intro; simp, by simp, by simp, ha, hb, rfl⟩ <;> (try simp only [XX, CC, Nat.reduceAdd, Nat.reduceSub, Nat.reduceLeDiff, Nat.reduceLT, Nat.reduceEqDiff, reduceIte, ↓reduceIte, Nat.reduceBEq, hv.len]) <;> rfl
  rintro d e t ⟨hx, i, v6, v7, ah, be, a', b', hi, g3, g6, g7, g18, g19, g20, hbx, ho6, ho7, hap, hl6, hl7, ha', hb', hd0⟩
  have hv := hv.ext hx
  have hbox := blkR hbx
  have htl : s.length + 1 ≤ t.length := (List.getElem?_eq_some_iff.1 hbx).1
  simp only [XX, CC, Nat.reduceAdd, Nat.reduceSub, Nat.reduceLeDiff, Nat.reduceLT, Nat.reduceEqDiff, reduceIte, ↓reduceIte, Nat.reduceBEq, g3, g6, g7, g18, g19, g20]
  by_cases h : i < set.length
  · obtain ⟨q, hq, hd⟩ := drop_get h
    obtain ⟨b2, o2, h1, h2⟩ := rdR hv hq
    have hqw := hw.get hq
    rw [hd] at hd0
    simp only [putL] at hd0
    simp only [dec_t (show (i : Int) < set.length by omega), XX, CC, Nat.reduceAdd, Nat.reduceSub, Nat.reduceLeDiff, Nat.reduceLT, Nat.reduceEqDiff, reduceIte, ↓reduceIte, Nat.reduceBEq, g3, g6, g7, g18, g19, g20, h1, h2, hbox]
    refine (apart_r _ q (a', b') hqw.2 ha').use ?_
    cases c1 : decide (q.2 + 1 < a')
    · simp only [XX, CC, Nat.reduceAdd, Nat.reduceSub, Nat.reduceLeDiff, Nat.reduceLT, Nat.reduceEqDiff, reduceIte, ↓reduceIte, Nat.reduceBEq, g3, g6, g7, g18, g19, g20, hbox]
      simp at c1
      refine (apart_r _ (a', b') q hb' hqw.1).use ?_
      cases c2 : decide (b' + 1 < q.1)
      · simp only [XX, CC, Nat.reduceAdd, Nat.reduceSub, Nat.reduceLeDiff, Nat.reduceLT, Nat.reduceEqDiff, reduceIte, ↓reduceIte, Nat.reduceBEq, g3, g6, g7, g18, g19, g20, hbox]
        simp at c2
        rw [if_neg (by omega), if_neg (by omega)] at hd0
        refine (below_r _ q.1 a').use ?_
        have key : ∀ x y : Nat, (t.set s.length (.cells true (cR (x, y))))[s.length]? = some (.cells true (cR (x, y))) := fun x y => by rw [List.getElem?_set_self (by omega)]
        have hxk : ∀ x, Ext s (t.set s.length x) := fun x => hx.set (Nat.le_refl _) x
        cases c3 : decide (q.1 < a')
        · simp only [XX, CC, Nat.reduceAdd, Nat.reduceSub, Nat.reduceLeDiff, Nat.reduceLT, Nat.reduceEqDiff, reduceIte, ↓reduceIte, Nat.reduceBEq, g3, g6, g7, g18, g19, g20, hbox]
          simp at c3
          rw [if_neg (show ¬ q.1 < a' by omega)] at hd0
          refine (below_r _ b' q.2).use ?_
          cases c4 : decide (b' < q.2)
          · simp only [XX, CC, Nat.reduceAdd, Nat.reduceSub, Nat.reduceLeDiff, Nat.reduceLT, Nat.reduceEqDiff, reduceIte, ↓reduceIte, Nat.reduceBEq, g3, g6, g7, g18, g19, g20, hbox]
            simp at c4
            rw [if_neg (show ¬ b' < q.2 by omega)] at hd0
            refine loop_again ⟨d - 1, by omega, hx.app _, i + 1, v6, v7, ah, be, a', b', by omega, ?_, ?_, ?_, ?_, ?_, ?_, by rw [List.getElem?_append_left (by omega)]; exact hbx, ho6.app _, ho7.app _, hap, by omega, by omega, ha', hb', hd0⟩ <;> (try simp only [XX, CC, Nat.reduceAdd, Nat.reduceSub, Nat.reduceLeDiff, Nat.reduceLT, Nat.reduceEqDiff, reduceIte, ↓reduceIte, Nat.reduceBEq, g3, g6, g7, g18, g19, g20])
            rw [w64_nat (by omega)]
          · simp only [XX, CC, Nat.reduceAdd, Nat.reduceSub, Nat.reduceLeDiff, Nat.reduceLT, Nat.reduceEqDiff, reduceIte, ↓reduceIte, Nat.reduceBEq, g3, g6, g7, g18, g19, g20, hbox, st_in hbx]
            simp at c4
            rw [if_pos c4] at hd0
            refine loop_again ⟨d - 1, by omega, (hxk _).app _, i + 1, v6, v7, ah, be, a', q.2, by omega, ?_, ?_, ?_, ?_, ?_, ?_, by rw [List.getElem?_append_left (by simp; omega)]; exact key _ _, (ho6.set (by omega) _).app _, (ho7.set (by omega) _).app _, hap, by omega, by omega, ha', hqw.2, hd0⟩ <;> (try simp only [XX, CC, Nat.reduceAdd, Nat.reduceSub, Nat.reduceLeDiff, Nat.reduceLT, Nat.reduceEqDiff, reduceIte, ↓reduceIte, Nat.reduceBEq, g3, g6, g7, g18, g19, g20])
            rw [w64_nat (by omega)]
        · simp only [XX, CC, Nat.reduceAdd, Nat.reduceSub, Nat.reduceLeDiff, Nat.reduceLT, Nat.reduceEqDiff, reduceIte, ↓reduceIte, Nat.reduceBEq, g3, g6, g7, g18, g19, g20, hbox, st_in hbx]
          simp at c3
          rw [if_pos c3] at hd0
          have hq2 : ∀ l : St, ldA (t.set s.length (.cells true (cR (q.1, b'))) ++ (.cells true (cR q) :: l)) (some 2) (.ptr t.length 2) = some (aA q.2) := fun l => by rw [ld_own (own := true) (cs := cR q) (by rw [List.getElem?_append_right (by simp)]; simp)]; rfl
          have hbox1 := blkR (key q.1 b')
          simp only [XX, CC, Nat.reduceAdd, Nat.reduceSub, Nat.reduceLeDiff, Nat.reduceLT, Nat.reduceEqDiff, reduceIte, ↓reduceIte, Nat.reduceBEq, g3, g6, g7, g18, g19, g20, hbox1, hq2]
          refine (below_r _ b' q.2).use ?_
          cases c4 : decide (b' < q.2)
          · simp only [XX, CC, Nat.reduceAdd, Nat.reduceSub, Nat.reduceLeDiff, Nat.reduceLT, Nat.reduceEqDiff, reduceIte, ↓reduceIte, Nat.reduceBEq, g3, g6, g7, g18, g19, g20, hbox]
            simp at c4
            rw [if_neg (show ¬ b' < q.2 by omega)] at hd0
            refine loop_again ⟨d - 1, by omega, (hxk _).app _, i + 1, v6, v7, ah, be, q.1, b', by omega, ?_, ?_, ?_, ?_, ?_, ?_, by rw [List.getElem?_append_left (by simp; omega)]; exact key _ _, (ho6.set (by omega) _).app _, (ho7.set (by omega) _).app _, hap, by omega, by omega, hqw.1, hb', hd0⟩ <;> (try simp only [XX, CC, Nat.reduceAdd, Nat.reduceSub, Nat.reduceLeDiff, Nat.reduceLT, Nat.reduceEqDiff, reduceIte, ↓reduceIte, Nat.reduceBEq, g3, g6, g7, g18, g19, g20])
            rw [w64_nat (by omega)]
          · simp only [XX, CC, Nat.reduceAdd, Nat.reduceSub, Nat.reduceLeDiff, Nat.reduceLT, Nat.reduceEqDiff, reduceIte, ↓reduceIte, Nat.reduceBEq, g3, g6, g7, g18, g19, g20, hbox1, hq2, st_in (key q.1 b'), List.set_set]
            simp at c4
            rw [if_pos c4] at hd0
            refine loop_again ⟨d - 1, by omega, (hxk _).app _, i + 1, v6, v7, ah, be, q.1, q.2, by omega, ?_, ?_, ?_, ?_, ?_, ?_, by rw [List.getElem?_append_left (by simp; omega)]; exact key _ _, (ho6.set (by omega) _).app _, (ho7.set (by omega) _).app _, hap, by omega, by omega, hqw.1, hqw.2, hd0⟩ <;> (try simp only [XX, CC, Nat.reduceAdd, Nat.reduceSub, Nat.reduceLeDiff, Nat.reduceLT, Nat.reduceEqDiff, reduceIte, ↓reduceIte, Nat.reduceBEq, g3, g6, g7, g18, g19, g20])
            rw [w64_nat (by omega)]
      · simp at c2
        rw [if_neg (by omega), if_pos c2] at hd0
        obtain ⟨v', t', e1, e2, e3, e4, e5, e6⟩ := app2 q [.cells true (cR q)] ho7 ho6 hap.symm hx hbx (by omega)
        simp only [XX, CC, Nat.reduceAdd, Nat.reduceSub, Nat.reduceLeDiff, Nat.reduceLT, Nat.reduceEqDiff, reduceIte, ↓reduceIte, Nat.reduceBEq] at e1
        simp only [XX, CC, Nat.reduceAdd, Nat.reduceSub, Nat.reduceLeDiff, Nat.reduceLT, Nat.reduceEqDiff, reduceIte, ↓reduceIte, Nat.reduceBEq, g3, g6, g7, g18, g19, g20, hbox, e1]
        refine loop_again ⟨d - 1, by omega, e5, i + 1, v6, v', ah, be ++ [q], a', b', by omega, ?_, ?_, ?_, ?_, ?_, ?_, e6, e3, e2, e4.symm, by omega, by simp; omega, ha', hb', hd0⟩ <;> (try simp only [XX, CC, Nat.reduceAdd, Nat.reduceSub, Nat.reduceLeDiff, Nat.reduceLT, Nat.reduceEqDiff, reduceIte, ↓reduceIte, Nat.reduceBEq, g3, g6, g7, g18, g19, g20])
        rw [w64_nat (by omega)]
    · simp at c1
      rw [if_pos c1] at hd0
      obtain ⟨v', t', e1, e2, e3, e4, e5, e6⟩ := app2 q [.cells true (cR q)] ho6 ho7 hap hx hbx (by omega)
      simp only [XX, CC, Nat.reduceAdd, Nat.reduceSub, Nat.reduceLeDiff, Nat.reduceLT, Nat.reduceEqDiff, reduceIte, ↓reduceIte, Nat.reduceBEq] at e1
      simp only [XX, CC, Nat.reduceAdd, Nat.reduceSub, Nat.reduceLeDiff, Nat.reduceLT, Nat.reduceEqDiff, reduceIte, ↓reduceIte, Nat.reduceBEq, g3, g6, g7, g18, g19, g20, hbox, e1]
      refine loop_again ⟨d - 1, by omega, e5, i + 1, v', v7, ah ++ [q], be, a', b', by omega, ?_, ?_, ?_, ?_, ?_, ?_, e6, e2, e3, e4, by simp; omega, by omega, ha', hb', hd0⟩ <;> (try simp only [XX, CC, Nat.reduceAdd, Nat.reduceSub, Nat.reduceLeDiff, Nat.reduceLT, Nat.reduceEqDiff, reduceIte, ↓reduceIte, Nat.reduceBEq, g3, g6, g7, g18, g19, g20])
      rw [w64_nat (by omega)]
  · rw [List.drop_of_length_le (by omega)] at hd0
    simp only [putL] at hd0
    have f1 : ∀ cs : List AV, 0 < cs.length → ∀ r, fillA cs ((0, 1, v6) :: r) = fillA (cs.set 0 v6) r := fun cs h r => fill_one ho6.cell h
    have f2 : ∀ cs : List AV, 2 < cs.length → ∀ r, fillA cs ((2, 1, v7) :: r) = fillA (cs.set 2 v7) r := fun cs h r => fill_one ho7.cell h
    simp only [dec_f (show ¬ (i : Int) < set.length by omega), XX, CC, Nat.reduceAdd, Nat.reduceSub, Nat.reduceLeDiff, Nat.reduceLT, Nat.reduceEqDiff, reduceIte, ↓reduceIte, Nat.reduceBEq, g3, g6, g7, hbox, f1, f2]
    refine Run.mono _ _ _ _ _ ?_ (concat_r _ _ [(v6, ah), (.sl t.length 0 4 1 (some 1), [(a', b')]), (v7, be)] (by simp) (by simp; omega) (rd_lit (by simp) (fun _ => rfl) rfl) ?_)
    · intro r s' ho
      have hlt := hx.len
      refine ret_own (ho.own.mono (m := s.length) (by simp; omega)) (Nat.le_refl _) ((hx.app _).trans ho.ext) cR_un rfl fun v' s'' h => ⟨v', rfl, ?_⟩
      rw [hd0]; simpa using h
    · intro p hp
      simp at hp
      rcases hp with rfl | rfl | rfl
      · exact (ho6.app _).rd cR_len
      · exact rd_lit (by simp) cR_len rfl
      · exact (ho7.app _).rd cR_len
end Go.Ev

/-! span.Count, span.Nth, span.Rank, span.Has. -/
namespace Go.Ev
set_option linter.unusedVariables false
set_option linter.unusedSimpArgs false
open Go.Ev.Sp

def cntV (set : List (Nat × Nat)) : AV := if sndB 0 set = true then .tup [aA (cnt set % 340282366920938463463374607431768211456), .bool (decide (0 < set.length ∧ cnt set % 340282366920938463463374607431768211456 = 0))] else .tup [aA 0, .bool false]
set_option maxHeartbeats 1000000 in
/-- span.Count -/
theorem count_r (s : St) (v : AV) (set : List (Nat × Nat)) (hl : set.length < 4611686018427387904) (hw : Wf set) (hv : Rd 4 cR s v set) : RunD T f_span_Count [v] s (cntV set) s := by
  refine run_body (F := r_span_Count) rfl (by simp [r_span_Count]) ?_
  simp only [r_span_Count, XX, CC, Nat.reduceAdd, Nat.reduceSub, Nat.reduceLeDiff, Nat.reduceLT, Nat.reduceEqDiff, reduceIte, ↓reduceIte, Nat.reduceBEq, hv.len]
  refine (sound_r _ v set (by omega) hw (hv.ext ⟨_, rfl⟩)).use ?_
  cases hs : sndB 0 set
  · simp only [XX, CC, Nat.reduceAdd, Nat.reduceSub, Nat.reduceLeDiff, Nat.reduceLT, Nat.reduceEqDiff, reduceIte, ↓reduceIte, Nat.reduceBEq, Bool.not_false]
    exact ret_drop ⟨_, rfl⟩ rfl ⟨by simp [cntV, hs]; rfl, rfl⟩
  simp only [XX, CC, Nat.reduceAdd, Nat.reduceSub, Nat.reduceLeDiff, Nat.reduceLT, Nat.reduceEqDiff, reduceIte, ↓reduceIte, Nat.reduceBEq, Bool.not_true, hv.len]
  have hsn := Snd.wf ((sndB_iff hw).1 hs)
  refine awp_loop (fun d e t => Ext s t ∧ ∃ (i n : Nat), i + d = set.length ∧ e.get 0 = v ∧ e.get 2 = .ptr s.length 0 ∧ e.get 4 = .ptr (s.length + 1) 0 ∧ e.get 13 = v ∧ e.get 14 = .int .i64 set.length ∧ e.get 15 = .int .i64 i ∧
    t[s.length]? = some (.cells true (cA 0)) ∧ t[s.length + 1]? = some (.cells true (cA n)) ∧ n < 340282366920938463463374607431768211456 ∧ cnt set % 340282366920938463463374607431768211456 = (n + cnt (set.drop i)) % 340282366920938463463374607431768211456) set.length ?_ ?_
  · refine ⟨⟨_, rfl⟩, 0, 0, by omega, ?_, ?_, ?_, ?_, ?_, ?_, by simp; rfl, by simp; rfl, by decide, by simp⟩ <;> (try simp only [XX, CC, Nat.reduceAdd, Nat.reduceSub, Nat.reduceLeDiff, Nat.reduceLT, Nat.reduceEqDiff, reduceIte, ↓reduceIte, Nat.reduceBEq, hv.len]) <;> rfl
  rintro d e t ⟨hx, i, n, hi, g0, g2, g4, g13, g14, g15, hb0, hb1, hn, hd0⟩
  have hv := hv.ext hx
  have hbn := blkA hb1
  have htl : s.length + 1 < t.length := (List.getElem?_eq_some_iff.1 hb1).1
  simp only [XX, CC, Nat.reduceAdd, Nat.reduceSub, Nat.reduceLeDiff, Nat.reduceLT, Nat.reduceEqDiff, reduceIte, ↓reduceIte, Nat.reduceBEq, g0, g2, g4, g13, g14, g15]
  by_cases h : i < set.length
  · obtain ⟨q, hq, hd⟩ := drop_get h
    obtain ⟨b2, o2, h1, h2⟩ := rdR hv hq
    have hqw := hsn q (List.mem_of_getElem? hq)
    rw [hd, cnt_cons] at hd0
    have hm1 : (q.2 + 340282366920938463463374607431768211456 - q.1) % 340282366920938463463374607431768211456 = q.2 - q.1 := by omega
    simp only [dec_t (show (i : Int) < set.length by omega), XX, CC, Nat.reduceAdd, Nat.reduceSub, Nat.reduceLeDiff, Nat.reduceLT, Nat.reduceEqDiff, reduceIte, ↓reduceIte, Nat.reduceBEq, g0, g2, g4, g13, g14, g15, h1, h2]
    refine (sub_r _ q.2 q.1 (by omega) (by omega)).use ?_
    simp only [XX, CC, Nat.reduceAdd, Nat.reduceSub, Nat.reduceLeDiff, Nat.reduceLT, Nat.reduceEqDiff, reduceIte, ↓reduceIte, Nat.reduceBEq, g0, g2, g4, g13, g14, g15, hm1, hbn]
    refine (add_r _ n (q.2 - q.1) hn (by omega)).use ?_
    have hn1 : (n + (q.2 - q.1)) % 340282366920938463463374607431768211456 < 340282366920938463463374607431768211456 := Nat.mod_lt _ (by decide)
    generalize hg1 : (n + (q.2 - q.1)) % 340282366920938463463374607431768211456 = n1 at hn1 ⊢
    have key := blkA (key_set (t := t) (x := .cells true (cA n1)) htl)
    simp only [XX, CC, Nat.reduceAdd, Nat.reduceSub, Nat.reduceLeDiff, Nat.reduceLT, Nat.reduceEqDiff, reduceIte, ↓reduceIte, Nat.reduceBEq, g0, g2, g4, g13, g14, g15, st_in hb1]
    refine drw_in [] rfl ?_
    simp only [DD, CC, Nat.reduceAdd, Nat.reduceSub, Nat.reduceLeDiff, Nat.reduceLT, Nat.reduceEqDiff, reduceIte, ↓reduceIte, Nat.reduceBEq, g0, g2, g4, g13, g14, g15, key]
    refine dr_call (one_r _) ?_
    simp only [DD, CC, Nat.reduceAdd, Nat.reduceSub, Nat.reduceLeDiff, Nat.reduceLT, Nat.reduceEqDiff, reduceIte, ↓reduceIte, Nat.reduceBEq, g0, g2, g4, g13, g14, g15, key]
    refine dr_call (add_r _ n1 1 hn1 (by decide)) ?_
    simp only [DD, CC, Nat.reduceAdd, Nat.reduceSub, Nat.reduceLeDiff, Nat.reduceLT, Nat.reduceEqDiff, reduceIte, ↓reduceIte, Nat.reduceBEq, g0, g2, g4, g13, g14, g15, st_in (key_set (t := t) (x := .cells true (cA n1)) htl), List.set_set]
    refine loop_again ⟨d - 1, by omega, (hx.set (by omega) _).app _, i + 1, (n1 + 1) % 340282366920938463463374607431768211456, by omega, ?_, ?_, ?_, ?_, ?_, ?_, ?_, ?_, Nat.mod_lt _ (by decide), ?_⟩ <;> (try simp only [XX, CC, Nat.reduceAdd, Nat.reduceSub, Nat.reduceLeDiff, Nat.reduceLT, Nat.reduceEqDiff, reduceIte, ↓reduceIte, Nat.reduceBEq, g0, g2, g4, g13, g14, g15])
    · rw [w64_nat (by omega)]
    · rw [List.getElem?_append_left (by simp; omega), List.getElem?_set, if_neg (by omega)]; exact hb0
    · rw [List.getElem?_append_left (by simp; omega)]; exact key_set htl
    · rw [hd0]; omega
  · rw [List.drop_of_length_le (by omega)] at hd0
    rw [show cnt [] = 0 from rfl, Nat.add_zero, Nat.mod_eq_of_lt hn] at hd0
    simp only [dec_f (show ¬ (i : Int) < set.length by omega), XX, CC, Nat.reduceAdd, Nat.reduceSub, Nat.reduceLeDiff, Nat.reduceLT, Nat.reduceEqDiff, reduceIte, ↓reduceIte, Nat.reduceBEq, g0, g2, g4]
    refine drw_in [] rfl ?_
    simp only [DD, CC, Nat.reduceAdd, Nat.reduceSub, Nat.reduceLeDiff, Nat.reduceLT, Nat.reduceEqDiff, reduceIte, ↓reduceIte, Nat.reduceBEq, g0, g2, g4, hbn, hv.len]
    by_cases hz : 0 < set.length
    · simp only [dec_t (show (set.length : Int) > 0 by omega), DD, CC, Nat.reduceAdd, Nat.reduceSub, Nat.reduceLeDiff, Nat.reduceLT, Nat.reduceEqDiff, reduceIte, ↓reduceIte, Nat.reduceBEq, g0, g2, g4, hbn, eq_A0]
      rw [List.append_nil]
      refine ⟨t.set s.length (.cells true (cA n)), by rw [wr_own hb0, if_pos ⟨Nat.le_refl _, cA_cell n⟩]; rfl, ?_, ?_⟩
      · intro j hj b hb
        simp at hj hb
        rw [List.getElem?_set, if_neg (by omega)]
      · simp only [blkA (key_set (t := t) (b := s.length) (x := .cells true (cA n)) (by omega)), XX, CC, Nat.reduceAdd, Nat.reduceSub, Nat.reduceLeDiff, Nat.reduceLT, Nat.reduceEqDiff, reduceIte, ↓reduceIte, Nat.reduceBEq]
        refine ret_drop (hx.set (Nat.le_refl _) _) rfl ⟨?_, rfl⟩
        simp [cntV, hs, hd0, hz]
    · simp only [dec_f (show ¬ (set.length : Int) > 0 by omega), DD, CC, Nat.reduceAdd, Nat.reduceSub, Nat.reduceLeDiff, Nat.reduceLT, Nat.reduceEqDiff, reduceIte, ↓reduceIte, Nat.reduceBEq, g0, g2, g4, hbn, eq_A0]
      rw [List.append_nil]
      refine ⟨t.set s.length (.cells true (cA n)), by rw [wr_own hb0, if_pos ⟨Nat.le_refl _, cA_cell n⟩]; rfl, ?_, ?_⟩
      · intro j hj b hb
        simp at hj hb
        rw [List.getElem?_set, if_neg (by omega)]
      · simp only [blkA (key_set (t := t) (b := s.length) (x := .cells true (cA n)) (by omega)), XX, CC, Nat.reduceAdd, Nat.reduceSub, Nat.reduceLeDiff, Nat.reduceLT, Nat.reduceEqDiff, reduceIte, ↓reduceIte, Nat.reduceBEq]
        refine ret_drop (hx.set (Nat.le_refl _) _) rfl ⟨?_, rfl⟩
        simp [cntV, hs, hd0, hz]

def nthV (set : List (Nat × Nat)) (n : Nat) : AV := if sndB 0 set = true then (match nthL set n with | some a => .tup [aA a, .bool true] | none => .tup [aA 0, .bool false]) else .tup [aA 0, .bool false]
set_option maxHeartbeats 1000000 in
/-- span.Nth -/
theorem nth_r (s : St) (v : AV) (set : List (Nat × Nat)) (n : Nat) (hn : n < 340282366920938463463374607431768211456) (hl : set.length < 4611686018427387904) (hw : Wf set) (hv : Rd 4 cR s v set) : RunD T f_span_Nth [v, aA n] s (nthV set n) s := by
  refine run_body (F := r_span_Nth) rfl (by simp [r_span_Nth]) ?_
  simp only [r_span_Nth, XX, CC, Nat.reduceAdd, Nat.reduceSub, Nat.reduceLeDiff, Nat.reduceLT, Nat.reduceEqDiff, reduceIte, ↓reduceIte, Nat.reduceBEq, hv.len]
  refine (sound_r _ v set (by omega) hw (hv.ext ⟨_, rfl⟩)).use ?_
  cases hs : sndB 0 set
  · simp only [XX, CC, Nat.reduceAdd, Nat.reduceSub, Nat.reduceLeDiff, Nat.reduceLT, Nat.reduceEqDiff, reduceIte, ↓reduceIte, Nat.reduceBEq, Bool.not_false]
    exact ret_drop ⟨_, rfl⟩ rfl ⟨by simp [nthV, hs]; rfl, rfl⟩
  simp only [XX, CC, Nat.reduceAdd, Nat.reduceSub, Nat.reduceLeDiff, Nat.reduceLT, Nat.reduceEqDiff, reduceIte, ↓reduceIte, Nat.reduceBEq, Bool.not_true, hv.len]
  have hsn := Snd.wf ((sndB_iff hw).1 hs)
  refine awp_loop (fun d e t => Ext s t ∧ ∃ (i n' : Nat), i + d = set.length ∧ e.get 3 = .ptr s.length 0 ∧ e.get 4 = .ptr (s.length + 1) 0 ∧ e.get 16 = v ∧ e.get 17 = .int .i64 set.length ∧ e.get 18 = .int .i64 i ∧
    t[s.length]? = some (.cells true (cA n')) ∧ t[s.length + 1]? = some (.cells true (cA 0)) ∧ n' < 340282366920938463463374607431768211456 ∧ nthL set n = nthL (set.drop i) n') set.length ?_ ?_
  · refine ⟨⟨_, rfl⟩, 0, n, by omega, ?_, ?_, ?_, ?_, ?_, by simp, by simp; rfl, hn, rfl⟩ <;> (try simp only [XX, CC, Nat.reduceAdd, Nat.reduceSub, Nat.reduceLeDiff, Nat.reduceLT, Nat.reduceEqDiff, reduceIte, ↓reduceIte, Nat.reduceBEq, hv.len]) <;> rfl
  rintro d e t ⟨hx, i, n', hi, g3, g4, g16, g17, g18, hb0, hb1, hn', hd0⟩
  have hv := hv.ext hx
  have hbn := blkA hb0
  have htl : s.length + 1 < t.length := (List.getElem?_eq_some_iff.1 hb1).1
  simp only [XX, CC, Nat.reduceAdd, Nat.reduceSub, Nat.reduceLeDiff, Nat.reduceLT, Nat.reduceEqDiff, reduceIte, ↓reduceIte, Nat.reduceBEq, g3, g4, g16, g17, g18]
  by_cases h : i < set.length
  · obtain ⟨q, hq, hd⟩ := drop_get h
    obtain ⟨b2, o2, h1, h2⟩ := rdR hv hq
    have hqw := hsn q (List.mem_of_getElem? hq)
    rw [hd] at hd0
    simp only [nthL] at hd0
    have hm1 : (q.2 + 340282366920938463463374607431768211456 - q.1) % 340282366920938463463374607431768211456 = q.2 - q.1 := by omega
    simp only [dec_t (show (i : Int) < set.length by omega), XX, CC, Nat.reduceAdd, Nat.reduceSub, Nat.reduceLeDiff, Nat.reduceLT, Nat.reduceEqDiff, reduceIte, ↓reduceIte, Nat.reduceBEq, g3, g4, g16, g17, g18, h1, h2]
    refine (sub_r _ q.2 q.1 (by omega) (by omega)).use ?_
    simp only [XX, CC, Nat.reduceAdd, Nat.reduceSub, Nat.reduceLeDiff, Nat.reduceLT, Nat.reduceEqDiff, reduceIte, ↓reduceIte, Nat.reduceBEq, g3, g4, g16, g17, g18, hm1, hbn]
    refine (below_r _ (q.2 - q.1) n').use ?_
    cases c : decide (q.2 - q.1 < n')
    · simp only [XX, CC, Nat.reduceAdd, Nat.reduceSub, Nat.reduceLeDiff, Nat.reduceLT, Nat.reduceEqDiff, reduceIte, ↓reduceIte, Nat.reduceBEq, g3, g4, g16, g17, g18, hbn, Bool.not_false]
      simp at c
      rw [if_neg (by omega)] at hd0
      refine (add_r _ q.1 n' (by omega) hn').use ?_
      have hm2 : (q.1 + n') % 340282366920938463463374607431768211456 = q.1 + n' := Nat.mod_eq_of_lt (by omega)
      simp only [XX, CC, Nat.reduceAdd, Nat.reduceSub, Nat.reduceLeDiff, Nat.reduceLT, Nat.reduceEqDiff, reduceIte, ↓reduceIte, Nat.reduceBEq, g3, g4, g16, g17, g18, hm2, st_in hb1, blkA (key_set (t := t) (b := s.length + 1) (x := .cells true (cA (q.1 + n'))) (by omega))]
      refine ret_drop ((hx.set (by omega) _).app _) rfl ⟨?_, rfl⟩
      simp [nthV, hs, hd0]
    · simp only [XX, CC, Nat.reduceAdd, Nat.reduceSub, Nat.reduceLeDiff, Nat.reduceLT, Nat.reduceEqDiff, reduceIte, ↓reduceIte, Nat.reduceBEq, g3, g4, g16, g17, g18, hbn, Bool.not_true]
      simp at c
      rw [if_pos c] at hd0
      refine (sub_r _ n' (q.2 - q.1) hn' (by omega)).use ?_
      have hm2 : (n' + 340282366920938463463374607431768211456 - (q.2 - q.1)) % 340282366920938463463374607431768211456 = n' - (q.2 - q.1) := by omega
      simp only [XX, CC, Nat.reduceAdd, Nat.reduceSub, Nat.reduceLeDiff, Nat.reduceLT, Nat.reduceEqDiff, reduceIte, ↓reduceIte, Nat.reduceBEq, g3, g4, g16, g17, g18, hm2, st_in hb0]
      refine drw_in [] rfl ?_
      simp only [DD, CC, Nat.reduceAdd, Nat.reduceSub, Nat.reduceLeDiff, Nat.reduceLT, Nat.reduceEqDiff, reduceIte, ↓reduceIte, Nat.reduceBEq, g3, g4, g16, g17, g18, blkA (key_set (t := t) (b := s.length) (x := .cells true (cA (n' - (q.2 - q.1)))) (by omega))]
      refine dr_call (one_r _) ?_
      simp only [DD, CC, Nat.reduceAdd, Nat.reduceSub, Nat.reduceLeDiff, Nat.reduceLT, Nat.reduceEqDiff, reduceIte, ↓reduceIte, Nat.reduceBEq, g3, g4, g16, g17, g18]
      refine dr_call (sub_r _ (n' - (q.2 - q.1)) 1 (by omega) (by decide)) ?_
      have hm3 : (n' - (q.2 - q.1) + 340282366920938463463374607431768211456 - 1) % 340282366920938463463374607431768211456 = n' - (q.2 - q.1) - 1 := by omega
      simp only [DD, CC, Nat.reduceAdd, Nat.reduceSub, Nat.reduceLeDiff, Nat.reduceLT, Nat.reduceEqDiff, reduceIte, ↓reduceIte, Nat.reduceBEq, g3, g4, g16, g17, g18, hm3, st_in (key_set (t := t) (b := s.length) (x := .cells true (cA (n' - (q.2 - q.1)))) (by omega)), List.set_set]
      refine loop_again ⟨d - 1, by omega, (hx.set (by omega) _).app _, i + 1, n' - (q.2 - q.1) - 1, by omega, ?_, ?_, ?_, ?_, ?_, ?_, ?_, by omega, hd0⟩ <;> (try simp only [XX, CC, Nat.reduceAdd, Nat.reduceSub, Nat.reduceLeDiff, Nat.reduceLT, Nat.reduceEqDiff, reduceIte, ↓reduceIte, Nat.reduceBEq, g3, g4, g16, g17, g18])
      · rw [w64_nat (by omega)]
      · rw [List.getElem?_append_left (by simp; omega)]; exact key_set (by omega)
      · rw [List.getElem?_append_left (by simp; omega), List.getElem?_set, if_neg (by omega)]; exact hb1
  · rw [List.drop_of_length_le (by omega)] at hd0
    simp only [nthL] at hd0
    simp only [dec_f (show ¬ (i : Int) < set.length by omega), XX, CC, Nat.reduceAdd, Nat.reduceSub, Nat.reduceLeDiff, Nat.reduceLT, Nat.reduceEqDiff, reduceIte, ↓reduceIte, Nat.reduceBEq, g3, g4]
    refine ⟨t.set (s.length + 1) (.cells true (cA 0)), by rw [wr_own hb1, if_pos ⟨Nat.le_refl _, rfl⟩]; rfl, ?_⟩
    simp only [blkA (key_set (t := t) (b := s.length + 1) (x := .cells true (cA 0)) htl), XX, CC, Nat.reduceAdd, Nat.reduceSub, Nat.reduceLeDiff, Nat.reduceLT, Nat.reduceEqDiff, reduceIte, ↓reduceIte, Nat.reduceBEq]
    refine ret_drop (hx.set (by omega) _) rfl ⟨?_, rfl⟩
    simp [nthV, hs, hd0]

/-- span.Rank -/
theorem rank_r (s : St) (v : AV) (set : List (Nat × Nat)) (a : Nat) (ha : a < 340282366920938463463374607431768211456) (hl : set.length < 1000000000) (hw : Wf set) (hv : Rd 4 cR s v set) : RunD T f_span_Rank [v, aA a] s (aA (if sndB 0 set = true then rankL a set % 340282366920938463463374607431768211456 else 0)) s := by
  refine run_body (F := r_span_Rank) rfl (by simp [r_span_Rank]) ?_
  simp only [r_span_Rank, XX, CC, Nat.reduceAdd, Nat.reduceSub, Nat.reduceLeDiff, Nat.reduceLT, Nat.reduceEqDiff, reduceIte, ↓reduceIte, Nat.reduceBEq]
  have e0 : ((setL [AV.int .u64 0, .int .u64 0, .int .u64 0, .int .u64 0] 0 (cA a)).set 2 (.int .u64 18446744073709551615)).set 3 (.int .u64 18446744073709551615) = cR (a, 340282366920938463463374607431768211456 - 1) := by
    show [AV.int .u64 (H a), .int .u64 (L a), .int .u64 18446744073709551615, .int .u64 18446744073709551615] = [.int .u64 (H a), .int .u64 (L a), .int .u64 (H (340282366920938463463374607431768211456 - 1)), .int .u64 (L (340282366920938463463374607431768211456 - 1))]
    rw [show H (340282366920938463463374607431768211456 - 1) = 18446744073709551615 from rfl, show L (340282366920938463463374607431768211456 - 1) = 18446744073709551615 from rfl]
  simp only [e0]
  refine Run.mono _ _ _ _ _ ?_ (drop_r _ v set a (340282366920938463463374607431768211456 - 1) (by omega) hw ha (by decide) (hv.ext ⟨_, rfl⟩))
  rintro r t ⟨v2, rfl, ho⟩
  rw [dec_t (show a ≤ 340282366920938463463374607431768211456 - 1 by omega), Bool.and_true] at ho ⊢
  have hb1 : t[s.length + 1]? = some (.cells true (cA 0)) := ho.ext.get_some (by simp; rfl)
  have hx : Ext s t := Ext.trans ⟨_, rfl⟩ ho.ext
  have htl : s.length + 1 < t.length := (List.getElem?_eq_some_iff.1 hb1).1
  cases hs : sndB 0 set
  · simp only [XX, CC, Nat.reduceAdd, Nat.reduceSub, Nat.reduceLeDiff, Nat.reduceLT, Nat.reduceEqDiff, reduceIte, ↓reduceIte, Nat.reduceBEq]
    have : ((1 : Int) == 0) = false := rfl
    simp only [this, XX, CC, Nat.reduceAdd, Nat.reduceSub, Nat.reduceLeDiff, Nat.reduceLT, Nat.reduceEqDiff, reduceIte, ↓reduceIte, Nat.reduceBEq, Bool.not_false]
    refine ⟨t.set (s.length + 1) (.cells true (cA 0)), by rw [wr_own hb1, if_pos ⟨Nat.le_refl _, rfl⟩]; rfl, ?_⟩
    simp only [blkA (key_set (t := t) (b := s.length + 1) (x := .cells true (cA 0)) htl), XX, CC, Nat.reduceAdd, Nat.reduceSub, Nat.reduceLeDiff, Nat.reduceLT, Nat.reduceEqDiff, reduceIte, ↓reduceIte, Nat.reduceBEq]
    exact ret_drop (hx.set (by omega) _) rfl ⟨rfl, rfl⟩
  · rw [hs] at ho
    have hsn := (sndB_iff hw).1 hs
    have hd : Snd 340282366920938463463374607431768211456 0 (dropL a (340282366920938463463374607431768211456 - 1) set) := dropL_snd (by omega) hsn
    have hdl := (dropL_length1 (show a ≤ 340282366920938463463374607431768211456 - 1 by omega) hsn).1
    simp only [XX, CC, Nat.reduceAdd, Nat.reduceSub, Nat.reduceLeDiff, Nat.reduceLT, Nat.reduceEqDiff, reduceIte, ↓reduceIte, Nat.reduceBEq]
    have : ((0 : Int) == 0) = true := rfl
    simp only [this, XX, CC, Nat.reduceAdd, Nat.reduceSub, Nat.reduceLeDiff, Nat.reduceLT, Nat.reduceEqDiff, reduceIte, ↓reduceIte, Nat.reduceBEq, Bool.not_true]
    refine (count_r _ v2 (dropL a (340282366920938463463374607431768211456 - 1) set) (by omega) (Wf.of hd) (ho.rd cR_len)).use ?_
    simp only [cntV, (sndB_iff (Wf.of hd)).2 hd, XX, CC, Nat.reduceAdd, Nat.reduceSub, Nat.reduceLeDiff, Nat.reduceLT, Nat.reduceEqDiff, reduceIte, ↓reduceIte, Nat.reduceBEq, st_in hb1, blkA (key_set (t := t) (b := s.length + 1) (x := .cells true (cA (cnt (dropL a (340282366920938463463374607431768211456 - 1) set) % 340282366920938463463374607431768211456))) htl)]
    refine ret_drop ((hx.set (by omega) _).app _) rfl ⟨?_, rfl⟩
    have hrk := rank_eq hsn ha
    simp only [Nat.reduceSub] at hrk
    rw [hrk]
end Go.Ev

/-! span.Has. -/
namespace Go.Ev
set_option linter.unusedVariables false
set_option linter.unusedSimpArgs false
open Go.Ev.Sp

theorem has1_r (s : St) (q : Nat × Nat) (a b : Nat) (hb : s[b]? = some (.cells true (cA a))) : RunD T f_span_Has_1 [aR q, .ptr b 0] s (.bool (decide (q.1 ≤ a) && decide (a ≤ q.2))) s := by
  refine run_body (F := r_span_Has_1) rfl (by simp [r_span_Has_1]) ?_
  simp only [r_span_Has_1, XX, CC, Nat.reduceAdd, Nat.reduceSub, Nat.reduceLeDiff, Nat.reduceLT, Nat.reduceEqDiff, reduceIte, ↓reduceIte, Nat.reduceBEq, blkA hb]
  refine (below_r _ a q.1).use ?_
  cases c : decide (a < q.1)
  · simp only [XX, CC, Nat.reduceAdd, Nat.reduceSub, Nat.reduceLeDiff, Nat.reduceLT, Nat.reduceEqDiff, reduceIte, ↓reduceIte, Nat.reduceBEq, blkA hb, Bool.not_false]
    refine (below_r _ q.2 a).use ?_
    simp only [XX, CC, Nat.reduceAdd, Nat.reduceSub, Nat.reduceLeDiff, Nat.reduceLT, Nat.reduceEqDiff, reduceIte, ↓reduceIte, Nat.reduceBEq]
    refine ret_drop ⟨_, rfl⟩ rfl ⟨?_, rfl⟩
    simp at c
    rw [dec_t (show q.1 ≤ a by omega), Bool.true_and, ← decide_not]
    congr 1; simp
  · simp only [XX, CC, Nat.reduceAdd, Nat.reduceSub, Nat.reduceLeDiff, Nat.reduceLT, Nat.reduceEqDiff, reduceIte, ↓reduceIte, Nat.reduceBEq, Bool.not_true]
    refine ret_drop ⟨_, rfl⟩ rfl ⟨?_, rfl⟩
    simp at c
    rw [dec_f (show ¬ q.1 ≤ a by omega)]; rfl

theorem index_r (s : St) (v : AV) (set : List (Nat × Nat)) (a b : Nat) (hl : set.length < 4611686018427387904) (hb : s[b]? = some (.cells true (cA a))) (hv : Rd 4 cR s v set) :
    Run T f_slices_IndexFunc_Range [v, .fn f_span_Has_1 [.ptr b 0]] s (fun r t => t = s ∧ ∃ x : Int, r = .int .i64 x ∧ decide (x ≥ 0) = inL set a) := by
  refine run_body (F := r_slices_IndexFunc_Range) rfl (by simp [r_slices_IndexFunc_Range]) ?_
  simp only [r_slices_IndexFunc_Range, XX, CC, Nat.reduceAdd, Nat.reduceSub, Nat.reduceLeDiff, Nat.reduceLT, Nat.reduceEqDiff, reduceIte, ↓reduceIte, Nat.reduceBEq, hv.len]
  refine awp_loop (fun d e t => t = s ∧ ∃ i : Nat, i + d = set.length ∧ e.get 0 = v ∧ e.get 1 = .fn f_span_Has_1 [.ptr b 0] ∧ e.get 6 = v ∧ e.get 7 = .int .i64 set.length ∧ e.get 8 = .int .i64 i ∧ inL set a = inL (set.drop i) a) set.length ?_ ?_
  · refine ⟨rfl, 0, by omega, ?_, ?_, ?_, ?_, ?_, rfl⟩ <;> (try simp only [XX, CC, Nat.reduceAdd, Nat.reduceSub, Nat.reduceLeDiff, Nat.reduceLT, Nat.reduceEqDiff, reduceIte, ↓reduceIte, Nat.reduceBEq, hv.len]) <;> rfl
  rintro d e s ⟨rfl, i, hi, g0, g1, g6, g7, g8, hd0⟩
  simp only [XX, CC, Nat.reduceAdd, Nat.reduceSub, Nat.reduceLeDiff, Nat.reduceLT, Nat.reduceEqDiff, reduceIte, ↓reduceIte, Nat.reduceBEq, g0, g1, g6, g7, g8]
  by_cases h : i < set.length
  · obtain ⟨q, hq, hd⟩ := drop_get h
    obtain ⟨b2, o2, h1, h2⟩ := rdR hv hq
    rw [hd] at hd0
    simp only [dec_t (show (i : Int) < set.length by omega), XX, CC, Nat.reduceAdd, Nat.reduceSub, Nat.reduceLeDiff, Nat.reduceLT, Nat.reduceEqDiff, reduceIte, ↓reduceIte, Nat.reduceBEq, g0, g1, g6, g7, g8, h1, h2]
    refine (has1_r _ q a b hb).use ?_
    unfold inL at hd0
    rw [List.any_cons] at hd0
    cases c : (decide (q.1 ≤ a) && decide (a ≤ q.2))
    · simp only [XX, CC, Nat.reduceAdd, Nat.reduceSub, Nat.reduceLeDiff, Nat.reduceLT, Nat.reduceEqDiff, reduceIte, ↓reduceIte, Nat.reduceBEq, g0, g1, g6, g7, g8]
      refine loop_again ⟨d - 1, by omega, rfl, i + 1, by omega, ?_, ?_, ?_, ?_, ?_, ?_⟩ <;> (try simp only [XX, CC, Nat.reduceAdd, Nat.reduceSub, Nat.reduceLeDiff, Nat.reduceLT, Nat.reduceEqDiff, reduceIte, ↓reduceIte, Nat.reduceBEq, g0, g1, g6, g7, g8])
      · rw [w64_nat (by omega)]
      · rw [c] at hd0; unfold inL; rw [hd0]; rfl
    · simp only [XX, CC, Nat.reduceAdd, Nat.reduceSub, Nat.reduceLeDiff, Nat.reduceLT, Nat.reduceEqDiff, reduceIte, ↓reduceIte, Nat.reduceBEq, g0, g1, g6, g7, g8]
      refine ret_drop (.refl _) rfl ⟨rfl, i, rfl, ?_⟩
      rw [c] at hd0; unfold inL; rw [hd0, dec_t (by omega)]; rfl
  · simp only [dec_f (show ¬ (i : Int) < set.length by omega), XX, CC, Nat.reduceAdd, Nat.reduceSub, Nat.reduceLeDiff, Nat.reduceLT, Nat.reduceEqDiff, reduceIte, ↓reduceIte, Nat.reduceBEq, g0]
    rw [List.drop_of_length_le (by omega)] at hd0
    exact ret_drop (.refl _) rfl ⟨rfl, -1, rfl, by rw [hd0]; rfl⟩

theorem contains_r (s : St) (v : AV) (set : List (Nat × Nat)) (a b : Nat) (hl : set.length < 4611686018427387904) (hb : s[b]? = some (.cells true (cA a))) (hv : Rd 4 cR s v set) :
    RunD T f_slices_ContainsFunc_Range [v, .fn f_span_Has_1 [.ptr b 0]] s (.bool (inL set a)) s := by
  refine run_body (F := r_slices_ContainsFunc_Range) rfl (by simp [r_slices_ContainsFunc_Range]) ?_
  simp only [r_slices_ContainsFunc_Range, XX, CC, Nat.reduceAdd, Nat.reduceSub, Nat.reduceLeDiff, Nat.reduceLT, Nat.reduceEqDiff, reduceIte, ↓reduceIte, Nat.reduceBEq]
  refine Run.mono _ _ _ _ _ ?_ (index_r s v set a b hl hb hv)
  rintro r t ⟨rfl, x, rfl, hx⟩
  simp only [XX, CC, Nat.reduceAdd, Nat.reduceSub, Nat.reduceLeDiff, Nat.reduceLT, Nat.reduceEqDiff, reduceIte, ↓reduceIte, Nat.reduceBEq, hx]
  exact ret_drop (.refl _) rfl ⟨rfl, rfl⟩

/-- span.Has -/
theorem has_r (s : St) (v : AV) (set : List (Nat × Nat)) (a : Nat) (hl : set.length < 4611686018427387904) (hw : Wf set) (hv : Rd 4 cR s v set) : RunD T f_span_Has [v, aA a] s (.bool (sndB 0 set && inL set a)) s := by
  refine run_body (F := r_span_Has) rfl (by simp [r_span_Has]) ?_
  simp only [r_span_Has, XX, CC, Nat.reduceAdd, Nat.reduceSub, Nat.reduceLeDiff, Nat.reduceLT, Nat.reduceEqDiff, reduceIte, ↓reduceIte, Nat.reduceBEq]
  refine (sound_r _ v set (by omega) hw (hv.ext ⟨_, rfl⟩)).use ?_
  cases hs : sndB 0 set
  · simp only [XX, CC, Nat.reduceAdd, Nat.reduceSub, Nat.reduceLeDiff, Nat.reduceLT, Nat.reduceEqDiff, reduceIte, ↓reduceIte, Nat.reduceBEq]
    exact ret_drop ⟨_, rfl⟩ rfl ⟨rfl, rfl⟩
  · simp only [XX, CC, Nat.reduceAdd, Nat.reduceSub, Nat.reduceLeDiff, Nat.reduceLT, Nat.reduceEqDiff, reduceIte, ↓reduceIte, Nat.reduceBEq]
    refine (contains_r _ v set a s.length hl (by simp) (hv.ext ⟨_, rfl⟩)).use ?_
    exact ret_drop ⟨_, rfl⟩ rfl ⟨by rw [Bool.true_and], rfl⟩
end Go.Ev

/-! The reference's numbers, bit by bit. -/
namespace Go.Ev
set_option linter.unusedVariables false
set_option linter.unusedSimpArgs false

theorem wu64_in {x : Int} (h1 : 0 ≤ x) (h2 : x < 18446744073709551616) : IntKind.u64.wrap x = x := by rw [wu64]; omega
theorem or_nat (a b : Nat) (ha : a < 18446744073709551616) (hb : b < 18446744073709551616) : bitsA .or .u64 a b = ((a ||| b : Nat) : Int) :=
  (bits_nat .u64 64 (by decide) (fun n h0 h1 => wu64_in h0 (by simpa using h1)) a b (by simpa using ha) (by simpa using hb)).2
theorem and_nat (a b : Nat) (ha : a < 18446744073709551616) (hb : b < 18446744073709551616) : bitsA .and .u64 a b = ((a &&& b : Nat) : Int) :=
  (bits_nat .u64 64 (by decide) (fun n h0 h1 => wu64_in h0 (by simpa using h1)) a b (by simpa using ha) (by simpa using hb)).1
/-- 2^64 in two factors -/
theorem pow_split {n : Nat} (h : n ≤ 64) : 2 ^ n * 2 ^ (64 - n) = 18446744073709551616 := by
  rw [← Nat.pow_add, Nat.add_sub_cancel' h]
theorem or_new (x t : Nat) (h : x / t % 2 = 0) (ht : ∃ j, t = 2 ^ j) : x ||| t = x + t := by
  obtain ⟨j, rfl⟩ := ht
  apply Nat.eq_of_testBit_eq
  intro i
  have key : x.testBit j = false := by rw [Nat.testBit_eq_decide_div_mod_eq, h]; rfl
  rw [Nat.testBit_or, Nat.testBit_two_pow]
  have e : x + 2 ^ j = 2 ^ j * (x / 2 ^ j + 1) + x % 2 ^ j := by
    have := Nat.div_add_mod x (2 ^ j)
    rw [Nat.mul_add, Nat.mul_one]; omega
  have e0 : x = 2 ^ j * (x / 2 ^ j) + x % 2 ^ j := (Nat.div_add_mod x (2 ^ j)).symm
  have hlt : x % 2 ^ j < 2 ^ j := Nat.mod_lt _ (Nat.two_pow_pos j)
  rw [e]
  conv => lhs; rw [e0]
  rw [Nat.testBit_two_pow_mul_add _ hlt, Nat.testBit_two_pow_mul_add _ hlt]
  by_cases c : i < j
  · rw [if_pos c, if_pos c, decide_eq_false (by omega), Bool.or_false]
  · rw [if_neg c, if_neg c]
    obtain ⟨m, rfl⟩ : ∃ m, i = j + m := ⟨i - j, by omega⟩
    rw [show j + m - j = m by omega]
    have hq : x / 2 ^ j % 2 = 0 := h
    cases m with
    | zero =>
      rw [decide_eq_true (by omega), Bool.or_true, Nat.testBit_zero]
      exact (decide_eq_true (by omega)).symm
    | succ m =>
      rw [decide_eq_false (by omega), Bool.or_false, Nat.testBit_succ, Nat.testBit_succ, show (x / 2 ^ j + 1) / 2 = x / 2 ^ j / 2 by omega]
theorem mod_next (a j : Nat) : a % 2 ^ (j + 1) = a % 2 ^ j + a / 2 ^ j % 2 * 2 ^ j := by rw [Nat.mod_pow_succ, Nat.mul_comm (2 ^ j)]

def bitN (a : Nat) (i : Nat) : Nat := a / 2 ^ (127 - i) % 2
theorem bitN_lt (a i : Nat) : bitN a i < 2 := Nat.mod_lt _ (by decide)
theorem bin_shr {x n : Nat} (hn : n ≤ 64) : binA .shr (.int .u64 (x : Int)) (.int .u64 (n : Int)) = some (.int .u64 ((x / 2 ^ n : Nat) : Int)) := by
  simp only [binA]
  rw [if_neg (by omega), show IntKind.u64.bits = 64 from rfl, Int.toNat_natCast, Nat.min_eq_left hn, Int.natCast_ediv, Int.natCast_pow, Int.fdiv_eq_ediv_of_nonneg _ (by exact Int.le_of_lt (Int.pow_pos (by decide)))]
  rfl
theorem bin_shl {n : Nat} (hn : n < 64) : binA .shl (.int .u64 1) (.int .u64 (n : Int)) = some (.int .u64 ((2 ^ n : Nat) : Int)) := by
  have hp : 2 ^ n < 18446744073709551616 := by rw [show (18446744073709551616 : Nat) = 2 ^ 64 from rfl]; exact Nat.pow_lt_pow_right (by decide) (by omega)
  simp only [binA]
  rw [if_neg (by omega), show IntKind.u64.bits = 64 from rfl, Int.toNat_natCast, Nat.min_eq_left (by omega), Int.one_mul, show (2 : Int) ^ n = ((2 ^ n : Nat) : Int) by rw [Int.natCast_pow]; rfl]
  generalize 2 ^ n = m at hp ⊢
  rw [wu64_in (by omega) (by omega)]
theorem bin_and1 {x : Nat} (h : x < 18446744073709551616) : binA .and (.int .u64 (x : Int)) (.int .u64 1) = some (.int .u64 ((x % 2 : Nat) : Int)) := by
  have := and_nat x 1 h (by decide)
  rw [show ((1 : Nat) : Int) = 1 from rfl] at this
  simp only [binA, if_true, this]
  rw [show (1 : Nat) = 2 ^ 1 - 1 from rfl, Nat.and_two_pow_sub_one_eq_mod]
theorem bin_or {x y : Nat} (hx : x < 18446744073709551616) (hy : y < 18446744073709551616) : binA .or (.int .u64 (x : Int)) (.int .u64 (y : Int)) = some (.int .u64 ((x ||| y : Nat) : Int)) := by
  simp only [binA, if_true, or_nat x y hx hy]
theorem bin_rem2 {x : Nat} : binA .rem (.int .u64 (x : Int)) (.int .u64 2) = some (.int .u64 ((x % 2 : Nat) : Int)) := by
  simp only [binA]
  rw [if_pos ⟨trivial, by decide⟩, Int.tmod_eq_emod_of_nonneg (by omega)]; rfl
theorem bin_quo2 {x : Nat} (h : x < 18446744073709551616) : binA .quo (.int .u64 (x : Int)) (.int .u64 2) = some (.int .u64 ((x / 2 : Nat) : Int)) := by
  simp only [binA]
  rw [if_pos ⟨trivial, by decide⟩, Int.tdiv_eq_ediv_of_nonneg (by omega), wu64_in (by omega) (by omega)]; rfl
def cviA (k : IntKind) : AV → Option AV
  | .int _ n => some (.int k (k.wrap n))
  | _ => none
theorem op_cvi {X : Oracle} {e : Env} {s : St} {q : AV → St → Prop} {k : IntKind} {x : RX} : opA X (.cvi k x) e s q = ob (cviA k (x.ev e)) fun v => q v s := rfl
theorem cvi_int {k k' : IntKind} {n : Int} : cviA k (.int k' n) = some (.int k (k.wrap n)) := rfl

theorem bit_r (s : St) (a i : Nat) (hi : i < 128) (ha : a < 340282366920938463463374607431768211456) : RunD T f_r01_bit [aA a, .int .i64 i] s (.int .u64 (bitN a i)) s := by
  refine run_body (F := r_r01_bit) rfl (by simp [r_r01_bit]) ?_
  by_cases c : (i : Int) < 64
  · have e0 : IntKind.u64.wrap (IntKind.i64.wrap (63 - (i : Int))) = ((63 - i : Nat) : Int) := by rw [w64_in (by omega) (by omega), wu64_in (by omega) (by omega)]; omega
    have e : a / 18446744073709551616 / 2 ^ (63 - i) = a / 2 ^ (127 - i) := by
      rw [show (18446744073709551616 : Nat) = 2 ^ 64 from rfl, Nat.div_div_eq_div_mul, ← Nat.pow_add, show 64 + (63 - i) = 127 - i by omega]
    have hh : a / 18446744073709551616 < 18446744073709551616 := by omega
    have hh2 : a / 2 ^ (127 - i) < 18446744073709551616 := by rw [← e]; exact Nat.lt_of_le_of_lt (Nat.div_le_self _ _) hh
    simp only [r_r01_bit, XX, CC, Nat.reduceAdd, Nat.reduceSub, Nat.reduceLeDiff, Nat.reduceLT, Nat.reduceEqDiff, reduceIte, ↓reduceIte, Nat.reduceBEq, cA, dec_t c, op_cvi, cvi_int, e0, H, bin_shr (show 63 - i ≤ 64 by omega), e, bin_and1 hh2]
    exact ret_drop ⟨_, rfl⟩ rfl ⟨rfl, rfl⟩
  · have e0 : IntKind.u64.wrap (IntKind.i64.wrap (127 - (i : Int))) = ((127 - i : Nat) : Int) := by rw [w64_in (by omega) (by omega), wu64_in (by omega) (by omega)]; omega
    have e : a % 18446744073709551616 / 2 ^ (127 - i) % 2 = a / 2 ^ (127 - i) % 2 := by
      have hp : 2 ^ (127 - i) * 2 ^ (64 - (127 - i)) = 18446744073709551616 := pow_split (by omega)
      have hs : 2 ^ (64 - (127 - i)) = 2 * 2 ^ (63 - (127 - i)) := by rw [show 64 - (127 - i) = 63 - (127 - i) + 1 by omega, Nat.pow_succ, Nat.mul_comm]
      rw [← hp, Nat.mod_mul_right_div_self, hs, Nat.mod_mul_right_mod]
    have hh2 : a % 18446744073709551616 / 2 ^ (127 - i) < 18446744073709551616 := Nat.lt_of_le_of_lt (Nat.div_le_self _ _) (Nat.mod_lt _ (by decide))
    simp only [r_r01_bit, XX, CC, Nat.reduceAdd, Nat.reduceSub, Nat.reduceLeDiff, Nat.reduceLT, Nat.reduceEqDiff, reduceIte, ↓reduceIte, Nat.reduceBEq, cA, dec_f c, op_cvi, cvi_int, e0, L, bin_shr (show 127 - i ≤ 64 by omega), bin_and1 hh2, e]
    exact ret_drop ⟨_, rfl⟩ rfl ⟨rfl, rfl⟩

/-- Setting a bit that isn't set: a sum. -/
theorem with_r (s : St) (a i : Nat) (hi : i < 128) (ha : a < 340282366920938463463374607431768211456) (h : bitN a i = 0) : RunD T f_r01_with [aA a, .int .i64 i] s (aA (a + 2 ^ (127 - i))) s := by
  refine run_body (F := r_r01_with) rfl (by simp [r_r01_with]) ?_
  have hor : a ||| 2 ^ (127 - i) = a + 2 ^ (127 - i) := or_new a _ h ⟨_, rfl⟩
  rw [← hor]
  by_cases c : (i : Int) < 64
  · have e0 : IntKind.u64.wrap (IntKind.i64.wrap (63 - (i : Int))) = ((63 - i : Nat) : Int) := by rw [w64_in (by omega) (by omega), wu64_in (by omega) (by omega)]; omega
    have hp : 2 ^ (63 - i) < 18446744073709551616 := by rw [show (18446744073709551616 : Nat) = 2 ^ 64 from rfl]; exact Nat.pow_lt_pow_right (by decide) (by omega)
    simp only [r_r01_with, XX, CC, Nat.reduceAdd, Nat.reduceSub, Nat.reduceLeDiff, Nat.reduceLT, Nat.reduceEqDiff, reduceIte, ↓reduceIte, Nat.reduceBEq, cA, dec_t c, op_cvi, cvi_int, e0, H, bin_shl (show 63 - i < 64 by omega), bin_or (show a / 18446744073709551616 < 18446744073709551616 by omega) hp]
    refine ret_drop ⟨_, rfl⟩ rfl ⟨?_, rfl⟩
    have e2 : 2 ^ (127 - i) = 2 ^ (63 - i) * 18446744073709551616 := by rw [show (18446744073709551616 : Nat) = 2 ^ 64 from rfl, ← Nat.pow_add, show 63 - i + 64 = 127 - i by omega]
    have e3 : (a ||| 2 ^ (127 - i)) / 18446744073709551616 = a / 18446744073709551616 ||| 2 ^ (63 - i) := by
      rw [show (18446744073709551616 : Nat) = 2 ^ 64 from rfl, Nat.or_div_two_pow]
      rw [show (2 : Nat) ^ 64 = 18446744073709551616 from rfl, e2, Nat.mul_div_cancel _ (by decide)]
    have e4 : (a ||| 2 ^ (127 - i)) % 18446744073709551616 = a % 18446744073709551616 := by
      rw [show (18446744073709551616 : Nat) = 2 ^ 64 from rfl, Nat.or_mod_two_pow]
      rw [show (2 : Nat) ^ 64 = 18446744073709551616 from rfl, e2, Nat.mul_mod_left, Nat.or_zero]
    show _ = AV.agg [AV.int .u64 (H (a ||| 2 ^ (127 - i))), AV.int .u64 (L (a ||| 2 ^ (127 - i)))]
    simp only [H, L, e3, e4]
  · have e0 : IntKind.u64.wrap (IntKind.i64.wrap (127 - (i : Int))) = ((127 - i : Nat) : Int) := by rw [w64_in (by omega) (by omega), wu64_in (by omega) (by omega)]; omega
    have hp : 2 ^ (127 - i) < 18446744073709551616 := by rw [show (18446744073709551616 : Nat) = 2 ^ 64 from rfl]; exact Nat.pow_lt_pow_right (by decide) (by omega)
    simp only [r_r01_with, XX, CC, Nat.reduceAdd, Nat.reduceSub, Nat.reduceLeDiff, Nat.reduceLT, Nat.reduceEqDiff, reduceIte, ↓reduceIte, Nat.reduceBEq, cA, dec_f c, op_cvi, cvi_int, e0, L, bin_shl (show 127 - i < 64 by omega), bin_or (Nat.mod_lt a (show 0 < 18446744073709551616 by decide)) hp]
    refine ret_drop ⟨_, rfl⟩ rfl ⟨?_, rfl⟩
    have e3 : (a ||| 2 ^ (127 - i)) / 18446744073709551616 = a / 18446744073709551616 := by
      rw [show (18446744073709551616 : Nat) = 2 ^ 64 from rfl, Nat.or_div_two_pow]
      rw [show (2 : Nat) ^ 64 = 18446744073709551616 from rfl, Nat.div_eq_of_lt hp, Nat.or_zero]
    have e4 : (a ||| 2 ^ (127 - i)) % 18446744073709551616 = a % 18446744073709551616 ||| 2 ^ (127 - i) := by
      rw [show (18446744073709551616 : Nat) = 2 ^ 64 from rfl, Nat.or_mod_two_pow]
      rw [show (2 : Nat) ^ 64 = 18446744073709551616 from rfl, Nat.mod_eq_of_lt hp]
    show _ = AV.agg [AV.int .u64 (H (a ||| 2 ^ (127 - i))), AV.int .u64 (L (a ||| 2 ^ (127 - i)))]
    simp only [H, L, e3, e4]

/-- tenancyref01.Cmp -/
theorem rcmp_r (s : St) (a b : Nat) (ha : a < 340282366920938463463374607431768211456) (hb : b < 340282366920938463463374607431768211456) : RunD T f_r01_Cmp [aA a, aA b] s (.int .i64 (cmpN a b)) s := by
  refine run_body (F := r_r01_Cmp) rfl (by simp [r_r01_Cmp]) ?_
  simp only [r_r01_Cmp, XX, CC, Nat.reduceAdd, Nat.reduceSub, Nat.reduceLeDiff, Nat.reduceLT, Nat.reduceEqDiff, reduceIte, ↓reduceIte, Nat.reduceBEq]
  refine awp_loop (fun d e t => t = s ++ [.cells true (cA a), .cells true (cA b)] ∧ ∃ i : Nat, i + d = 128 ∧ e.get 2 = .ptr s.length 0 ∧ e.get 3 = .ptr (s.length + 1) 0 ∧ e.get 5 = .int .i64 i ∧ a / 2 ^ (128 - i) = b / 2 ^ (128 - i)) 128 ?_ ?_
  · refine ⟨rfl, 0, by omega, ?_, ?_, ?_, by rw [Nat.div_eq_of_lt (by simpa using ha), Nat.div_eq_of_lt (by simpa using hb)]⟩ <;> (try simp only [XX, CC, Nat.reduceAdd, Nat.reduceSub, Nat.reduceLeDiff, Nat.reduceLT, Nat.reduceEqDiff, reduceIte, ↓reduceIte, Nat.reduceBEq]) <;> rfl
  rintro d e t ⟨rfl, i, hi, g2, g3, g5, he⟩
  simp only [XX, CC, Nat.reduceAdd, Nat.reduceSub, Nat.reduceLeDiff, Nat.reduceLT, Nat.reduceEqDiff, reduceIte, ↓reduceIte, Nat.reduceBEq, g2, g3, g5]
  by_cases h : i < 128
  · rw [show 128 - i = 127 - i + 1 by omega, Nat.pow_succ, ← Nat.div_div_eq_div_mul, ← Nat.div_div_eq_div_mul] at he
    have ea : bitN a i = a / 2 ^ (127 - i) % 2 := rfl
    have eb : bitN b i = b / 2 ^ (127 - i) % 2 := rfl
    simp only [dec_t (show (i : Int) < 128 by omega), XX, CC, Nat.reduceAdd, Nat.reduceSub, Nat.reduceLeDiff, Nat.reduceLT, Nat.reduceEqDiff, reduceIte, ↓reduceIte, Nat.reduceBEq, g2, g3, g5]
    refine drw_in [] rfl ?_
    simp only [DD, CC, Nat.reduceAdd, Nat.reduceSub, Nat.reduceLeDiff, Nat.reduceLT, Nat.reduceEqDiff, reduceIte, ↓reduceIte, Nat.reduceBEq, g2, g3, g5]
    refine dr_call (bit_r _ a i h ha) ?_
    simp only [DD, CC, Nat.reduceAdd, Nat.reduceSub, Nat.reduceLeDiff, Nat.reduceLT, Nat.reduceEqDiff, reduceIte, ↓reduceIte, Nat.reduceBEq, g2, g3, g5]
    refine dr_call (bit_r _ b i h hb) ?_
    cases c1 : decide ((bitN a i : Int) < bitN b i)
    · simp only [DD, CC, Nat.reduceAdd, Nat.reduceSub, Nat.reduceLeDiff, Nat.reduceLT, Nat.reduceEqDiff, reduceIte, ↓reduceIte, Nat.reduceBEq, g2, g3, g5, c1]
      refine drw_in [] rfl ?_
      simp only [DD, CC, Nat.reduceAdd, Nat.reduceSub, Nat.reduceLeDiff, Nat.reduceLT, Nat.reduceEqDiff, reduceIte, ↓reduceIte, Nat.reduceBEq, g2, g3, g5]
      refine dr_call (bit_r _ a i h ha) ?_
      simp only [DD, CC, Nat.reduceAdd, Nat.reduceSub, Nat.reduceLeDiff, Nat.reduceLT, Nat.reduceEqDiff, reduceIte, ↓reduceIte, Nat.reduceBEq, g2, g3, g5]
      refine dr_call (bit_r _ b i h hb) ?_
      simp at c1
      cases c2 : decide ((bitN a i : Int) > bitN b i)
      · simp only [DD, CC, Nat.reduceAdd, Nat.reduceSub, Nat.reduceLeDiff, Nat.reduceLT, Nat.reduceEqDiff, reduceIte, ↓reduceIte, Nat.reduceBEq, g2, g3, g5, c2]
        simp at c2
        refine loop_again ⟨d - 1, by omega, by simp, i + 1, by omega, ?_, ?_, ?_, ?_⟩ <;> (try simp only [XX, CC, Nat.reduceAdd, Nat.reduceSub, Nat.reduceLeDiff, Nat.reduceLT, Nat.reduceEqDiff, reduceIte, ↓reduceIte, Nat.reduceBEq, g2, g3, g5])
        · rw [w64_nat (by omega)]
        · rw [show 128 - (i + 1) = 127 - i by omega]; omega
      · simp only [DD, CC, Nat.reduceAdd, Nat.reduceSub, Nat.reduceLeDiff, Nat.reduceLT, Nat.reduceEqDiff, reduceIte, ↓reduceIte, Nat.reduceBEq, g2, g3, g5, c2]
        simp at c2
        refine ret_drop ⟨_, rfl⟩ rfl ⟨?_, rfl⟩
        have : b / 2 ^ (127 - i) < a / 2 ^ (127 - i) := by omega
        have : b < a := Nat.lt_of_div_lt_div this
        unfold cmpN
        rw [if_neg (by omega), if_neg (by omega)]
    · simp only [DD, CC, Nat.reduceAdd, Nat.reduceSub, Nat.reduceLeDiff, Nat.reduceLT, Nat.reduceEqDiff, reduceIte, ↓reduceIte, Nat.reduceBEq, g2, g3, g5, c1]
      simp at c1
      refine ret_drop ⟨_, rfl⟩ rfl ⟨?_, rfl⟩
      have : a / 2 ^ (127 - i) < b / 2 ^ (127 - i) := by omega
      have : a < b := Nat.lt_of_div_lt_div this
      unfold cmpN
      rw [if_pos this]
  · simp only [dec_f (show ¬ (i : Int) < 128 by omega), XX, CC, Nat.reduceAdd, Nat.reduceSub, Nat.reduceLeDiff, Nat.reduceLT, Nat.reduceEqDiff, reduceIte, ↓reduceIte, Nat.reduceBEq, g2, g3]
    refine ret_drop ⟨_, rfl⟩ rfl ⟨?_, rfl⟩
    have : a = b := by rw [show 128 - i = 0 by omega] at he; simpa using he
    unfold cmpN
    rw [if_neg (by omega), if_pos this]

theorem bin_addn {x y : Nat} (h : x + y < 18446744073709551616) : binA .add (.int .u64 (x : Int)) (.int .u64 (y : Int)) = some (.int .u64 ((x + y : Nat) : Int)) := by
  rw [bin_add, wu64_in (by omega) (by omega)]; rfl
theorem bin_subn {x y : Nat} (h : x < 18446744073709551616) (h' : y ≤ x) : binA .sub (.int .u64 (x : Int)) (.int .u64 (y : Int)) = some (.int .u64 ((x - y : Nat) : Int)) := by
  rw [bin_sub, wu64_in (by omega) (by omega)]
  rw [show (x : Int) - y = ((x - y : Nat) : Int) by omega]
theorem wr_A {t : St} {b x y : Nat} (h : t[b]? = some (.cells true (cA x))) : wrA t b 0 (cA y) = some (t.set b (.cells true (cA y))) := by
  rw [wr_own h, if_pos ⟨Nat.le_refl _, cA_cell y⟩]; rfl
theorem set_at {t : St} {i j : Nat} {x : Blk} {y : Option Blk} (h : t[i]? = y) (hn : j ≠ i) : (t.set j x)[i]? = y := by rw [List.getElem?_set, if_neg hn]; exact h
set_option maxHeartbeats 1000000 in
/-- tenancyref01.Add -/
theorem radd_r (s : St) (a b : Nat) (ha : a < 340282366920938463463374607431768211456) (hb : b < 340282366920938463463374607431768211456) : RunD T f_r01_Add [aA a, aA b] s (.tup [aA ((a + b) % 340282366920938463463374607431768211456), .bool (ovr a b)]) s := by
  refine run_body (F := r_r01_Add) rfl (by simp [r_r01_Add]) ?_
  simp only [r_r01_Add, XX, CC, Nat.reduceAdd, Nat.reduceSub, Nat.reduceLeDiff, Nat.reduceLT, Nat.reduceEqDiff, reduceIte, ↓reduceIte, Nat.reduceBEq]
  refine awp_loop (fun d e t => Ext s t ∧ t[s.length]? = some (.cells true (cA a)) ∧ t[s.length + 1]? = some (.cells true (cA b)) ∧ t[s.length + 2]? = some (.cells true (cA 0)) ∧ ∃ c o : Nat, t[s.length + 3]? = some (.cells true (cA o)) ∧
    d ≤ 128 ∧ e.get 2 = .ptr s.length 0 ∧ e.get 3 = .ptr (s.length + 1) 0 ∧ e.get 4 = .ptr (s.length + 2) 0 ∧ e.get 6 = .ptr (s.length + 3) 0 ∧ e.get 7 = .int .u64 (c : Int) ∧ e.get 8 = .int .i64 ((d : Int) - 1) ∧
    c < 2 ∧ o < 2 ^ (128 - d) ∧ a % 2 ^ (128 - d) + b % 2 ^ (128 - d) = o + c * 2 ^ (128 - d)) 128 ?_ ?_
  · refine ⟨⟨_, rfl⟩, by simp, by simp, by simp; rfl, 0, 0, by simp; rfl, by omega, ?_, ?_, ?_, ?_, ?_, ?_, by omega, by decide, by simp [Nat.mod_one]⟩ <;> (try simp only [XX, CC, Nat.reduceAdd, Nat.reduceSub, Nat.reduceLeDiff, Nat.reduceLT, Nat.reduceEqDiff, reduceIte, ↓reduceIte, Nat.reduceBEq]) <;> rfl
  rintro d e t ⟨hx, ba, bb, b0, c, o, bo, hd, g2, g3, g4, g6, g7, g8, hc, ho, he⟩
  have ka := blkA ba
  have kb := blkA bb
  have ko := blkA bo
  have htl : s.length + 3 < t.length := (List.getElem?_eq_some_iff.1 bo).1
  simp only [XX, CC, Nat.reduceAdd, Nat.reduceSub, Nat.reduceLeDiff, Nat.reduceLT, Nat.reduceEqDiff, reduceIte, ↓reduceIte, Nat.reduceBEq, g2, g3, g4, g6, g7, g8]
  cases d with
  | zero =>
    simp only [dec_f (show ¬ ((0 : Nat) : Int) - 1 ≥ 0 by omega), XX, CC, Nat.reduceAdd, Nat.reduceSub, Nat.reduceLeDiff, Nat.reduceLT, Nat.reduceEqDiff, reduceIte, ↓reduceIte, Nat.reduceBEq, g2, g3, g4, g6, g7, g8, ko, wr_A b0, blkA (key_set (t := t) (b := s.length + 2) (x := .cells true (cA o)) (by omega))]
    refine ret_drop (hx.set (by omega) _) rfl ⟨?_, rfl⟩
    rw [show (2 : Nat) ^ (128 - 0) = 340282366920938463463374607431768211456 from rfl, Nat.mod_eq_of_lt ha, Nat.mod_eq_of_lt hb] at he
    rw [show (2 : Nat) ^ (128 - 0) = 340282366920938463463374607431768211456 from rfl] at ho
    have e1 : (a + b) % 340282366920938463463374607431768211456 = o := by omega
    have e2 : ((c : Int) == 1) = ovr a b := by
      by_cases h : 340282366920938463463374607431768211456 ≤ a + b
      · rw [ovr_t h]; exact beq_iff_eq.2 (by omega)
      · rw [ovr_f h]; exact beq_eq_false_iff_ne.2 (by omega)
    rw [e1, e2]
  | succ d =>
    have ei : (((d + 1 : Nat) : Int) - 1) = (d : Int) := by omega
    rw [ei] at g8
    simp only [ei, dec_t (show (d : Int) ≥ 0 by omega), XX, CC, Nat.reduceAdd, Nat.reduceSub, Nat.reduceLeDiff, Nat.reduceLT, Nat.reduceEqDiff, reduceIte, ↓reduceIte, Nat.reduceBEq, g2, g3, g4, g6, g7, g8]
    have hj : 128 - d = 128 - (d + 1) + 1 := by omega
    have hj2 : 127 - d = 128 - (d + 1) := by omega
    have ma := mod_next a (128 - (d + 1))
    have mb := mod_next b (128 - (d + 1))
    rw [← hj] at ma mb
    have bba : bitN a d = a / 2 ^ (128 - (d + 1)) % 2 := by unfold bitN; rw [hj2]
    have bbb : bitN b d = b / 2 ^ (128 - (d + 1)) % 2 := by unfold bitN; rw [hj2]
    rw [← bba] at ma
    rw [← bbb] at mb
    have la := bitN_lt a d
    have lb := bitN_lt b d
    have pj : 2 ^ (128 - d) = 2 ^ (128 - (d + 1)) * 2 := by rw [hj, Nat.pow_succ]
    refine drw_in [] rfl ?_
    simp only [List.append_nil, DD, CC, Nat.reduceAdd, Nat.reduceSub, Nat.reduceLeDiff, Nat.reduceLT, Nat.reduceEqDiff, reduceIte, ↓reduceIte, Nat.reduceBEq, g2, g3, g4, g6, g7, g8, ka, kb]
    refine dr_call (bit_r _ a d (by omega) ha) ?_
    simp only [DD, CC, Nat.reduceAdd, Nat.reduceSub, Nat.reduceLeDiff, Nat.reduceLT, Nat.reduceEqDiff, reduceIte, ↓reduceIte, Nat.reduceBEq, g2, g3, g4, g6, g7, g8, ka, kb]
    refine dr_call (bit_r _ b d (by omega) hb) ?_
    simp only [DD, CC, Nat.reduceAdd, Nat.reduceSub, Nat.reduceLeDiff, Nat.reduceLT, Nat.reduceEqDiff, reduceIte, ↓reduceIte, Nat.reduceBEq, g2, g3, g4, g6, g7, g8, ka, kb, bin_addn (show bitN a d + bitN b d < 18446744073709551616 by omega), bin_addn (show bitN a d + bitN b d + c < 18446744073709551616 by omega)]
    have hlt : o < 340282366920938463463374607431768211456 := by
      refine Nat.lt_of_lt_of_le ho ?_
      rw [show (340282366920938463463374607431768211456 : Nat) = 2 ^ 128 from rfl]
      exact Nat.pow_le_pow_right (by decide) (by omega)
    simp only [bin_rem2, bin_quo2 (show bitN a d + (bitN b d + c) < 18446744073709551616 by omega), XX, CC, Nat.reduceAdd, Nat.reduceSub, Nat.reduceLeDiff, Nat.reduceLT, Nat.reduceEqDiff, reduceIte, ↓reduceIte, Nat.reduceBEq, g2, g3, g4, g6, g7, g8]
    cases c1 : (((bitN a d + (bitN b d + c)) % 2 : Nat) : Int) == 1
    · simp only [bin_rem2, bin_quo2 (show bitN a d + (bitN b d + c) < 18446744073709551616 by omega), XX, CC, Nat.reduceAdd, Nat.reduceSub, Nat.reduceLeDiff, Nat.reduceLT, Nat.reduceEqDiff, reduceIte, ↓reduceIte, Nat.reduceBEq, g2, g3, g4, g6, g7, g8]
      have c1 := beq_eq_false_iff_ne.1 c1
      refine loop_again ⟨d, by omega, hx, ba, bb, b0, (bitN a d + (bitN b d + c)) / 2, o, bo, by omega, ?_, ?_, ?_, ?_, ?_, ?_, by omega, ?_, ?_⟩ <;> (try simp only [XX, CC, Nat.reduceAdd, Nat.reduceSub, Nat.reduceLeDiff, Nat.reduceLT, Nat.reduceEqDiff, reduceIte, ↓reduceIte, Nat.reduceBEq, g2, g3, g4, g6, g7, g8])
      · rw [w64_in (by omega) (by omega)]
      · rw [pj]; omega
      · generalize ht : 2 ^ (128 - (d + 1)) = t at *
        have hb1 : bitN a d = 0 ∨ bitN a d = 1 := by omega
        have hb2 : bitN b d = 0 ∨ bitN b d = 1 := by omega
        have hc2 : c = 0 ∨ c = 1 := by omega
        rw [ma, mb, pj]
        rcases hb1 with h1 | h1 <;> rcases hb2 with h2 | h2 <;> rcases hc2 with h3 | h3 <;> simp only [h1, h2, h3] at * <;> omega
    · simp only [bin_rem2, bin_quo2 (show bitN a d + (bitN b d + c) < 18446744073709551616 by omega), XX, CC, Nat.reduceAdd, Nat.reduceSub, Nat.reduceLeDiff, Nat.reduceLT, Nat.reduceEqDiff, reduceIte, ↓reduceIte, Nat.reduceBEq, g2, g3, g4, g6, g7, g8, ko]
      have c1 := beq_iff_eq.1 c1
      refine (with_r _ o d (by omega) hlt (by unfold bitN; rw [hj2, Nat.div_eq_of_lt ho])).use ?_
      simp only [bin_rem2, bin_quo2 (show bitN a d + (bitN b d + c) < 18446744073709551616 by omega), XX, CC, Nat.reduceAdd, Nat.reduceSub, Nat.reduceLeDiff, Nat.reduceLT, Nat.reduceEqDiff, reduceIte, ↓reduceIte, Nat.reduceBEq, g2, g3, g4, g6, g7, g8, ko, wr_A bo]
      refine loop_again ⟨d, by omega, hx.set (by omega) _, set_at ba (by omega), set_at bb (by omega), set_at b0 (by omega), (bitN a d + (bitN b d + c)) / 2, o + 2 ^ (127 - d), key_set htl, by omega, ?_, ?_, ?_, ?_, ?_, ?_, by omega, ?_, ?_⟩ <;> (try simp only [XX, CC, Nat.reduceAdd, Nat.reduceSub, Nat.reduceLeDiff, Nat.reduceLT, Nat.reduceEqDiff, reduceIte, ↓reduceIte, Nat.reduceBEq, g2, g3, g4, g6, g7, g8])
      · rw [w64_in (by omega) (by omega)]
      · rw [pj, hj2]; omega
      · rw [hj2]
        generalize ht : 2 ^ (128 - (d + 1)) = t at *
        have hb1 : bitN a d = 0 ∨ bitN a d = 1 := by omega
        have hb2 : bitN b d = 0 ∨ bitN b d = 1 := by omega
        have hc2 : c = 0 ∨ c = 1 := by omega
        rw [ma, mb, pj]
        rcases hb1 with h1 | h1 <;> rcases hb2 with h2 | h2 <;> rcases hc2 with h3 | h3 <;> simp only [h1, h2, h3] at * <;> omega
set_option maxHeartbeats 1000000 in
/-- tenancyref01.Sub -/
theorem rsub_r (s : St) (a b : Nat) (ha : a < 340282366920938463463374607431768211456) (hb : b < 340282366920938463463374607431768211456) : RunD T f_r01_Sub [aA a, aA b] s (.tup [aA ((a + 340282366920938463463374607431768211456 - b) % 340282366920938463463374607431768211456), .bool (decide (a < b))]) s := by
  refine run_body (F := r_r01_Sub) rfl (by simp [r_r01_Sub]) ?_
  simp only [r_r01_Sub, XX, CC, Nat.reduceAdd, Nat.reduceSub, Nat.reduceLeDiff, Nat.reduceLT, Nat.reduceEqDiff, reduceIte, ↓reduceIte, Nat.reduceBEq]
  refine awp_loop (fun d e t => Ext s t ∧ t[s.length]? = some (.cells true (cA a)) ∧ t[s.length + 1]? = some (.cells true (cA b)) ∧ t[s.length + 2]? = some (.cells true (cA 0)) ∧ ∃ c o : Nat, t[s.length + 3]? = some (.cells true (cA o)) ∧
    d ≤ 128 ∧ e.get 2 = .ptr s.length 0 ∧ e.get 3 = .ptr (s.length + 1) 0 ∧ e.get 4 = .ptr (s.length + 2) 0 ∧ e.get 6 = .ptr (s.length + 3) 0 ∧ e.get 7 = .int .u64 (c : Int) ∧ e.get 8 = .int .i64 ((d : Int) - 1) ∧
    c < 2 ∧ o < 2 ^ (128 - d) ∧ a % 2 ^ (128 - d) + c * 2 ^ (128 - d) = b % 2 ^ (128 - d) + o) 128 ?_ ?_
  · refine ⟨⟨_, rfl⟩, by simp, by simp, by simp; rfl, 0, 0, by simp; rfl, by omega, ?_, ?_, ?_, ?_, ?_, ?_, by omega, by decide, by simp [Nat.mod_one]⟩ <;> (try simp only [XX, CC, Nat.reduceAdd, Nat.reduceSub, Nat.reduceLeDiff, Nat.reduceLT, Nat.reduceEqDiff, reduceIte, ↓reduceIte, Nat.reduceBEq]) <;> rfl
  rintro d e t ⟨hx, ba, bb, b0, c, o, bo, hd, g2, g3, g4, g6, g7, g8, hc, ho, he⟩
  have ka := blkA ba
  have kb := blkA bb
  have ko := blkA bo
  have htl : s.length + 3 < t.length := (List.getElem?_eq_some_iff.1 bo).1
  simp only [XX, CC, Nat.reduceAdd, Nat.reduceSub, Nat.reduceLeDiff, Nat.reduceLT, Nat.reduceEqDiff, reduceIte, ↓reduceIte, Nat.reduceBEq, g2, g3, g4, g6, g7, g8]
  cases d with
  | zero =>
    simp only [dec_f (show ¬ ((0 : Nat) : Int) - 1 ≥ 0 by omega), XX, CC, Nat.reduceAdd, Nat.reduceSub, Nat.reduceLeDiff, Nat.reduceLT, Nat.reduceEqDiff, reduceIte, ↓reduceIte, Nat.reduceBEq, g2, g3, g4, g6, g7, g8, ko, wr_A b0, blkA (key_set (t := t) (b := s.length + 2) (x := .cells true (cA o)) (by omega))]
    refine ret_drop (hx.set (by omega) _) rfl ⟨?_, rfl⟩
    rw [show (2 : Nat) ^ (128 - 0) = 340282366920938463463374607431768211456 from rfl, Nat.mod_eq_of_lt ha, Nat.mod_eq_of_lt hb] at he
    rw [show (2 : Nat) ^ (128 - 0) = 340282366920938463463374607431768211456 from rfl] at ho
    have e1 : (a + 340282366920938463463374607431768211456 - b) % 340282366920938463463374607431768211456 = o := by omega
    have e2 : ((c : Int) == 1) = decide (a < b) := by
      by_cases h : a < b
      · rw [dec_t h]; exact beq_iff_eq.2 (by omega)
      · rw [dec_f h]; exact beq_eq_false_iff_ne.2 (by omega)
    rw [e1, e2]
  | succ d =>
    have ei : (((d + 1 : Nat) : Int) - 1) = (d : Int) := by omega
    rw [ei] at g8
    simp only [ei, dec_t (show (d : Int) ≥ 0 by omega), XX, CC, Nat.reduceAdd, Nat.reduceSub, Nat.reduceLeDiff, Nat.reduceLT, Nat.reduceEqDiff, reduceIte, ↓reduceIte, Nat.reduceBEq, g2, g3, g4, g6, g7, g8]
    have hj : 128 - d = 128 - (d + 1) + 1 := by omega
    have hj2 : 127 - d = 128 - (d + 1) := by omega
    have ma := mod_next a (128 - (d + 1))
    have mb := mod_next b (128 - (d + 1))
    rw [← hj] at ma mb
    have bba : bitN a d = a / 2 ^ (128 - (d + 1)) % 2 := by unfold bitN; rw [hj2]
    have bbb : bitN b d = b / 2 ^ (128 - (d + 1)) % 2 := by unfold bitN; rw [hj2]
    rw [← bba] at ma
    rw [← bbb] at mb
    have la := bitN_lt a d
    have lb := bitN_lt b d
    have pj : 2 ^ (128 - d) = 2 ^ (128 - (d + 1)) * 2 := by rw [hj, Nat.pow_succ]
    have q1 : IntKind.u64.wrap ((bitN a d : Int) + 2) = ((bitN a d + 2 : Nat) : Int) := by rw [wu64_in (by omega) (by omega)]; rfl
    have q2 : IntKind.u64.wrap (((bitN a d + 2 : Nat) : Int) - (bitN b d : Int)) = ((bitN a d + 2 - bitN b d : Nat) : Int) := by rw [wu64_in (by omega) (by omega)]; omega
    have q3 : IntKind.u64.wrap (((bitN a d + 2 - bitN b d : Nat) : Int) - (c : Int)) = ((bitN a d + 2 - bitN b d - c : Nat) : Int) := by rw [wu64_in (by omega) (by omega)]; omega
    have q4 : IntKind.u64.wrap (1 - (((bitN a d + 2 - bitN b d - c) / 2 : Nat) : Int)) = ((1 - (bitN a d + 2 - bitN b d - c) / 2 : Nat) : Int) := by rw [wu64_in (by omega) (by omega)]; omega
    refine drw_in [] rfl ?_
    simp only [List.append_nil, DD, CC, Nat.reduceAdd, Nat.reduceSub, Nat.reduceLeDiff, Nat.reduceLT, Nat.reduceEqDiff, reduceIte, ↓reduceIte, Nat.reduceBEq, g2, g3, g4, g6, g7, g8, ka, kb]
    refine dr_call (bit_r _ a d (by omega) ha) ?_
    simp only [DD, CC, Nat.reduceAdd, Nat.reduceSub, Nat.reduceLeDiff, Nat.reduceLT, Nat.reduceEqDiff, reduceIte, ↓reduceIte, Nat.reduceBEq, g2, g3, g4, g6, g7, g8, ka, kb]
    refine dr_call (bit_r _ b d (by omega) hb) ?_
    simp only [DD, CC, Nat.reduceAdd, Nat.reduceSub, Nat.reduceLeDiff, Nat.reduceLT, Nat.reduceEqDiff, reduceIte, ↓reduceIte, Nat.reduceBEq, g2, g3, g4, g6, g7, g8, ka, kb, q1, q2, q3]
    have hlt : o < 340282366920938463463374607431768211456 := by
      refine Nat.lt_of_lt_of_le ho ?_
      rw [show (340282366920938463463374607431768211456 : Nat) = 2 ^ 128 from rfl]
      exact Nat.pow_le_pow_right (by decide) (by omega)
    simp only [bin_rem2, bin_quo2 (show bitN a d + 2 - bitN b d - c < 18446744073709551616 by omega), q4, XX, CC, Nat.reduceAdd, Nat.reduceSub, Nat.reduceLeDiff, Nat.reduceLT, Nat.reduceEqDiff, reduceIte, ↓reduceIte, Nat.reduceBEq, g2, g3, g4, g6, g7, g8]
    cases c1 : (((bitN a d + 2 - bitN b d - c) % 2 : Nat) : Int) == 1
    · simp only [bin_rem2, bin_quo2 (show bitN a d + 2 - bitN b d - c < 18446744073709551616 by omega), q4, XX, CC, Nat.reduceAdd, Nat.reduceSub, Nat.reduceLeDiff, Nat.reduceLT, Nat.reduceEqDiff, reduceIte, ↓reduceIte, Nat.reduceBEq, g2, g3, g4, g6, g7, g8]
      have c1 := beq_eq_false_iff_ne.1 c1
      refine loop_again ⟨d, by omega, hx, ba, bb, b0, 1 - (bitN a d + 2 - bitN b d - c) / 2, o, bo, by omega, ?_, ?_, ?_, ?_, ?_, ?_, by omega, ?_, ?_⟩ <;> (try simp only [XX, CC, Nat.reduceAdd, Nat.reduceSub, Nat.reduceLeDiff, Nat.reduceLT, Nat.reduceEqDiff, reduceIte, ↓reduceIte, Nat.reduceBEq, g2, g3, g4, g6, g7, g8])
      · rw [w64_in (by omega) (by omega)]
      · rw [pj]; omega
      · generalize ht : 2 ^ (128 - (d + 1)) = t at *
        have hb1 : bitN a d = 0 ∨ bitN a d = 1 := by omega
        have hb2 : bitN b d = 0 ∨ bitN b d = 1 := by omega
        have hc2 : c = 0 ∨ c = 1 := by omega
        rw [ma, mb, pj]
        rcases hb1 with h1 | h1 <;> rcases hb2 with h2 | h2 <;> rcases hc2 with h3 | h3 <;> simp only [h1, h2, h3] at * <;> omega
    · simp only [bin_rem2, bin_quo2 (show bitN a d + 2 - bitN b d - c < 18446744073709551616 by omega), q4, XX, CC, Nat.reduceAdd, Nat.reduceSub, Nat.reduceLeDiff, Nat.reduceLT, Nat.reduceEqDiff, reduceIte, ↓reduceIte, Nat.reduceBEq, g2, g3, g4, g6, g7, g8, ko]
      have c1 := beq_iff_eq.1 c1
      refine (with_r _ o d (by omega) hlt (by unfold bitN; rw [hj2, Nat.div_eq_of_lt ho])).use ?_
      simp only [bin_rem2, bin_quo2 (show bitN a d + 2 - bitN b d - c < 18446744073709551616 by omega), q4, XX, CC, Nat.reduceAdd, Nat.reduceSub, Nat.reduceLeDiff, Nat.reduceLT, Nat.reduceEqDiff, reduceIte, ↓reduceIte, Nat.reduceBEq, g2, g3, g4, g6, g7, g8, ko, wr_A bo]
      refine loop_again ⟨d, by omega, hx.set (by omega) _, set_at ba (by omega), set_at bb (by omega), set_at b0 (by omega), 1 - (bitN a d + 2 - bitN b d - c) / 2, o + 2 ^ (127 - d), key_set htl, by omega, ?_, ?_, ?_, ?_, ?_, ?_, by omega, ?_, ?_⟩ <;> (try simp only [XX, CC, Nat.reduceAdd, Nat.reduceSub, Nat.reduceLeDiff, Nat.reduceLT, Nat.reduceEqDiff, reduceIte, ↓reduceIte, Nat.reduceBEq, g2, g3, g4, g6, g7, g8])
      · rw [w64_in (by omega) (by omega)]
      · rw [pj, hj2]; omega
      · rw [hj2]
        generalize ht : 2 ^ (128 - (d + 1)) = t at *
        have hb1 : bitN a d = 0 ∨ bitN a d = 1 := by omega
        have hb2 : bitN b d = 0 ∨ bitN b d = 1 := by omega
        have hc2 : c = 0 ∨ c = 1 := by omega
        rw [ma, mb, pj]
        rcases hb1 with h1 | h1 <;> rcases hb2 with h2 | h2 <;> rcases hc2 with h3 | h3 <;> simp only [h1, h2, h3] at * <;> omega
end Go.Ev

/-! The reference's sets: the small functions. -/
namespace Go.Ev
set_option linter.unusedVariables false
set_option linter.unusedSimpArgs false
open Go.Ev.Sp

theorem le_r (s : St) (a b : Nat) (ha : a < 340282366920938463463374607431768211456) (hb : b < 340282366920938463463374607431768211456) : RunD T f_r03_le [aA a, aA b] s (.bool (decide (a ≤ b))) s := by
  refine run_body (F := r_r03_le) rfl (by simp [r_r03_le]) ?_
  simp only [r_r03_le, XX, CC, Nat.reduceAdd, Nat.reduceSub, Nat.reduceLeDiff, Nat.reduceLT, Nat.reduceEqDiff, reduceIte, ↓reduceIte, Nat.reduceBEq]
  refine (rcmp_r _ a b ha hb).use ?_
  simp only [XX, CC, Nat.reduceAdd, Nat.reduceSub, Nat.reduceLeDiff, Nat.reduceLT, Nat.reduceEqDiff, reduceIte, ↓reduceIte, Nat.reduceBEq, cmpN_dle]
  exact ret_drop ⟨_, rfl⟩ rfl ⟨rfl, rfl⟩
theorem one_cells : (AV.agg [.int .u64 0, .int .u64 1]) = aA 1 := rfl
theorem next_r (s : St) (a : Nat) (ha : a < 340282366920938463463374607431768211456) : RunD T f_r03_next [aA a] s (.tup [aA ((a + 1) % 340282366920938463463374607431768211456), .bool !(ovr a 1)]) s := by
  refine run_body (F := r_r03_next) rfl (by simp [r_r03_next]) ?_
  simp only [r_r03_next, XX, CC, Nat.reduceAdd, Nat.reduceSub, Nat.reduceLeDiff, Nat.reduceLT, Nat.reduceEqDiff, reduceIte, ↓reduceIte, Nat.reduceBEq, one_cells]
  refine (radd_r _ a 1 ha (by decide)).use ?_
  simp only [XX, CC, Nat.reduceAdd, Nat.reduceSub, Nat.reduceLeDiff, Nat.reduceLT, Nat.reduceEqDiff, reduceIte, ↓reduceIte, Nat.reduceBEq]
  exact ret_drop ⟨_, rfl⟩ rfl ⟨rfl, rfl⟩
theorem ahead_r (s : St) (a : Nat) (ha : a < 340282366920938463463374607431768211456) : RunD T f_r03_ahead [aA a] s (.tup [aA ((a + 340282366920938463463374607431768211456 - 1) % 340282366920938463463374607431768211456), .bool (!decide (a < 1))]) s := by
  refine run_body (F := r_r03_ahead) rfl (by simp [r_r03_ahead]) ?_
  simp only [r_r03_ahead, XX, CC, Nat.reduceAdd, Nat.reduceSub, Nat.reduceLeDiff, Nat.reduceLT, Nat.reduceEqDiff, reduceIte, ↓reduceIte, Nat.reduceBEq, one_cells]
  refine (rsub_r _ a 1 ha (by decide)).use ?_
  simp only [XX, CC, Nat.reduceAdd, Nat.reduceSub, Nat.reduceLeDiff, Nat.reduceLT, Nat.reduceEqDiff, reduceIte, ↓reduceIte, Nat.reduceBEq]
  exact ret_drop ⟨_, rfl⟩ rfl ⟨rfl, rfl⟩
theorem size_r (s : St) (r : Nat × Nat) (h : r.1 ≤ r.2) (hb : r.2 < 340282366920938463463374607431768211456) : RunD T f_r03_size [aR r] s (aA ((r.2 - r.1 + 1) % 340282366920938463463374607431768211456)) s := by
  refine run_body (F := r_r03_size) rfl (by simp [r_r03_size]) ?_
  simp only [r_r03_size, XX, CC, Nat.reduceAdd, Nat.reduceSub, Nat.reduceLeDiff, Nat.reduceLT, Nat.reduceEqDiff, reduceIte, ↓reduceIte, Nat.reduceBEq]
  refine (rsub_r _ r.2 r.1 hb (by omega)).use ?_
  have hm : (r.2 + 340282366920938463463374607431768211456 - r.1) % 340282366920938463463374607431768211456 = r.2 - r.1 := by omega
  simp only [XX, CC, Nat.reduceAdd, Nat.reduceSub, Nat.reduceLeDiff, Nat.reduceLT, Nat.reduceEqDiff, reduceIte, ↓reduceIte, Nat.reduceBEq, hm]
  refine (next_r _ (r.2 - r.1) (by omega)).use ?_
  simp only [XX, CC, Nat.reduceAdd, Nat.reduceSub, Nat.reduceLeDiff, Nat.reduceLT, Nat.reduceEqDiff, reduceIte, ↓reduceIte, Nat.reduceBEq]
  exact ret_drop ⟨_, rfl⟩ rfl ⟨rfl, rfl⟩

theorem lo_prev {t : St} {v : AV} {set : List (Nat × Nat)} (hw : Wf set) (hv : Rd 4 cR t v set) {i : Nat} (hi : i ≤ set.length) : ∃ (p : Nat × Nat) (b o : Nat), 0 < i → (p.1 < 340282366920938463463374607431768211456 ∧ p.2 < 340282366920938463463374607431768211456) ∧ lo set i = p.2 + 2 ∧
    (∀ k : IntKind, ixaA 4 v (.int k ((i - 1 : Nat) : Int)) = some (.ptr b o)) ∧ ldA t (some 4) (.ptr b o) = some (aR p) ∧ ldA t (some 2) (.ptr b o) = some (aA p.1) ∧ ldA t (some 2) (.ptr b (o + 2)) = some (aA p.2) ∧
      (∀ l, ldA (t ++ l) (some 4) (.ptr b o) = some (aR p)) ∧ (∀ l, ldA (t ++ l) (some 2) (.ptr b o) = some (aA p.1)) ∧ ∀ l, ldA (t ++ l) (some 2) (.ptr b (o + 2)) = some (aA p.2) := by
  cases i with
  | zero => exact ⟨(0, 0), 0, 0, fun h => absurd h (by omega)⟩
  | succ j =>
    obtain ⟨p, hp, _⟩ := drop_get (l := set) (i := j) (by omega)
    obtain ⟨b, o, h1, h2⟩ := rdR hv hp
    exact ⟨p, b, o, fun _ => ⟨hw.get hp, by simp [lo, hp], h1, h2⟩⟩
set_option maxHeartbeats 2000000 in
/-- tenancyref03.Sound -/
theorem rsound_r (s : St) (v : AV) (set : List (Nat × Nat)) (hl : set.length < 4611686018427387904) (hw : Wf set) (hv : Rd 4 cR s v set) : RunD T f_r03_Sound [v] s (.bool (sndB 0 set)) s := by
  refine run_body (F := r_r03_Sound) rfl (by simp [r_r03_Sound]) ?_
  simp only [r_r03_Sound, XX, CC, Nat.reduceAdd, Nat.reduceSub, Nat.reduceLeDiff, Nat.reduceLT, Nat.reduceEqDiff, reduceIte, ↓reduceIte, Nat.reduceBEq, hv.len]
  refine awp_loop (fun d e t => Ext s t ∧ ∃ i : Nat, i + d = set.length ∧ e.get 0 = v ∧ e.get 3 = .int .i64 i ∧ sndB 0 set = sndB (lo set i) (set.drop i)) set.length ?_ ?_
  · refine ⟨.refl s, 0, by omega, ?_, ?_, rfl⟩ <;> (try simp only [XX, CC, Nat.reduceAdd, Nat.reduceSub, Nat.reduceLeDiff, Nat.reduceLT, Nat.reduceEqDiff, reduceIte, ↓reduceIte, Nat.reduceBEq]) <;> rfl
  · rintro d e t ⟨hx, i, hi, h0, h3, hs⟩
    have hv := hv.ext hx
    simp only [XX, CC, Nat.reduceAdd, Nat.reduceSub, Nat.reduceLeDiff, Nat.reduceLT, Nat.reduceEqDiff, reduceIte, ↓reduceIte, Nat.reduceBEq, h0, h3, hv.len]
    by_cases h : i < set.length
    · obtain ⟨q, hq, hd⟩ := drop_get h
      obtain ⟨b, o, h1, h2⟩ := rdR hv hq
      have hqw := hw.get hq
      obtain ⟨p, b', o', hpv⟩ := lo_prev hw hv (Nat.le_of_lt h)
      simp only [dec_t (show (i : Int) < set.length by omega), XX, CC, Nat.reduceAdd, Nat.reduceSub, Nat.reduceLeDiff, Nat.reduceLT, Nat.reduceEqDiff, reduceIte, ↓reduceIte, Nat.reduceBEq, h0, h3]
      refine drw_in [] rfl ?_
      simp only [List.append_nil, DD, CC, Nat.reduceAdd, Nat.reduceSub, Nat.reduceLeDiff, Nat.reduceLT, Nat.reduceEqDiff, reduceIte, ↓reduceIte, Nat.reduceBEq, h0, h3, h1, h2]
      refine dr_call (le_r _ q.1 q.2 hqw.1 hqw.2) ?_
      rw [hd] at hs; simp only [sndB] at hs
      cases hr : decide (q.1 ≤ q.2)
      · simp only [DD, CC, Nat.reduceAdd, Nat.reduceSub, Nat.reduceLeDiff, Nat.reduceLT, Nat.reduceEqDiff, reduceIte, ↓reduceIte, Nat.reduceBEq, h0, h3, Bool.not_false]
        refine ret_drop hx rfl ⟨?_, rfl⟩
        rw [hs, hr]; simp
      · simp only [DD, CC, Nat.reduceAdd, Nat.reduceSub, Nat.reduceLeDiff, Nat.reduceLT, Nat.reduceEqDiff, reduceIte, ↓reduceIte, Nat.reduceBEq, h0, h3, Bool.not_true]
        by_cases hz : 0 < i
        · have hpw := (hpv hz).1
          have hlo := (hpv hz).2.1
          have h3' := (hpv hz).2.2.1
          have h4 := (hpv hz).2.2.2
          simp only [dec_t (show (i : Int) > 0 by omega), XX, CC, Nat.reduceAdd, Nat.reduceSub, Nat.reduceLeDiff, Nat.reduceLT, Nat.reduceEqDiff, reduceIte, ↓reduceIte, Nat.reduceBEq, h0, h3, h3', h4, w64_sub hz (by omega)]
          refine (next_r _ p.2 hpw.2).use ?_
          rw [hlo] at hs
          simp only [XX, CC, Nat.reduceAdd, Nat.reduceSub, Nat.reduceLeDiff, Nat.reduceLT, Nat.reduceEqDiff, reduceIte, ↓reduceIte, Nat.reduceBEq, h0, h3]
          refine drw_in [] rfl ?_
          by_cases hov : 340282366920938463463374607431768211456 ≤ p.2 + 1
          · simp only [List.append_nil, ovr_t hov, Bool.not_true, Bool.not_false, DD, CC, Nat.reduceAdd, Nat.reduceSub, Nat.reduceLeDiff, Nat.reduceLT, Nat.reduceEqDiff, reduceIte, ↓reduceIte, Nat.reduceBEq, h0, h3]
            refine ret_drop (hx.app _) rfl ⟨?_, rfl⟩
            rw [hs, dec_f (by omega)]; rfl
          · have hm : (p.2 + 1) % 340282366920938463463374607431768211456 = p.2 + 1 := Nat.mod_eq_of_lt (by omega)
            simp only [List.append_nil, ovr_f hov, hm, Bool.not_true, Bool.not_false, DD, CC, Nat.reduceAdd, Nat.reduceSub, Nat.reduceLeDiff, Nat.reduceLT, Nat.reduceEqDiff, reduceIte, ↓reduceIte, Nat.reduceBEq, h0, h3, h1, h2]
            refine dr_call (le_r _ q.1 (p.2 + 1) hqw.1 (by omega)) ?_
            cases ha : decide (q.1 ≤ p.2 + 1)
            · simp only [DD, CC, Nat.reduceAdd, Nat.reduceSub, Nat.reduceLeDiff, Nat.reduceLT, Nat.reduceEqDiff, reduceIte, ↓reduceIte, Nat.reduceBEq, h0, h3]
              simp at ha hr
              refine loop_again ⟨d - 1, by omega, hx.app _, i + 1, by omega, ?_, ?_, ?_⟩ <;> (try simp only [XX, CC, Nat.reduceAdd, Nat.reduceSub, Nat.reduceLeDiff, Nat.reduceLT, Nat.reduceEqDiff, reduceIte, ↓reduceIte, Nat.reduceBEq, h0, h3])
              · rw [w64_nat (by omega)]
              · rw [hs, dec_t (by omega), dec_t hr]
                simp [lo, hq]
            · simp only [DD, CC, Nat.reduceAdd, Nat.reduceSub, Nat.reduceLeDiff, Nat.reduceLT, Nat.reduceEqDiff, reduceIte, ↓reduceIte, Nat.reduceBEq, h0, h3]
              simp at ha
              refine ret_drop (hx.app _) rfl ⟨?_, rfl⟩
              rw [hs, dec_f (by omega)]; rfl
        · have hi0 : i = 0 := by omega
          subst hi0
          simp only [dec_f (show ¬ ((0 : Nat) : Int) > 0 by omega), XX, CC, Nat.reduceAdd, Nat.reduceSub, Nat.reduceLeDiff, Nat.reduceLT, Nat.reduceEqDiff, reduceIte, ↓reduceIte, Nat.reduceBEq, h0, h3]
          refine loop_again ⟨d - 1, by omega, hx, 0 + 1, by omega, ?_, ?_, ?_⟩ <;> (try simp only [XX, CC, Nat.reduceAdd, Nat.reduceSub, Nat.reduceLeDiff, Nat.reduceLT, Nat.reduceEqDiff, reduceIte, ↓reduceIte, Nat.reduceBEq, h0, h3])
          · rw [w64_nat (by omega)]
          · simp at hr
            rw [hs, dec_t hr]
            simp [lo, hq]
    · simp only [dec_f (show ¬ (i : Int) < set.length by omega), XX, CC, Nat.reduceAdd, Nat.reduceSub, Nat.reduceLeDiff, Nat.reduceLT, Nat.reduceEqDiff, reduceIte, ↓reduceIte, Nat.reduceBEq]
      refine ret_drop hx rfl ⟨?_, rfl⟩
      rw [hs, List.drop_of_length_le (by omega)]; rfl

set_option maxHeartbeats 2000000 in
/-- tenancyref03.in -/
theorem in_r (s : St) (v : AV) (set : List (Nat × Nat)) (a : Nat) (ha : a < 340282366920938463463374607431768211456) (hl : set.length < 4611686018427387904) (hw : Wf set) (hv : Rd 4 cR s v set) : RunD T f_r03_in [v, aA a] s (.bool (inL set a)) s := by
  refine run_body (F := r_r03_in) rfl (by simp [r_r03_in]) ?_
  simp only [r_r03_in, XX, CC, Nat.reduceAdd, Nat.reduceSub, Nat.reduceLeDiff, Nat.reduceLT, Nat.reduceEqDiff, reduceIte, ↓reduceIte, Nat.reduceBEq, hv.len]
  refine awp_loop (fun d e t => t = s ++ [.cells true (cA a)] ∧ ∃ i : Nat, i + d = set.length ∧ e.get 0 = v ∧ e.get 3 = .ptr s.length 0 ∧ e.get 5 = .int .i64 i ∧ inL set a = inL (set.drop i) a) set.length ?_ ?_
  · refine ⟨rfl, 0, by omega, ?_, ?_, ?_, rfl⟩ <;> (try simp only [XX, CC, Nat.reduceAdd, Nat.reduceSub, Nat.reduceLeDiff, Nat.reduceLT, Nat.reduceEqDiff, reduceIte, ↓reduceIte, Nat.reduceBEq]) <;> rfl
  · rintro d e t ⟨rfl, i, hi, h0, h3, h5, hs⟩
    have hv1 := hv.ext (t := s ++ [.cells true (cA a)]) ⟨_, rfl⟩
    simp only [XX, CC, Nat.reduceAdd, Nat.reduceSub, Nat.reduceLeDiff, Nat.reduceLT, Nat.reduceEqDiff, reduceIte, ↓reduceIte, Nat.reduceBEq, h0, h3, h5, hv.len]
    by_cases h : i < set.length
    · obtain ⟨q, hq, hd⟩ := drop_get h
      obtain ⟨b, o, h1, h2⟩ := rdR hv hq
      have hqw := hw.get hq
      rw [hd] at hs; unfold inL at hs; rw [List.any_cons] at hs
      simp only [dec_t (show (i : Int) < set.length by omega), XX, CC, Nat.reduceAdd, Nat.reduceSub, Nat.reduceLeDiff, Nat.reduceLT, Nat.reduceEqDiff, reduceIte, ↓reduceIte, Nat.reduceBEq, h0, h3, h5]
      refine drw_in [] rfl ?_
      simp only [List.append_nil, DD, CC, Nat.reduceAdd, Nat.reduceSub, Nat.reduceLeDiff, Nat.reduceLT, Nat.reduceEqDiff, reduceIte, ↓reduceIte, Nat.reduceBEq, h0, h3, h5, h1, h2]
      refine dr_call (le_r _ q.1 a hqw.1 ha) ?_
      cases c1 : decide (q.1 ≤ a)
      · simp only [DD, CC, Nat.reduceAdd, Nat.reduceSub, Nat.reduceLeDiff, Nat.reduceLT, Nat.reduceEqDiff, reduceIte, ↓reduceIte, Nat.reduceBEq, h0, h3, h5]
        refine loop_again ⟨d - 1, by omega, rfl, i + 1, by omega, ?_, ?_, ?_, ?_⟩ <;> (try simp only [XX, CC, Nat.reduceAdd, Nat.reduceSub, Nat.reduceLeDiff, Nat.reduceLT, Nat.reduceEqDiff, reduceIte, ↓reduceIte, Nat.reduceBEq, h0, h3, h5])
        · rw [w64_nat (by omega)]
        · rw [c1] at hs; unfold inL; rw [hs]; rfl
      · simp only [DD, CC, Nat.reduceAdd, Nat.reduceSub, Nat.reduceLeDiff, Nat.reduceLT, Nat.reduceEqDiff, reduceIte, ↓reduceIte, Nat.reduceBEq, h0, h3, h5, h1, h2]
        refine dr_call (le_r _ a q.2 ha hqw.2) ?_
        cases c2 : decide (a ≤ q.2)
        · simp only [DD, CC, Nat.reduceAdd, Nat.reduceSub, Nat.reduceLeDiff, Nat.reduceLT, Nat.reduceEqDiff, reduceIte, ↓reduceIte, Nat.reduceBEq, h0, h3, h5]
          refine loop_again ⟨d - 1, by omega, rfl, i + 1, by omega, ?_, ?_, ?_, ?_⟩ <;> (try simp only [XX, CC, Nat.reduceAdd, Nat.reduceSub, Nat.reduceLeDiff, Nat.reduceLT, Nat.reduceEqDiff, reduceIte, ↓reduceIte, Nat.reduceBEq, h0, h3, h5])
          · rw [w64_nat (by omega)]
          · rw [c1, c2] at hs; unfold inL; rw [hs]; rfl
        · simp only [DD, CC, Nat.reduceAdd, Nat.reduceSub, Nat.reduceLeDiff, Nat.reduceLT, Nat.reduceEqDiff, reduceIte, ↓reduceIte, Nat.reduceBEq, h0, h3, h5]
          refine ret_drop ⟨_, rfl⟩ rfl ⟨?_, rfl⟩
          rw [c1, c2] at hs; unfold inL; rw [hs]; rfl
    · simp only [dec_f (show ¬ (i : Int) < set.length by omega), XX, CC, Nat.reduceAdd, Nat.reduceSub, Nat.reduceLeDiff, Nat.reduceLT, Nat.reduceEqDiff, reduceIte, ↓reduceIte, Nat.reduceBEq]
      refine ret_drop ⟨_, rfl⟩ rfl ⟨?_, rfl⟩
      rw [hs, List.drop_of_length_le (by omega)]; rfl
end Go.Ev

/-! The reference's Has, Count, Nth. -/
namespace Go.Ev
set_option linter.unusedVariables false
set_option linter.unusedSimpArgs false
open Go.Ev.Sp

def rcntV (set : List (Nat × Nat)) : AV := if sndB 0 set = true then .tup [aA (cnt set % 340282366920938463463374607431768211456), .bool (decide (set.length = 1 ∧ cnt set % 340282366920938463463374607431768211456 = 0))] else .tup [aA 0, .bool false]
set_option maxHeartbeats 2000000 in
/-- tenancyref03.Count -/
theorem rcount_r (s : St) (v : AV) (set : List (Nat × Nat)) (hl : set.length < 4611686018427387904) (hw : Wf set) (hv : Rd 4 cR s v set) : RunD T f_r03_Count [v] s (rcntV set) s := by
  refine run_body (F := r_r03_Count) rfl (by simp [r_r03_Count]) ?_
  simp only [r_r03_Count, XX, CC, Nat.reduceAdd, Nat.reduceSub, Nat.reduceLeDiff, Nat.reduceLT, Nat.reduceEqDiff, reduceIte, ↓reduceIte, Nat.reduceBEq, hv.len]
  refine (rsound_r _ v set (by omega) hw (hv.ext ⟨_, rfl⟩)).use ?_
  cases hs : sndB 0 set
  · simp only [XX, CC, Nat.reduceAdd, Nat.reduceSub, Nat.reduceLeDiff, Nat.reduceLT, Nat.reduceEqDiff, reduceIte, ↓reduceIte, Nat.reduceBEq, Bool.not_false]
    exact ret_drop ⟨_, rfl⟩ rfl ⟨by simp [rcntV, hs]; rfl, rfl⟩
  simp only [XX, CC, Nat.reduceAdd, Nat.reduceSub, Nat.reduceLeDiff, Nat.reduceLT, Nat.reduceEqDiff, reduceIte, ↓reduceIte, Nat.reduceBEq, Bool.not_true]
  have hsn := Snd.wf ((sndB_iff hw).1 hs)
  refine awp_loop (fun d e t => Ext s t ∧ ∃ (i n : Nat), i + d = set.length ∧ e.get 0 = v ∧ e.get 2 = .ptr s.length 0 ∧ e.get 4 = .ptr (s.length + 1) 0 ∧ e.get 5 = .int .i64 i ∧
    t[s.length]? = some (.cells true (cA 0)) ∧ t[s.length + 1]? = some (.cells true (cA n)) ∧ n < 340282366920938463463374607431768211456 ∧ cnt set % 340282366920938463463374607431768211456 = (n + cnt (set.drop i)) % 340282366920938463463374607431768211456) set.length ?_ ?_
  · refine ⟨⟨_, rfl⟩, 0, 0, by omega, ?_, ?_, ?_, ?_, by simp; rfl, by simp; rfl, by decide, by simp⟩ <;> (try simp only [XX, CC, Nat.reduceAdd, Nat.reduceSub, Nat.reduceLeDiff, Nat.reduceLT, Nat.reduceEqDiff, reduceIte, ↓reduceIte, Nat.reduceBEq]) <;> rfl
  rintro d e t ⟨hx, i, n, hi, g0, g2, g4, g5, hb0, hb1, hn, hd0⟩
  have hv := hv.ext hx
  have hbn := blkA hb1
  have htl : s.length + 1 < t.length := (List.getElem?_eq_some_iff.1 hb1).1
  simp only [XX, CC, Nat.reduceAdd, Nat.reduceSub, Nat.reduceLeDiff, Nat.reduceLT, Nat.reduceEqDiff, reduceIte, ↓reduceIte, Nat.reduceBEq, g0, g2, g4, g5, hv.len]
  by_cases h : i < set.length
  · obtain ⟨q, hq, hd⟩ := drop_get h
    obtain ⟨b2, o2, h1, h2⟩ := rdR hv hq
    have hqw := hsn q (List.mem_of_getElem? hq)
    rw [hd, cnt_cons] at hd0
    simp only [dec_t (show (i : Int) < set.length by omega), XX, CC, Nat.reduceAdd, Nat.reduceSub, Nat.reduceLeDiff, Nat.reduceLT, Nat.reduceEqDiff, reduceIte, ↓reduceIte, Nat.reduceBEq, g0, g2, g4, g5]
    refine drw_in [] rfl ?_
    simp only [List.append_nil, DD, CC, Nat.reduceAdd, Nat.reduceSub, Nat.reduceLeDiff, Nat.reduceLT, Nat.reduceEqDiff, reduceIte, ↓reduceIte, Nat.reduceBEq, g0, g2, g4, g5, h1, h2, hbn]
    refine dr_call (size_r _ q hqw.1 hqw.2) ?_
    simp only [DD, CC, Nat.reduceAdd, Nat.reduceSub, Nat.reduceLeDiff, Nat.reduceLT, Nat.reduceEqDiff, reduceIte, ↓reduceIte, Nat.reduceBEq, g0, g2, g4, g5, h1, h2]
    refine dr_call (radd_r _ n ((q.2 - q.1 + 1) % 340282366920938463463374607431768211456) hn (Nat.mod_lt _ (by decide))) ?_
    simp only [DD, CC, Nat.reduceAdd, Nat.reduceSub, Nat.reduceLeDiff, Nat.reduceLT, Nat.reduceEqDiff, reduceIte, ↓reduceIte, Nat.reduceBEq, g0, g2, g4, g5, wr_A hb1]
    refine loop_again ⟨d - 1, by omega, hx.set (by omega) _, i + 1, _, by omega, ?_, ?_, ?_, ?_, set_at hb0 (by omega), key_set htl, Nat.mod_lt _ (by decide), ?_⟩ <;> (try simp only [XX, CC, Nat.reduceAdd, Nat.reduceSub, Nat.reduceLeDiff, Nat.reduceLT, Nat.reduceEqDiff, reduceIte, ↓reduceIte, Nat.reduceBEq, g0, g2, g4, g5])
    · rw [w64_nat (by omega)]
    · rw [hd0]; omega
  · rw [List.drop_of_length_le (by omega)] at hd0
    rw [show cnt [] = 0 from rfl, Nat.add_zero, Nat.mod_eq_of_lt hn] at hd0
    simp only [dec_f (show ¬ (i : Int) < set.length by omega), XX, CC, Nat.reduceAdd, Nat.reduceSub, Nat.reduceLeDiff, Nat.reduceLT, Nat.reduceEqDiff, reduceIte, ↓reduceIte, Nat.reduceBEq, g0, g2, g4]
    refine drw_in [] rfl ?_
    simp only [List.append_nil, DD, CC, Nat.reduceAdd, Nat.reduceSub, Nat.reduceLeDiff, Nat.reduceLT, Nat.reduceEqDiff, reduceIte, ↓reduceIte, Nat.reduceBEq, g0, g2, g4, hbn, hv.len]
    cases hz : (set.length : Int) == 1
    · simp only [DD, CC, Nat.reduceAdd, Nat.reduceSub, Nat.reduceLeDiff, Nat.reduceLT, Nat.reduceEqDiff, reduceIte, ↓reduceIte, Nat.reduceBEq, g0, g2, g4, hbn, eq_A0, hz, wr_A hb0]
      refine ⟨?_, ?_⟩
      · intro j hj b hb
        simp at hj hb
        rw [List.getElem?_set, if_neg (by omega)]
      · simp only [blkA (key_set (t := t) (b := s.length) (x := .cells true (cA n)) (by omega)), XX, CC, Nat.reduceAdd, Nat.reduceSub, Nat.reduceLeDiff, Nat.reduceLT, Nat.reduceEqDiff, reduceIte, ↓reduceIte, Nat.reduceBEq]
        refine ret_drop (hx.set (Nat.le_refl _) _) rfl ⟨?_, rfl⟩
        have hz := beq_eq_false_iff_ne.1 hz
        simp [rcntV, hs, hd0, show ¬ set.length = 1 by omega]
    · simp only [DD, CC, Nat.reduceAdd, Nat.reduceSub, Nat.reduceLeDiff, Nat.reduceLT, Nat.reduceEqDiff, reduceIte, ↓reduceIte, Nat.reduceBEq, g0, g2, g4, hbn, eq_A0, hz, wr_A hb0]
      refine ⟨?_, ?_⟩
      · intro j hj b hb
        simp at hj hb
        rw [List.getElem?_set, if_neg (by omega)]
      · simp only [blkA (key_set (t := t) (b := s.length) (x := .cells true (cA n)) (by omega)), XX, CC, Nat.reduceAdd, Nat.reduceSub, Nat.reduceLeDiff, Nat.reduceLT, Nat.reduceEqDiff, reduceIte, ↓reduceIte, Nat.reduceBEq]
        refine ret_drop (hx.set (Nat.le_refl _) _) rfl ⟨?_, rfl⟩
        have hz := beq_iff_eq.1 hz
        simp [rcntV, hs, hd0, show set.length = 1 by omega]

set_option maxHeartbeats 2000000 in
/-- tenancyref03.Nth -/
theorem rnth_r (s : St) (v : AV) (set : List (Nat × Nat)) (n : Nat) (hn : n < 340282366920938463463374607431768211456) (hl : set.length < 4611686018427387904) (hw : Wf set) (hv : Rd 4 cR s v set) : RunD T f_r03_Nth [v, aA n] s (nthV set n) s := by
  refine run_body (F := r_r03_Nth) rfl (by simp [r_r03_Nth]) ?_
  simp only [r_r03_Nth, XX, CC, Nat.reduceAdd, Nat.reduceSub, Nat.reduceLeDiff, Nat.reduceLT, Nat.reduceEqDiff, reduceIte, ↓reduceIte, Nat.reduceBEq, hv.len]
  refine (rsound_r _ v set (by omega) hw (hv.ext ⟨_, rfl⟩)).use ?_
  cases hs : sndB 0 set
  · simp only [XX, CC, Nat.reduceAdd, Nat.reduceSub, Nat.reduceLeDiff, Nat.reduceLT, Nat.reduceEqDiff, reduceIte, ↓reduceIte, Nat.reduceBEq, Bool.not_false]
    exact ret_drop ⟨_, rfl⟩ rfl ⟨by simp [nthV, hs]; rfl, rfl⟩
  simp only [XX, CC, Nat.reduceAdd, Nat.reduceSub, Nat.reduceLeDiff, Nat.reduceLT, Nat.reduceEqDiff, reduceIte, ↓reduceIte, Nat.reduceBEq, Bool.not_true]
  have hsn := Snd.wf ((sndB_iff hw).1 hs)
  refine awp_loop (fun d e t => Ext s t ∧ ∃ (i n' : Nat), i + d = set.length ∧ e.get 0 = v ∧ e.get 3 = .ptr s.length 0 ∧ e.get 4 = .ptr (s.length + 1) 0 ∧ e.get 6 = .int .i64 i ∧
    t[s.length]? = some (.cells true (cA n')) ∧ t[s.length + 1]? = some (.cells true (cA 0)) ∧ n' < 340282366920938463463374607431768211456 ∧ nthL set n = nthL (set.drop i) n') set.length ?_ ?_
  · refine ⟨⟨_, rfl⟩, 0, n, by omega, ?_, ?_, ?_, ?_, by simp, by simp; rfl, hn, rfl⟩ <;> (try simp only [XX, CC, Nat.reduceAdd, Nat.reduceSub, Nat.reduceLeDiff, Nat.reduceLT, Nat.reduceEqDiff, reduceIte, ↓reduceIte, Nat.reduceBEq]) <;> rfl
  rintro d e t ⟨hx, i, n', hi, g0, g3, g4, g6, hb0, hb1, hn', hd0⟩
  have hv := hv.ext hx
  have hbn := blkA hb0
  have htl : s.length + 1 < t.length := (List.getElem?_eq_some_iff.1 hb1).1
  simp only [XX, CC, Nat.reduceAdd, Nat.reduceSub, Nat.reduceLeDiff, Nat.reduceLT, Nat.reduceEqDiff, reduceIte, ↓reduceIte, Nat.reduceBEq, g0, g3, g4, g6, hv.len]
  by_cases h : i < set.length
  · obtain ⟨q, hq, hd⟩ := drop_get h
    obtain ⟨b2, o2, h1, h2⟩ := rdR hv hq
    have hqw := hsn q (List.mem_of_getElem? hq)
    rw [hd] at hd0
    simp only [nthL] at hd0
    have hm1 : (q.2 + 340282366920938463463374607431768211456 - q.1) % 340282366920938463463374607431768211456 = q.2 - q.1 := by omega
    simp only [dec_t (show (i : Int) < set.length by omega), XX, CC, Nat.reduceAdd, Nat.reduceSub, Nat.reduceLeDiff, Nat.reduceLT, Nat.reduceEqDiff, reduceIte, ↓reduceIte, Nat.reduceBEq, g0, g3, g4, g6]
    refine drw_in [.cells true [.int .u64 0, .int .u64 0]] rfl ?_
    simp only [DD, CC, Nat.reduceAdd, Nat.reduceSub, Nat.reduceLeDiff, Nat.reduceLT, Nat.reduceEqDiff, reduceIte, ↓reduceIte, Nat.reduceBEq, g0, g3, g4, g6, h1, h2]
    refine dr_call (rsub_r _ q.2 q.1 (by omega) (by omega)) ?_
    simp only [DD, CC, Nat.reduceAdd, Nat.reduceSub, Nat.reduceLeDiff, Nat.reduceLT, Nat.reduceEqDiff, reduceIte, ↓reduceIte, Nat.reduceBEq, g0, g3, g4, g6, hm1, hbn]
    refine (le_r _ n' (q.2 - q.1) hn' (by omega)).use ?_
    cases c : decide (n' ≤ q.2 - q.1)
    · simp only [XX, CC, Nat.reduceAdd, Nat.reduceSub, Nat.reduceLeDiff, Nat.reduceLT, Nat.reduceEqDiff, reduceIte, ↓reduceIte, Nat.reduceBEq, g0, g3, g4, g6, hbn]
      simp at c
      rw [if_pos (by omega)] at hd0
      refine (rsub_r _ n' (q.2 - q.1) hn' (by omega)).use ?_
      have hm2 : (n' + 340282366920938463463374607431768211456 - (q.2 - q.1)) % 340282366920938463463374607431768211456 = n' - (q.2 - q.1) := by omega
      simp only [XX, CC, Nat.reduceAdd, Nat.reduceSub, Nat.reduceLeDiff, Nat.reduceLT, Nat.reduceEqDiff, reduceIte, ↓reduceIte, Nat.reduceBEq, g0, g3, g4, g6, hm2, st_in hb0, blkA (key_set (t := t) (b := s.length) (x := .cells true (cA (n' - (q.2 - q.1)))) (by omega))]
      refine (ahead_r _ (n' - (q.2 - q.1)) (by omega)).use ?_
      have hm3 : (n' - (q.2 - q.1) + 340282366920938463463374607431768211456 - 1) % 340282366920938463463374607431768211456 = n' - (q.2 - q.1) - 1 := by omega
      simp only [XX, CC, Nat.reduceAdd, Nat.reduceSub, Nat.reduceLeDiff, Nat.reduceLT, Nat.reduceEqDiff, reduceIte, ↓reduceIte, Nat.reduceBEq, g0, g3, g4, g6, hm3, st_in (key_set (t := t) (b := s.length) (x := .cells true (cA (n' - (q.2 - q.1)))) (by omega)), List.set_set]
      refine loop_again ⟨d - 1, by omega, (hx.set (by omega) _).app _, i + 1, n' - (q.2 - q.1) - 1, by omega, ?_, ?_, ?_, ?_, ?_, ?_, by omega, hd0⟩ <;> (try simp only [XX, CC, Nat.reduceAdd, Nat.reduceSub, Nat.reduceLeDiff, Nat.reduceLT, Nat.reduceEqDiff, reduceIte, ↓reduceIte, Nat.reduceBEq, g0, g3, g4, g6])
      · rw [w64_nat (by omega)]
      · rw [List.getElem?_append_left (by simp; omega)]; exact key_set (by omega)
      · rw [List.getElem?_append_left (by simp; omega), List.getElem?_set, if_neg (by omega)]; exact hb1
    · simp only [XX, CC, Nat.reduceAdd, Nat.reduceSub, Nat.reduceLeDiff, Nat.reduceLT, Nat.reduceEqDiff, reduceIte, ↓reduceIte, Nat.reduceBEq, g0, g3, g4, g6, hbn]
      simp at c
      rw [if_neg (by omega)] at hd0
      have hm2 : (q.1 + n') % 340282366920938463463374607431768211456 = q.1 + n' := Nat.mod_eq_of_lt (by omega)
      refine drw_in [.cells true [.int .u64 0, .int .u64 0]] rfl ?_
      simp only [DD, CC, Nat.reduceAdd, Nat.reduceSub, Nat.reduceLeDiff, Nat.reduceLT, Nat.reduceEqDiff, reduceIte, ↓reduceIte, Nat.reduceBEq, g0, g3, g4, g6, h1, h2, hbn]
      refine dr_call (radd_r _ q.1 n' (by omega) hn') ?_
      simp only [DD, CC, Nat.reduceAdd, Nat.reduceSub, Nat.reduceLeDiff, Nat.reduceLT, Nat.reduceEqDiff, reduceIte, ↓reduceIte, Nat.reduceBEq, g0, g3, g4, g6, hm2, st_in hb1, blkA (key_set (t := t) (b := s.length + 1) (x := .cells true (cA (q.1 + n'))) (by omega))]
      refine ret_drop ((hx.set (by omega) _).app _) rfl ⟨?_, rfl⟩
      simp [nthV, hs, hd0]
  · rw [List.drop_of_length_le (by omega)] at hd0
    simp only [nthL] at hd0
    simp only [dec_f (show ¬ (i : Int) < set.length by omega), XX, CC, Nat.reduceAdd, Nat.reduceSub, Nat.reduceLeDiff, Nat.reduceLT, Nat.reduceEqDiff, reduceIte, ↓reduceIte, Nat.reduceBEq, g3, g4]
    refine ⟨t.set (s.length + 1) (.cells true (cA 0)), by rw [wr_own hb1, if_pos ⟨Nat.le_refl _, rfl⟩]; rfl, ?_⟩
    simp only [blkA (key_set (t := t) (b := s.length + 1) (x := .cells true (cA 0)) htl), XX, CC, Nat.reduceAdd, Nat.reduceSub, Nat.reduceLeDiff, Nat.reduceLT, Nat.reduceEqDiff, reduceIte, ↓reduceIte, Nat.reduceBEq]
    refine ret_drop (hx.set (by omega) _) rfl ⟨?_, rfl⟩
    simp [nthV, hs, hd0]
end Go.Ev

/-! The reference's Rank. -/
namespace Go.Ev
set_option linter.unusedVariables false
set_option linter.unusedSimpArgs false
open Go.Ev.Sp

end Go.Ev

/-! The reference's list of edges: with. -/
namespace Go.Ev
set_option linter.unusedVariables false
set_option linter.unusedSimpArgs false
open Go.Ev.Sp

/-- The end of a function that answers with one block of its own, some blocks of the caller's being used up. -/
theorem ret_used {s s1 : St} {r r0 : AV} {k : AV → St → Prop} {j : Nat} {own : Bool} {cs : List AV} (hlen : s.length ≤ s1.length) (hd : ∀ i b, i < s.length → s1[i]? = some b → s[i]? = some b ∨ b = .dead) (hj : s.length ≤ j) (hs : s1[j]? = some (.cells own cs))
    (hf : r.ren (fun i => if i = s.length then j else i) = r0) (hrb : r.under (s.length + 1) = true) (hb : unders s.length cs = true) (hk : k r (s1.take s.length ++ [.cells own cs])) : Ret s r0 s1 k := by
  have hfj : ∀ i, i < s.length + 1 → keepF s.length [j] s1.length i = if i = s.length then j else i := by
    intro i hi
    unfold keepF
    by_cases h : i < s.length
    · rw [if_pos h, if_neg (by omega)]
    · have : i = s.length := by omega
      subst this; simp
  refine .inr ⟨r, s1.take s.length ++ [.cells own cs], ⟨[j], [.cells own cs], rfl, rfl, by simp, by simpa using hj, hlen, ?_, ?_, ?_⟩, hk⟩
  · intro i b hi h
    rcases hd i b hi h with h | rfl
    · exact .inl h
    · exact .inr rfl
  · rw [← hf]
    exact ren_congr hfj r hrb
  · intro i b x hb' hx'
    cases i with
    | zero =>
      simp at hb' hx'
      subst hb'; subst hx'
      rw [hs]
      simp only [Blk.ren]
      rw [unders_ren (n := s.length) (fun i hi => by unfold keepF; rw [if_pos hi]) cs hb]
    | succ i => simp at hb'

theorem setL_nth {α : Type} : ∀ (vs cs : List α) (o i : Nat), o + vs.length ≤ cs.length → (setL cs o vs)[i]? = if o ≤ i ∧ i < o + vs.length then vs[i - o]? else cs[i]?
  | [], cs, o, i, h => by simp [setL]; intro h1 h2; omega
  | v :: vs, cs, o, i, h => by
    simp only [List.length_cons] at h
    rw [setL, setL_nth vs (cs.set o v) (o + 1) i (by simp; omega)]
    by_cases h1 : o + 1 ≤ i ∧ i < o + 1 + vs.length
    · rw [if_pos h1, if_pos (by simp; omega), show i - o = i - (o + 1) + 1 by omega, List.getElem?_cons_succ]
    · rw [if_neg h1]
      by_cases h2 : i = o
      · subst h2; rw [if_pos (by simp), List.getElem?_set_self (by omega), Nat.sub_self]; rfl
      · rw [if_neg (by simp; omega), List.getElem?_set, if_neg (by omega)]
theorem set_flat {α : Type} {e : Nat} {enc : α → List AV} (he : ∀ x, (enc x).length = e) (z : α) (cs : List AV) : ∀ (L : List α) (i : Nat), i < L.length → setL (L.flatMap enc ++ cs) (i * e) (enc z) = (L.set i z).flatMap enc ++ cs
  | [], i, h => by simp at h
  | x :: L, 0, h => by
    apply List.ext_getElem?
    intro k
    rw [setL_nth _ _ _ _ (by simp [he])]
    simp only [Nat.zero_mul, Nat.zero_le, true_and, Nat.zero_add, Nat.sub_zero, List.set_cons_zero, List.flatMap_cons, List.append_assoc]
    by_cases hk : k < (enc z).length
    · rw [if_pos hk, List.getElem?_append_left hk]
    · rw [if_neg hk, List.getElem?_append_right (l₁ := enc x) (by rw [he] at *; omega), List.getElem?_append_right (l₁ := enc z) (by omega), he, he]
  | x :: L, i + 1, h => by
    have ih := set_flat he z cs L i (by simpa using h)
    have hb : (i + 1) * e ≤ L.length * e := Nat.mul_le_mul_right _ (by simp at h; omega)
    rw [Nat.succ_mul] at hb
    have hfl := flat_len he L
    apply List.ext_getElem?
    intro k
    simp only [List.set_cons_succ, List.flatMap_cons, List.append_assoc]
    rw [setL_nth _ _ _ _ (by simp [he] at hfl ⊢; rw [Nat.succ_mul]; omega)]
    by_cases hk : k < e
    · rw [if_neg (by rw [Nat.succ_mul]; omega), List.getElem?_append_left (by rw [he]; exact hk), List.getElem?_append_left (by rw [he]; exact hk)]
    · rw [List.getElem?_append_right (l₁ := enc x) (by rw [he]; omega), List.getElem?_append_right (l₁ := enc x) (by rw [he]; omega), ← ih, setL_nth _ _ _ _ (by rw [List.length_append, hfl, he]; omega), he, he, Nat.succ_mul]
      by_cases h1 : i * e + e ≤ k ∧ k < i * e + e + e
      · rw [if_pos h1, if_pos (by omega), show k - (i * e + e) = k - e - i * e by omega]
      · rw [if_neg h1, if_neg (by omega)]

theorem insL_skip (a : Nat) : ∀ (l : List Nat) (n : Nat), (∀ x ∈ l.take n, x < a) → insL a l = l.take n ++ insL a (l.drop n)
  | [], n, _ => by simp
  | x :: l, 0, _ => rfl
  | x :: l, n + 1, h => by
    rw [insL, if_pos (h x (by simp)), List.take_succ_cons, List.drop_succ_cons, List.cons_append, ← insL_skip a l n (fun y hy => h y (by simp [hy]))]

theorem at_le (l : List Nat) (i : Nat) (y : Nat) (hi : i ≤ l.length) : (l.take i ++ y :: l.drop i).length = l.length + 1 := by simp; omega
theorem at_set (l : List Nat) (i : Nat) (y z : Nat) (hi : i ≤ l.length) : (l.take i ++ y :: l.drop i).set i z = l.take i ++ z :: l.drop i := by
  rw [List.set_append_right _ _ (by simp; omega)]
  simp [Nat.min_eq_left hi]
theorem at_prev (l : List Nat) (i : Nat) (y z : Nat) (hi : i < l.length) (hz : l[i]? = some z) : l.take (i + 1) ++ y :: l.drop (i + 1) = l.take i ++ z :: y :: l.drop (i + 1) ∧ l.take i ++ z :: z :: l.drop (i + 1) = l.take i ++ z :: l.drop i := by
  have hd : l.drop i = z :: l.drop (i + 1) := by
    rw [List.drop_eq_getElem_cons hi]; rw [List.getElem?_eq_getElem hi] at hz; simp at hz; rw [hz]
  constructor
  · rw [List.take_add_one, hz]; simp
  · rw [hd]

def RC.snd : RC → RC
  | .seq _ b => b
  | c => c
theorem appA_dead {s s' : St} {e by_ : Nat} {x y v' : AV} (h : appA s e by_ x y = some (v', s')) (i : Nat) (hi : i < s.length) : s'[i]? = s[i]? ∨ s'[i]? = some .dead := by
  unfold appA at h
  split at h <;> try (simp at h; done)
  split at h <;> try (simp at h; done)
  split at h
  · split at h <;> simp at h
    · obtain ⟨_, rfl⟩ := h; exact .inl rfl
    · obtain ⟨_, rfl⟩ := h; exact .inl (List.getElem?_append_left hi)
  · split at h
    · simp at h; obtain ⟨_, rfl⟩ := h; exact .inl rfl
    · split at h
      · split at h <;> simp at h
        obtain ⟨_, rfl⟩ := h; exact .inl (List.getElem?_append_left hi)
      · split at h <;> simp at h
        obtain ⟨_, rfl⟩ := h
        rw [List.getElem?_append_left (by simpa using hi), List.getElem?_set]
        split
        · rw [if_pos (by omega)]; exact .inr rfl
        · exact .inl rfl
  · simp at h
def RC.fst : RC → RC
  | .seq a _ => a
  | c => c
/-- What with leaves. -/
def WithK (n0 : Nat) (s : St) (v : AV) (l' : List Nat) : AV → St → Prop := fun r s' => Own n0 2 cA s' r l' ∧ s.length ≤ s'.length ∧ (∀ base : St, base.length ≤ n0 → Ext base s → Ext base s') ∧ ∀ i b, (∀ o e k c, v ≠ .sl i o e k c) → s[i]? = some b → s'[i]? = some b
set_option maxHeartbeats 4000000 in
theorem with3_tail (n0 : Nat) (s : St) (v : AV) (l : List Nat) (a i : Nat) (ha : a < 340282366920938463463374607431768211456) (hl : l.length < 1000000000) (hn0 : n0 ≤ s.length) (ho : Own n0 2 cA s v l) (hi : i ≤ l.length) (hins : insL a l = l.take i ++ a :: l.drop i)
    (e : Env) (g0 : e.get 0 = v) (g3 : e.get 3 = .ptr s.length 0) (g5 : e.get 5 = .int .i64 i) :
    awp (Run T) r_r03_with.body.snd.snd.snd.snd (endK r_r03_with.res s (WithK n0 s v (insL a l))) e (s ++ [.cells true (cA a)]) := by
  obtain ⟨v', t', e1, e2, e3, e4, e5, e6⟩ := own_app (by_ := 16) (y := .sl (s.length + 1) 0 2 1 (some 1)) (l2 := [a]) (ho.app [.cells true (cA a), .cells true (cA a)]) (by simp; omega) (rd_lit (by simp) cA_len rfl) cA_len cA_cell (by simp; omega)
  have hv2 := e2.rd cA_len
  have hvb : ∀ j o e' k c, v = .sl j o e' k c → k = l.length := by
    rintro j o e' k c rfl
    rcases ho with ⟨h, _⟩ | ⟨_, _, _, _, _, h, _⟩
    · simp at h
    · simp at h; omega
  have hvd : ∀ j o e' k c, v = .sl j o e' k c → j < s.length := by
    rintro j o e' k c rfl
    rcases ho with ⟨h, _⟩ | ⟨_, _, _, _, _, h, h', _⟩
    · simp at h
    · simp at h; obtain ⟨rfl, _⟩ := h; exact (List.getElem?_eq_some_iff.1 h').1
  obtain ⟨j, c, cs, hj, hcc, hbj, hcs, rfl⟩ : ∃ j c cs, s.length + 2 ≤ j ∧ (c = none ∨ c = some (l.length + 1)) ∧ t'[j]? = some (.cells true ((l ++ [a]).flatMap cA ++ cs)) ∧ unders 0 cs = true ∧ v' = .sl j 0 2 (l.length + 1) c := by
    rcases e2 with ⟨_, h⟩ | ⟨j, c, cs, h1, h2, h3, h4, h5⟩
    · simp at h
    · refine ⟨j, c, cs, ?_, by simpa using h2, h4, h5, by rw [h3]; simp⟩
      rcases e6 _ _ _ _ _ h3 with h | h
      · have := hvb _ _ _ _ _ h; simp at this
      · simpa using h
  have box0 : t'[s.length]? = some (.cells true (cA a)) := by
    rw [e4 _ (by simp) (fun o e' k c h => by have := hvd _ _ _ _ _ h; omega)]; simp
  have hlt' : s.length + 2 ≤ t'.length := by simpa using e3
  have hjt : j < t'.length := (List.getElem?_eq_some_iff.1 hbj).1
  have ixk : ∀ k : Nat, k ≤ l.length → ixaA 2 (.sl j 0 2 (l.length + 1) c) (.int .i64 (k : Int)) = some (.ptr j (0 + k * 2)) := fun k hk => ixa_nat (by omega)
  simp only [r_r03_with, RC.snd, XX, CC, Nat.reduceAdd, Nat.reduceSub, Nat.reduceLeDiff, Nat.reduceLT, Nat.reduceEqDiff, reduceIte, ↓reduceIte, Nat.reduceBEq, g0, g3, g5, e1, hv2.len]
  rw [show IntKind.i64.wrap (((l.length + 1 : Nat) : Int) - 1) = (l.length : Int) from w64_pred (by omega)]
  refine awp_loop (fun d e t => ∃ (k y : Nat), k = i + d ∧ k ≤ l.length ∧ e.get 0 = .sl j 0 2 (l.length + 1) c ∧ e.get 3 = .ptr s.length 0 ∧ e.get 5 = .int .i64 i ∧ e.get 6 = .int .i64 k ∧
    t.length = t'.length ∧ t[j]? = some (.cells true ((l.take k ++ y :: l.drop k).flatMap cA ++ cs)) ∧ ∀ x, x ≠ j → t[x]? = t'[x]?) (l.length - i) ?_ ?_
  · refine ⟨l.length, a, by omega, Nat.le_refl _, ?_, ?_, ?_, ?_, rfl, by rw [hbj]; simp, fun _ _ => rfl⟩ <;> (try simp only [XX, CC, Nat.reduceAdd, Nat.reduceSub, Nat.reduceLeDiff, Nat.reduceLT, Nat.reduceEqDiff, reduceIte, ↓reduceIte, Nat.reduceBEq, g0, g3, g5])
  · rintro d e t ⟨k, y, hk, hkl, g0, g3, g5, g6, htl, htj, hto⟩
    have hL := at_le l k y hkl
    have hRd : Rd 2 cA t (.sl j 0 2 (l.length + 1) c) (l.take k ++ y :: l.drop k) := rd_pre htj cA_len hL
    have hbox : t[s.length]? = some (.cells true (cA a)) := by rw [hto _ (by omega)]; exact box0
    obtain ⟨z, b2, o2, hz⟩ : ∃ (z b o : Nat), i < k → l[k - 1]? = some z ∧ (∀ kd : IntKind, ixaA 2 (.sl j 0 2 (l.length + 1) c) (.int kd ((k - 1 : Nat) : Int)) = some (.ptr b o)) ∧ ldA t (some 2) (.ptr b o) = some (aA z) := by
      by_cases h : i < k
      · obtain ⟨z, hz, _⟩ := drop_get (l := l) (i := k - 1) (by omega)
        obtain ⟨b2, o2, h1, h2⟩ := rdA hRd (i := k - 1) (q := z) (by rw [List.getElem?_append_left (by simp; omega), List.getElem?_take, if_pos (by omega)]; exact hz)
        exact ⟨z, b2, o2, fun _ => ⟨hz, h1, h2.1⟩⟩
      · exact ⟨0, 0, 0, fun h' => absurd h' h⟩
    have stk : ∀ z : Nat, stA t (some 2) (.ptr j (0 + k * 2)) (aA z) = some (t.set j (.cells true ((l.take k ++ z :: l.drop k).flatMap cA ++ cs))) := by
      intro z
      rw [st_in0 htj (cA_len z) (cA_cell z) (by rw [List.length_append, flat_len cA_len, hL]; omega), Nat.zero_add, set_flat cA_len z cs _ _ (by rw [hL]; omega), at_set l k y z hkl]
    have stk' : ∀ z : Nat, wrA t j (0 + k * 2) (cA z) = some (t.set j (.cells true ((l.take k ++ z :: l.drop k).flatMap cA ++ cs))) := by
      intro z; have := stk z; rw [st_agg (cA_len z)] at this; exact this
    simp only [XX, CC, Nat.reduceAdd, Nat.reduceSub, Nat.reduceLeDiff, Nat.reduceLT, Nat.reduceEqDiff, reduceIte, ↓reduceIte, Nat.reduceBEq, g0, g3, g5, g6]
    by_cases h : i < k
    · have hz1 := (hz h).1
      have hz2 := (hz h).2.1
      have hz3 := (hz h).2.2
      have ixk := ixk k hkl
      have hp := at_prev l (k - 1) z z (by omega) hz1
      rw [show k - 1 + 1 = k by omega] at hp
      rw [Nat.zero_add] at ixk stk'
      simp only [dec_t (show (k : Int) > i by omega), XX, CC, Nat.reduceAdd, Nat.reduceSub, Nat.reduceLeDiff, Nat.reduceLT, Nat.reduceEqDiff, reduceIte, ↓reduceIte, Nat.reduceBEq, g0, g3, g5, g6, w64_sub (show 0 < k by omega) (by omega), hz2, hz3, ixk, stk']
      refine loop_again ⟨d - 1, by omega, k - 1, z, by omega, by omega, ?_, ?_, ?_, ?_, ?_, ?_, ?_⟩ <;> (try simp only [XX, CC, Nat.reduceAdd, Nat.reduceSub, Nat.reduceLeDiff, Nat.reduceLT, Nat.reduceEqDiff, reduceIte, ↓reduceIte, Nat.reduceBEq, g0, g3, g5, g6])
      · simpa using htl
      · rw [key_set (by omega), hp.1, hp.2]
      · intro x hx; rw [set_at (hto x hx) (fun h => hx h.symm)]
    · have hki : k = i := by omega
      subst hki
      have ixk := ixk k hkl
      rw [Nat.zero_add] at ixk stk'
      simp only [dec_f (show ¬ (k : Int) > k by omega), XX, CC, Nat.reduceAdd, Nat.reduceSub, Nat.reduceLeDiff, Nat.reduceLT, Nat.reduceEqDiff, reduceIte, ↓reduceIte, Nat.reduceBEq, g0, g3, g5, g6, blkA hbox, ixk, stk']
      rw [← hins]
      have hsame : ∀ x, x < s.length → (t.set j (.cells true ((insL a l).flatMap cA ++ cs)))[x]? = t'[x]? := fun x hx => by rw [List.getElem?_set, if_neg (by omega)]; exact hto x (by omega)
      have htake : (t.set j (.cells true ((insL a l).flatMap cA ++ cs))).take s.length = t'.take s.length := by
        apply List.ext_getElem?
        intro x
        rw [List.getElem?_take, List.getElem?_take]
        by_cases hx : x < s.length
        · rw [if_pos hx, if_pos hx, hsame x hx]
        · rw [if_neg hx, if_neg hx]
      have hil : (insL a l).length = l.length + 1 := by rw [hins]; exact at_le l k a hkl
      refine ret_used (r := .sl s.length 0 2 (l.length + 1) c) (j := j) (by simp; omega) ?_ (by omega) (key_set (by omega)) (by simp [AV.ren]) (by simp [AV.under]) (by rw [unders_app, unders_flat cA_un, unders_mono (Nat.zero_le _) _ hcs]; rfl) ?_
      · intro x b hx hb
        rw [hsame x hx] at hb
        rcases appA_dead e1 x (by simp; omega) with h | h
        · rw [h, List.getElem?_append_left hx] at hb; exact .inl hb
        · rw [h] at hb; simp at hb; exact .inr hb.symm
      · rw [htake]
        have htl2 : (t'.take s.length).length = s.length := by simp; omega
        refine ⟨.inr ⟨s.length, c, cs, hn0, by rw [hil]; exact hcc, by rw [hil], ?_, hcs⟩, by simp; omega, ?_, ?_⟩
        · rw [List.getElem?_append_right (by omega), htl2, Nat.sub_self]; rfl
        · intro base hb hx
          obtain ⟨r, hr⟩ := e5 base hb (hx.app _)
          have := hx.len
          refine ⟨r.take (s.length - base.length) ++ [.cells true ((insL a l).flatMap cA ++ cs)], ?_⟩
          rw [← List.append_assoc]
          congr 1
          rw [hr, List.take_append, List.take_of_length_le (by omega)]
        · intro x b hvx hb
          have hxs := (List.getElem?_eq_some_iff.1 hb).1
          rw [List.getElem?_append_left (by omega), List.getElem?_take, if_pos hxs, e4 x (by simp; omega) hvx, List.getElem?_append_left hxs]
          exact hb

set_option maxHeartbeats 4000000 in
/-- tenancyref03.with -/
theorem with3_r (n0 : Nat) (s : St) (v : AV) (l : List Nat) (a : Nat) (ha : a < 340282366920938463463374607431768211456) (hl : l.length < 1000000000) (hw : ∀ x ∈ l, x < 340282366920938463463374607431768211456) (hn0 : n0 ≤ s.length) (ho : Own n0 2 cA s v l) :
    Run T f_r03_with [v, aA a] s (WithK n0 s v (insL a l)) := by
  have hv := ho.rd cA_len
  refine run_body (F := r_r03_with) rfl (by simp [r_r03_with]) ?_
  obtain ⟨TAIL, hT⟩ : ∃ c, c = r_r03_with.body.snd.snd.snd.snd := ⟨_, rfl⟩
  have hbody : r_r03_with.body = .seq r_r03_with.body.fst (.seq r_r03_with.body.snd.fst (.seq r_r03_with.body.snd.snd.fst (.seq r_r03_with.body.snd.snd.snd.fst TAIL))) := by rw [hT]; rfl
  have htail := fun i e hi hins g0 g3 g5 => with3_tail n0 s v l a i ha hl hn0 ho hi hins e g0 g3 g5
  rw [← hT] at htail
  obtain ⟨RES, hR⟩ : ∃ c, c = r_r03_with.res := ⟨_, rfl⟩
  rw [← hR] at htail ⊢
  rw [hbody]
  simp only [r_r03_with, RC.fst, RC.snd, XX, CC, Nat.reduceAdd, Nat.reduceSub, Nat.reduceLeDiff, Nat.reduceLT, Nat.reduceEqDiff, reduceIte, ↓reduceIte, Nat.reduceBEq]
  refine awp_loop (fun d e t => t = s ++ [.cells true (cA a)] ∧ ∃ i : Nat, i + d = l.length ∧ e.get 0 = v ∧ e.get 3 = .ptr s.length 0 ∧ e.get 5 = .int .i64 i ∧ ∀ x ∈ l.take i, x < a) l.length ?_ ?_
  · refine ⟨rfl, 0, by omega, ?_, ?_, ?_, by simp⟩ <;> (try simp only [XX, CC, Nat.reduceAdd, Nat.reduceSub, Nat.reduceLeDiff, Nat.reduceLT, Nat.reduceEqDiff, reduceIte, ↓reduceIte, Nat.reduceBEq]) <;> rfl
  rintro d e t ⟨rfl, i, hi, g0, g3, g5, hlt⟩
  have hv1 := hv.ext (t := s ++ [.cells true (cA a)]) ⟨_, rfl⟩
  obtain ⟨q, b2, o2, hqq⟩ : ∃ (q b o : Nat), i < l.length → l[i]? = some q ∧ l.drop i = q :: l.drop (i + 1) ∧ (∀ k : IntKind, ixaA 2 v (.int k (i : Int)) = some (.ptr b o)) ∧ ldA (s ++ [.cells true (cA a)]) (some 2) (.ptr b o) = some (aA q) := by
    by_cases h : i < l.length
    · obtain ⟨q, hq, hd⟩ := drop_get h
      obtain ⟨b2, o2, h1, h2⟩ := rdA hv1 hq
      exact ⟨q, b2, o2, fun _ => ⟨hq, hd, h1, h2.1⟩⟩
    · exact ⟨0, 0, 0, fun h' => absurd h' h⟩
  have hins := insL_skip a l i hlt
  simp only [XX, CC, Nat.reduceAdd, Nat.reduceSub, Nat.reduceLeDiff, Nat.reduceLT, Nat.reduceEqDiff, reduceIte, ↓reduceIte, Nat.reduceBEq]
  refine drw_in [] rfl ?_
  simp only [List.append_nil, DD, CC, Nat.reduceAdd, Nat.reduceSub, Nat.reduceLeDiff, Nat.reduceLT, Nat.reduceEqDiff, reduceIte, ↓reduceIte, Nat.reduceBEq, g0, g3, g5, hv1.len]
  by_cases h : i < l.length
  · have hq := (hqq h).1
    have hd := (hqq h).2.1
    have h1 := (hqq h).2.2.1
    have h2 := (hqq h).2.2.2
    have hqw := hw q (List.mem_of_getElem? hq)
    rw [hd] at hins
    simp only [dec_t (show (i : Int) < l.length by omega), DD, CC, Nat.reduceAdd, Nat.reduceSub, Nat.reduceLeDiff, Nat.reduceLT, Nat.reduceEqDiff, reduceIte, ↓reduceIte, Nat.reduceBEq, g0, g3, g5, h1, h2]
    refine dr_call (rcmp_r _ q a hqw ha) ?_
    simp only [DD, CC, Nat.reduceAdd, Nat.reduceSub, Nat.reduceLeDiff, Nat.reduceLT, Nat.reduceEqDiff, reduceIte, ↓reduceIte, Nat.reduceBEq, cmpN_dlt]
    cases c : decide (q < a)
    · simp only [DD, CC, Nat.reduceAdd, Nat.reduceSub, Nat.reduceLeDiff, Nat.reduceLT, Nat.reduceEqDiff, reduceIte, ↓reduceIte, Nat.reduceBEq, g0, g3, g5]
      simp at c
      refine drw_in [] rfl ?_
      simp only [List.append_nil, DD, CC, Nat.reduceAdd, Nat.reduceSub, Nat.reduceLeDiff, Nat.reduceLT, Nat.reduceEqDiff, reduceIte, ↓reduceIte, Nat.reduceBEq, g0, g3, g5, hv1.len, dec_t (show (i : Int) < l.length by omega), h1, h2, eq_A]
      cases c2 : decide (q = a)
      · simp only [DD, CC, Nat.reduceAdd, Nat.reduceSub, Nat.reduceLeDiff, Nat.reduceLT, Nat.reduceEqDiff, reduceIte, ↓reduceIte, Nat.reduceBEq]
        simp at c2
        refine htail i _ (by omega) (by rw [hins, insL, if_neg (by omega), if_neg c2, ← hd]) ?_ ?_ ?_ <;> simp only [XX, CC, Nat.reduceAdd, Nat.reduceSub, Nat.reduceLeDiff, Nat.reduceLT, Nat.reduceEqDiff, reduceIte, ↓reduceIte, Nat.reduceBEq, g0, g3, g5]
      · simp at c2
        subst hR
        simp only [DD, CC, Nat.reduceAdd, Nat.reduceSub, Nat.reduceLeDiff, Nat.reduceLT, Nat.reduceEqDiff, reduceIte, ↓reduceIte, Nat.reduceBEq, g0, r_r03_with]
        refine ret_drop ⟨_, rfl⟩ hv.under ?_
        have : insL a l = l := by rw [hins, insL, if_neg (by omega), if_pos c2, ← hd, List.take_append_drop]
        rw [this]
        exact ⟨ho, Nat.le_refl _, fun _ _ h => h, fun _ _ _ h => h⟩
    · simp only [DD, CC, Nat.reduceAdd, Nat.reduceSub, Nat.reduceLeDiff, Nat.reduceLT, Nat.reduceEqDiff, reduceIte, ↓reduceIte, Nat.reduceBEq, g0, g3, g5]
      simp at c
      refine loop_again ⟨d - 1, by omega, rfl, i + 1, by omega, ?_, ?_, ?_, ?_⟩ <;> (try simp only [XX, CC, Nat.reduceAdd, Nat.reduceSub, Nat.reduceLeDiff, Nat.reduceLT, Nat.reduceEqDiff, reduceIte, ↓reduceIte, Nat.reduceBEq, g0, g3, g5])
      · rw [w64_nat (by omega)]
      · intro x hx
        rw [List.take_add_one, hq] at hx
        simp at hx
        rcases hx with hx | rfl
        · exact hlt x hx
        · exact c
  · simp only [dec_f (show ¬ (i : Int) < l.length by omega), DD, CC, Nat.reduceAdd, Nat.reduceSub, Nat.reduceLeDiff, Nat.reduceLT, Nat.reduceEqDiff, reduceIte, ↓reduceIte, Nat.reduceBEq, g0, g3, g5]
    refine drw_in [] rfl ?_
    simp only [List.append_nil, DD, CC, Nat.reduceAdd, Nat.reduceSub, Nat.reduceLeDiff, Nat.reduceLT, Nat.reduceEqDiff, reduceIte, ↓reduceIte, Nat.reduceBEq, g0, g3, g5, hv1.len, dec_f (show ¬ (i : Int) < l.length by omega)]
    have hle : i = l.length := by omega
    refine htail i _ (by omega) (by rw [hins, hle, List.drop_length]; rfl) ?_ ?_ ?_ <;> simp only [XX, CC, Nat.reduceAdd, Nat.reduceSub, Nat.reduceLeDiff, Nat.reduceLT, Nat.reduceEqDiff, reduceIte, ↓reduceIte, Nat.reduceBEq, g0, g3, g5]
end Go.Ev

/-! The reference's edges. -/
namespace Go.Ev
set_option linter.unusedVariables false
set_option linter.unusedSimpArgs false
open Go.Ev.Sp

theorem insL_lt {a : Nat} {l : List Nat} (ha : a < 340282366920938463463374607431768211456) (hl : ∀ x ∈ l, x < 340282366920938463463374607431768211456) : ∀ x ∈ insL a l, x < 340282366920938463463374607431768211456 := fun x hx => by
  rcases (insL_mem a x l).1 hx with rfl | h
  · exact ha
  · exact hl x h

set_option maxHeartbeats 4000000 in
/-- tenancyref03.edges -/
theorem edges_r (s : St) (v : AV) (set : List (Nat × Nat)) (hl : set.length < 100000000) (hw : Wf set) (hv : Rd 4 cR s v set) : Run T f_r03_edges [v] s (Out 2 cA s (edgesL 340282366920938463463374607431768211456 set [0])) := by
  refine run_body (F := r_r03_edges) rfl (by simp [r_r03_edges]) ?_
  simp only [r_r03_edges, XX, CC, Nat.reduceAdd, Nat.reduceSub, Nat.reduceLeDiff, Nat.reduceLT, Nat.reduceEqDiff, reduceIte, ↓reduceIte, Nat.reduceBEq]
  refine awp_loop (fun d e t => Ext s t ∧ ∃ (i : Nat) (vo : AV) (out : List Nat), i + d = set.length ∧ e.get 0 = v ∧ e.get 3 = vo ∧ e.get 4 = .int .i64 i ∧ Own s.length 2 cA t vo out ∧ (∀ x ∈ out, x < 340282366920938463463374607431768211456) ∧ out.length ≤ 2 * i + 1 ∧ edgesL 340282366920938463463374607431768211456 set [0] = edgesL 340282366920938463463374607431768211456 (set.drop i) out) set.length ?_ ?_
  · refine ⟨⟨_, rfl⟩, 0, _, [0], by omega, ?_, ?_, ?_, .inr ⟨s.length, some 1, [], Nat.le_refl _, .inr rfl, rfl, by simp; rfl, rfl⟩, by simp, by simp, rfl⟩ <;> (try simp only [XX, CC, Nat.reduceAdd, Nat.reduceSub, Nat.reduceLeDiff, Nat.reduceLT, Nat.reduceEqDiff, reduceIte, ↓reduceIte, Nat.reduceBEq]) <;> rfl
  rintro d e t ⟨hx, i, vo, out, hi, g0, g3, g4, ho, how, hol, hd0⟩
  have hv1 := hv.ext hx
  simp only [XX, CC, Nat.reduceAdd, Nat.reduceSub, Nat.reduceLeDiff, Nat.reduceLT, Nat.reduceEqDiff, reduceIte, ↓reduceIte, Nat.reduceBEq, g0, g3, g4, hv1.len]
  by_cases h : i < set.length
  · obtain ⟨q, hq, hd⟩ := drop_get h
    obtain ⟨b2, o2, h1, h2⟩ := rdR hv1 hq
    have hqw := hw.get hq
    rw [hd] at hd0
    simp only [edgesL] at hd0
    simp only [dec_t (show (i : Int) < set.length by omega), XX, CC, Nat.reduceAdd, Nat.reduceSub, Nat.reduceLeDiff, Nat.reduceLT, Nat.reduceEqDiff, reduceIte, ↓reduceIte, Nat.reduceBEq, g0, g3, g4, h1, h2]
    refine Run.mono _ _ _ _ _ ?_ (with3_r s.length t vo out q.1 hqw.1 (by omega) how hx.len ho)
    rintro v1 t1 ⟨w1, w2, w3, w4⟩
    have hx1 := w3 s (Nat.le_refl _) hx
    obtain ⟨b3, o3, h3, h4⟩ := rdR (hv.ext hx1) hq
    have hbo := (h1 .i64).symm.trans (h3 .i64)
    simp only [Option.some.injEq, AV.ptr.injEq] at hbo
    rw [← hbo.1, ← hbo.2] at h4
    have hl1 := insL_length q.1 out
    simp only [h4, XX, CC, Nat.reduceAdd, Nat.reduceSub, Nat.reduceLeDiff, Nat.reduceLT, Nat.reduceEqDiff, reduceIte, ↓reduceIte, Nat.reduceBEq]
    refine (next_r _ q.2 hqw.2).use ?_
    by_cases hov : 340282366920938463463374607431768211456 ≤ q.2 + 1
    · simp only [XX, CC, Nat.reduceAdd, Nat.reduceSub, Nat.reduceLeDiff, Nat.reduceLT, Nat.reduceEqDiff, reduceIte, ↓reduceIte, Nat.reduceBEq, g0, g3, g4, ovr_t hov, Bool.not_true]
      rw [if_neg (by omega)] at hd0
      refine loop_again ⟨d - 1, by omega, hx1.app _, i + 1, v1, insL q.1 out, by omega, ?_, ?_, ?_, w1.app _, insL_lt hqw.1 how, by omega, hd0⟩ <;> (try simp only [XX, CC, Nat.reduceAdd, Nat.reduceSub, Nat.reduceLeDiff, Nat.reduceLT, Nat.reduceEqDiff, reduceIte, ↓reduceIte, Nat.reduceBEq, g0, g3, g4])
      rw [w64_nat (by omega)]
    · have hm : (q.2 + 1) % 340282366920938463463374607431768211456 = q.2 + 1 := Nat.mod_eq_of_lt (by omega)
      simp only [XX, CC, Nat.reduceAdd, Nat.reduceSub, Nat.reduceLeDiff, Nat.reduceLT, Nat.reduceEqDiff, reduceIte, ↓reduceIte, Nat.reduceBEq, g0, g3, g4, ovr_f hov, Bool.not_false, hm]
      rw [if_pos (by omega)] at hd0
      have hl2 := insL_length (q.2 + 1) (insL q.1 out)
      refine Run.mono _ _ _ _ _ ?_ (with3_r s.length _ v1 (insL q.1 out) (q.2 + 1) (by omega) (by omega) (insL_lt hqw.1 how) (by have := hx1.len; simp; omega) (w1.app _))
      rintro v2 t2 ⟨u1, u2, u3, u4⟩
      refine loop_again ⟨d - 1, by omega, u3 s (Nat.le_refl _) (hx1.app _), i + 1, v2, insL (q.2 + 1) (insL q.1 out), by omega, ?_, ?_, ?_, u1, insL_lt (by omega) (insL_lt hqw.1 how), by omega, hd0⟩ <;> (try simp only [XX, CC, Nat.reduceAdd, Nat.reduceSub, Nat.reduceLeDiff, Nat.reduceLT, Nat.reduceEqDiff, reduceIte, ↓reduceIte, Nat.reduceBEq, g0, g3, g4])
      rw [w64_nat (by omega)]
  · simp only [dec_f (show ¬ (i : Int) < set.length by omega), XX, CC, Nat.reduceAdd, Nat.reduceSub, Nat.reduceLeDiff, Nat.reduceLT, Nat.reduceEqDiff, reduceIte, ↓reduceIte, Nat.reduceBEq, g0, g3]
    rw [List.drop_of_length_le (by omega)] at hd0
    refine ret_own1 ho (Nat.le_refl _) hx cA_un fun v' s' h => ?_
    rw [hd0]; simpa [edgesL] using h
end Go.Ev

/-! The reference's made. -/
namespace Go.Ev
set_option linter.unusedVariables false
set_option linter.unusedSimpArgs false
open Go.Ev.Sp

theorem dr_appX {X : Oracle} {n0 : Nat} {bs : List Blk} {i : Nat} {H : List (Nat × St × St)} {L : List (Nat × Nat)} {e : Env} {s : St} {next : DrK} {d : Option Nat} {g : Option (Nat × Bool)} {es by_ : Nat} {x y : RX} {cl fr : List Nat} :
    drStep X n0 bs ⟨⟨d, g, .app es by_ x y⟩, .eff, cl, fr⟩ i H L e s next = ob (appA s es by_ (x.ev e) (y.ev e)) fun r => frOk n0 fr s r.2 ∧ clOk cl L s r.2 ∧ next ((i, s, r.2) :: H) L (putO e d r.1) r.2 := by
  apply propext
  simp only [drStep, opA, ob]
  constructor
  · rintro ⟨v, s', ⟨s1, h1, rfl, rfl⟩, h2, h3, h4⟩; exact ⟨s1, h1, h2, h3, h4⟩
  · rintro ⟨s1, h1, h2, h3, h4⟩; exact ⟨s1.1, s1.2, ⟨s1, h1, rfl, rfl⟩, h2, h3, h4⟩

def two (l : List (Nat × Nat)) : List Nat := l.flatMap fun r => [r.1, r.2]
theorem flat2 : ∀ l : List (Nat × Nat), l.flatMap cR = (two l).flatMap cA
  | [] => rfl
  | r :: l => by simp only [List.flatMap_cons, two]; rw [flat2 l]; simp [cR, cA, two]
theorem two_len : ∀ l : List (Nat × Nat), (two l).length = 2 * l.length
  | [] => rfl
  | r :: l => by
    have := two_len l
    simp only [two, List.flatMap_cons, List.length_append, List.length_cons, List.length_nil] at this ⊢
    omega
theorem set_last (o : List (Nat × Nat)) (q : Nat × Nat) (z : Nat) (cs : List AV) : setL ((o ++ [q]).flatMap cR ++ cs) (o.length * 4 + 2) (cA z) = (o ++ [(q.1, z)]).flatMap cR ++ cs := by
  have hl := two_len (o ++ [q])
  have e1 : (two (o ++ [q])).set (2 * o.length + 1) z = two (o ++ [(q.1, z)]) := by
    have h0 := two_len o
    simp only [two, List.flatMap_append, List.flatMap_cons, List.flatMap_nil, List.append_nil] at h0 ⊢
    rw [List.set_append_right _ _ (by omega), h0, show 2 * o.length + 1 - 2 * o.length = 1 by omega]
    rfl
  have := set_flat cA_len z cs (two (o ++ [q])) (2 * o.length + 1) (by rw [hl]; simp; omega)
  rw [← flat2, e1, ← flat2, show (2 * o.length + 1) * 2 = o.length * 4 + 2 by omega] at this
  exact this

/-- An own slice's last element. -/
theorem own_last {n : Nat} {t : St} {vo : AV} {o : List (Nat × Nat)} {q : Nat × Nat} (h : Own n 4 cR t vo (o ++ [q])) :
    ∃ b, n ≤ b ∧ (∀ k : IntKind, ixaA 4 vo (.int k (o.length : Int)) = some (.ptr b (o.length * 4))) ∧ (∀ l, ldA (t ++ l) (some 2) (.ptr b (o.length * 4 + 2)) = some (aA q.2)) ∧
      ∀ z : Nat, ∃ x : Blk, (∀ l, stA (t ++ l) (some 2) (.ptr b (o.length * 4 + 2)) (aA z) = some (t.set b x ++ l)) ∧ Own n 4 cR (t.set b x) vo (o ++ [(q.1, z)]) := by
  have hr := h.rd cR_len
  obtain ⟨b2, o2, h1, h2⟩ := hr.get cR_len (i := o.length) (x := q) (by simp)
  rcases h with ⟨_, h⟩ | ⟨b, c, cs, h3, h4, rfl, h5, h6⟩
  · simp at h
  · have hb := (List.getElem?_eq_some_iff.1 h5).1
    have hix : ∀ k : IntKind, ixaA 4 (.sl b 0 4 (o ++ [q]).length c) (.int k (o.length : Int)) = some (.ptr b (o.length * 4)) := fun k => by rw [ixa_nat (by simp), Nat.zero_add]
    have hbo := (h1 .i64).symm.trans (hix .i64)
    simp only [Option.some.injEq, AV.ptr.injEq] at hbo
    rw [hbo.1, hbo.2] at h2
    refine ⟨b, h3, hix, ldA_ext (h2 (some 2) 2 (aA q.2) rfl), fun z => ⟨.cells true ((o ++ [(q.1, z)]).flatMap cR ++ cs), fun l => ?_, ?_⟩⟩
    · rw [st_in h5 (cA_len z) (cA_cell z) (by rw [List.length_append, flat_len cR_len]; simp; omega), set_last]
    · exact .inr ⟨b, c, cs, h3, by simpa using h4, by simp, key_set hb, h6⟩

def RC.inn : RC → RC
  | .block _ c => c
  | .loop c => c
  | c => c
/-- What a round of made leaves. -/
def stepP (cur : Option (Nat × Nat)) (q z : Nat) (o o' : List (Nat × Nat)) (c' : Nat × Nat) : Prop := match cur with
  | none => o' = o ∧ c' = (q, z)
  | some p => if p.2 + 1 < 340282366920938463463374607431768211456 ∧ p.2 + 1 = q then o' = o ∧ c' = (p.1, z) else o' = o ++ [p] ∧ c' = (q, z)
def MadeK (n : Nat) (base : St) (e : Env) (q z : Nat) (o : List (Nat × Nat)) (cur : Option (Nat × Nat)) (Q : XE → Env → St → Prop) : Prop :=
  ∀ e' t' o' c', e'.get 0 = e.get 0 → e'.get 1 = e.get 1 → e'.get 6 = e.get 6 → e'.get 8 = e.get 8 → Own n 4 cR t' (e'.get 7) (o' ++ [c']) → Ext base t' → stepP cur q z o o' c' → Q .nrm e' t' ∧ Q (.exit 1) e' t'
def madeC : RC := r_r03_made.body.snd.snd.snd.snd.snd.snd.fst.snd.inn.inn.snd.fst.inn.snd.snd
theorem stepP_len {cur : Option (Nat × Nat)} {q z : Nat} {o o' : List (Nat × Nat)} {c' : Nat × Nat} (h : stepP cur q z o o' c') : o'.length ≤ o.length + cur.toList.length := by
  unfold stepP at h
  split at h
  · rw [h.1]; simp
  · split at h <;> rw [h.1] <;> simp
theorem stepP_snd {cur : Option (Nat × Nat)} {q z : Nat} {o o' : List (Nat × Nat)} {c' : Nat × Nat} (h : stepP cur q z o o' c') : c'.2 = z := by
  unfold stepP at h
  split at h
  · rw [h.2]
  · split at h <;> rw [h.2]
theorem stepP_go {P : Nat → Bool} {cur : Option (Nat × Nat)} {q : Nat} {es : List Nat} {o o' : List (Nat × Nat)} {c' : Nat × Nat} (h : stepP cur q (nxt 340282366920938463463374607431768211456 es) o o' c') (hp : P q = true) : o ++ go 340282366920938463463374607431768211456 P cur (q :: es) = o' ++ go 340282366920938463463374607431768211456 P (some c') es := by
  unfold stepP at h
  split at h
  · rw [h.1, h.2, go_none, if_pos hp]
  · next p =>
    obtain ⟨a, b⟩ := p
    rw [go_some, if_pos hp]
    split at h
    · next hc => rw [h.1, h.2, if_pos hc]
    · next hc => rw [h.1, h.2, if_neg hc]; simp

set_option maxHeartbeats 4000000 in
theorem made_app {n : Nat} {base t : St} {vo v3 : AV} {o : List (Nat × Nat)} {cur : Option (Nat × Nat)} {q z i c2 o2 : Nat} {e : Env} {Q : XE → Env → St → Prop} (e0 : Env) (r : St) (hol : o.length + cur.toList.length < 1000000000000)
    (ho : Own n 4 cR t vo (o ++ cur.toList)) (hn : n ≤ t.length) (hx : Ext base t) (hb : base.length ≤ n) (g6 : e.get 6 = v3) (g7 : e.get 7 = vo) (g8 : e.get 8 = .int .i64 i) (g9 : e.get 9 = .ptr t.length 0)
    (h1 : ∀ k : IntKind, ixaA 2 v3 (.int k (i : Int)) = some (.ptr c2 o2)) (h2 : ∀ l, ldA (t ++ l) (some 2) (.ptr c2 o2) = some (aA q)) (h3 : (t ++ r)[t.length]? = some (.cells true (cA z)))
    (e0' : e0.get 0 = e.get 0) (e1' : e0.get 1 = e.get 1) (e6' : e0.get 6 = e.get 6) (e8' : e0.get 8 = e.get 8)
    (hs : stepP cur q z o (o ++ cur.toList) (q, z))
    (hK : MadeK n base e0 q z o cur Q) : awp (Run T) madeC.snd.snd.snd Q e (t ++ r) := by
  obtain ⟨v', t', a1, a2, a3, _⟩ := app_R (q, z) r ho hn hx hb (by simp; simpa using hol)
  have h4 := (blkA h3).2
  have h4' := fun l => by have := h4 l; rw [List.append_assoc] at this; exact this
  simp only [madeC, r_r03_made, RC.fst, RC.snd, RC.inn, XX, CC, Nat.reduceAdd, Nat.reduceSub, Nat.reduceLeDiff, Nat.reduceLT, Nat.reduceEqDiff, reduceIte, ↓reduceIte, Nat.reduceBEq]
  refine drw_in [.cells true (cR (q, z))] rfl ?_
  simp only [DD, CC, Nat.reduceAdd, Nat.reduceSub, Nat.reduceLeDiff, Nat.reduceLT, Nat.reduceEqDiff, reduceIte, ↓reduceIte, Nat.reduceBEq, g6, g7, g8, g9, h1, List.append_assoc, h2, h4', List.length_append, dr_appX, a1]
  refine (hK _ t' (o ++ cur.toList) (q, z) ?_ ?_ ?_ ?_ ?_ a3 hs).1 <;> simp only [XX, CC, Nat.reduceAdd, Nat.reduceSub, Nat.reduceLeDiff, Nat.reduceLT, Nat.reduceEqDiff, reduceIte, ↓reduceIte, Nat.reduceBEq, e0', e1', e6', e8', g6, g8]
  rw [← List.append_assoc]; exact a2

set_option maxHeartbeats 4000000 in
theorem made_k {n : Nat} {base t : St} {vo v3 : AV} {o : List (Nat × Nat)} {cur : Option (Nat × Nat)} {q z i c2 o2 : Nat} {e : Env} {Q : XE → Env → St → Prop} (hol : o.length + cur.toList.length < 1000000000000)
    (ho : Own n 4 cR t vo (o ++ cur.toList)) (hn : n ≤ t.length) (hx : Ext base t) (hb : base.length ≤ n) (g6 : e.get 6 = v3) (g7 : e.get 7 = vo) (g8 : e.get 8 = .int .i64 i) (g9 : e.get 9 = .ptr t.length 0)
    (hcn : cur = none → o = []) (hcq : ∀ p, cur = some p → p.2 < 340282366920938463463374607431768211456)
    (h1 : ∀ k : IntKind, ixaA 2 v3 (.int k (i : Int)) = some (.ptr c2 o2)) (h2 : ∀ l, ldA (t ++ l) (some 2) (.ptr c2 o2) = some (aA q))
    (hK : MadeK n base e q z o cur Q) : awp (Run T) (.seq madeC.snd.fst (.seq madeC.snd.snd.fst madeC.snd.snd.snd)) Q e (t ++ [.cells true (cA z)]) := by
  obtain ⟨TAIL, hT⟩ : ∃ c, c = madeC.snd.snd.snd := ⟨_, rfl⟩
  have happ := fun e' r a b c d f g h k l m => made_app (n := n) (base := base) (t := t) (vo := vo) (v3 := v3) (o := o) (cur := cur) (q := q) (z := z) (i := i) (e := e') (c2 := c2) (o2 := o2) (Q := Q) e r hol ho hn hx hb a b c d h1 h2 f g h k l m hK
  rw [← hT] at happ ⊢
  rcases cur with _ | ⟨a, b⟩
  · have h0 := hcn rfl
    subst h0
    have hl := (ho.rd cR_len).len
    simp only [madeC, r_r03_made, RC.fst, RC.snd, RC.inn, XX, CC, Nat.reduceAdd, Nat.reduceSub, Nat.reduceLeDiff, Nat.reduceLT, Nat.reduceEqDiff, reduceIte, ↓reduceIte, Nat.reduceBEq, g7, hl, List.append_nil, List.length_nil, Option.toList_none, show IntKind.i64.wrap (((0 : Nat) : Int) - 1) = -1 by decide, dec_f (show ¬ (-1 : Int) ≥ 0 by decide)]
    refine happ _ _ ?_ ?_ ?_ ?_ get_last ?_ ?_ ?_ ?_ ⟨rfl, rfl⟩ <;> simp only [XX, CC, Nat.reduceAdd, Nat.reduceSub, Nat.reduceLeDiff, Nat.reduceLT, Nat.reduceEqDiff, reduceIte, ↓reduceIte, Nat.reduceBEq, g6, g7, g8, g9]
  · have hbw := hcq _ rfl
    have hr := ho.rd cR_len
    have hl := hr.len
    obtain ⟨bb, b1, b2, b3, b4⟩ := own_last ho
    by_cases hov : 340282366920938463463374607431768211456 ≤ b + 1
    · simp only [madeC, r_r03_made, RC.fst, RC.snd, RC.inn, XX, CC, Nat.reduceAdd, Nat.reduceSub, Nat.reduceLeDiff, Nat.reduceLT, Nat.reduceEqDiff, reduceIte, ↓reduceIte, Nat.reduceBEq, g7, hl, Option.toList_some, List.length_append, List.length_singleton, w64_pred (show o.length < 4611686018427387904 by omega), dec_t (show (o.length : Int) ≥ 0 by omega), b2, b3]
      refine (next_r _ b hbw).use ?_
      simp only [XX, CC, Nat.reduceAdd, Nat.reduceSub, Nat.reduceLeDiff, Nat.reduceLT, Nat.reduceEqDiff, reduceIte, ↓reduceIte, Nat.reduceBEq, set_AA, ovr_t hov, Bool.not_true]
      refine drw_in [] rfl ?_
      simp only [List.append_nil, DD, CC, Nat.reduceAdd, Nat.reduceSub, Nat.reduceLeDiff, Nat.reduceLT, Nat.reduceEqDiff, reduceIte, ↓reduceIte, Nat.reduceBEq]
      refine happ _ [_, _] ?_ ?_ ?_ ?_ (by simp) ?_ ?_ ?_ ?_ ?_ <;> (try simp only [XX, CC, Nat.reduceAdd, Nat.reduceSub, Nat.reduceLeDiff, Nat.reduceLT, Nat.reduceEqDiff, reduceIte, ↓reduceIte, Nat.reduceBEq, g6, g7, g8, g9])
      exact (if_neg (by omega)).mpr ⟨rfl, rfl⟩
    have hm : (b + 1) % 340282366920938463463374607431768211456 = b + 1 := Nat.mod_eq_of_lt (by omega)
    by_cases hc : b + 1 = q
    · obtain ⟨x, b5, b6⟩ := b4 z
      have h4 := fun y => ldA_ext (blkA (t := t ++ [.cells true (cA z)]) get_last).1 [y]
      simp only [List.append_assoc, List.cons_append, List.nil_append] at h4
      simp only [madeC, r_r03_made, RC.fst, RC.snd, RC.inn, XX, CC, Nat.reduceAdd, Nat.reduceSub, Nat.reduceLeDiff, Nat.reduceLT, Nat.reduceEqDiff, reduceIte, ↓reduceIte, Nat.reduceBEq, g7, hl, Option.toList_some, List.length_append, List.length_singleton, w64_pred (show o.length < 4611686018427387904 by omega), dec_t (show (o.length : Int) ≥ 0 by omega), b2, b3]
      refine (next_r _ b hbw).use ?_
      simp only [XX, CC, Nat.reduceAdd, Nat.reduceSub, Nat.reduceLeDiff, Nat.reduceLT, Nat.reduceEqDiff, reduceIte, ↓reduceIte, Nat.reduceBEq, set_AA, ovr_f hov, Bool.not_false]
      refine drw_in [] rfl ?_
      simp only [List.append_nil, DD, CC, Nat.reduceAdd, Nat.reduceSub, Nat.reduceLeDiff, Nat.reduceLT, Nat.reduceEqDiff, reduceIte, ↓reduceIte, Nat.reduceBEq, g6, g7, g8, g9, h1, h2, h4, b2, b5, eq_A, hm, dec_t hc]
      refine (hK _ _ o (a, z) ?_ ?_ ?_ ?_ ?_ (hx.trans_set (by omega) _ _) ((if_pos ⟨by omega, hc⟩).mpr ⟨rfl, rfl⟩)).2 <;> (try simp only [XX, CC, Nat.reduceAdd, Nat.reduceSub, Nat.reduceLeDiff, Nat.reduceLT, Nat.reduceEqDiff, reduceIte, ↓reduceIte, Nat.reduceBEq, g6, g7, g8, g9])
      exact b6.app _
    · simp only [madeC, r_r03_made, RC.fst, RC.snd, RC.inn, XX, CC, Nat.reduceAdd, Nat.reduceSub, Nat.reduceLeDiff, Nat.reduceLT, Nat.reduceEqDiff, reduceIte, ↓reduceIte, Nat.reduceBEq, g7, hl, Option.toList_some, List.length_append, List.length_singleton, w64_pred (show o.length < 4611686018427387904 by omega), dec_t (show (o.length : Int) ≥ 0 by omega), b2, b3]
      refine (next_r _ b hbw).use ?_
      simp only [XX, CC, Nat.reduceAdd, Nat.reduceSub, Nat.reduceLeDiff, Nat.reduceLT, Nat.reduceEqDiff, reduceIte, ↓reduceIte, Nat.reduceBEq, set_AA, ovr_f hov, Bool.not_false]
      refine drw_in [] rfl ?_
      simp only [List.append_nil, DD, CC, Nat.reduceAdd, Nat.reduceSub, Nat.reduceLeDiff, Nat.reduceLT, Nat.reduceEqDiff, reduceIte, ↓reduceIte, Nat.reduceBEq, g6, g7, g8, g9, h1, h2, eq_A, hm, dec_f hc]
      refine happ _ [_, _] ?_ ?_ ?_ ?_ (by simp) ?_ ?_ ?_ ?_ ?_ <;> (try simp only [XX, CC, Nat.reduceAdd, Nat.reduceSub, Nat.reduceLeDiff, Nat.reduceLT, Nat.reduceEqDiff, reduceIte, ↓reduceIte, Nat.reduceBEq, g6, g7, g8, g9])
      exact (if_neg (by omega)).mpr ⟨rfl, rfl⟩

set_option maxHeartbeats 4000000 in
/-- The last of a segment, then what made does with it. -/
theorem made_c {n : Nat} {base t : St} {vo v3 : AV} {o : List (Nat × Nat)} {cur : Option (Nat × Nat)} {q z i c2 o2 : Nat} {e : Env} {E : List Nat} {Q : XE → Env → St → Prop} (hol : o.length + cur.toList.length < 1000000000000)
    (ho : Own n 4 cR t vo (o ++ cur.toList)) (hn : n ≤ t.length) (hx : Ext base t) (hb : base.length ≤ n) (g6 : e.get 6 = v3) (g7 : e.get 7 = vo) (g8 : e.get 8 = .int .i64 i) (g9 : e.get 9 = .ptr t.length 0)
    (hcn : cur = none → o = []) (hcq : ∀ p, cur = some p → p.2 < 340282366920938463463374607431768211456) (hi : i < 4611686018427387904)
    (h1 : ∀ k : IntKind, ixaA 2 v3 (.int k (i : Int)) = some (.ptr c2 o2)) (h2 : ∀ l, ldA (t ++ l) (some 2) (.ptr c2 o2) = some (aA q))
    (hE : Rd 2 cA t v3 E) (hlt : ∀ x ∈ E, x < 340282366920938463463374607431768211456) (hasc : Asc (q + 1) (E.drop (i + 1))) (hz : z = nxt 340282366920938463463374607431768211456 (E.drop (i + 1)))
    (hK : MadeK n base e q z o cur Q) : awp (Run T) madeC Q e (t ++ [.cells true (cA (340282366920938463463374607431768211456 - 1))]) := by
  obtain ⟨TAIL, hT⟩ : ∃ c, c = RC.seq madeC.snd.fst (.seq madeC.snd.snd.fst madeC.snd.snd.snd) := ⟨_, rfl⟩
  have hC : madeC = .seq madeC.fst TAIL := by rw [hT]; rfl
  have hk := fun e' a b c d f g h k => made_k (n := n) (base := base) (t := t) (vo := vo) (v3 := v3) (o := o) (cur := cur) (q := q) (z := z) (i := i) (e := e') (c2 := c2) (o2 := o2) (Q := Q) hol ho hn hx hb a b c d hcn hcq h1 h2
    (fun e'' t' o' c' h0 h1 h6 h8 => hK e'' t' o' c' (h0.trans f) (h1.trans g) (h6.trans h) (h8.trans k))
  rw [← hT] at hk
  rw [hC]
  have hEl := hE.len
  by_cases h' : i + 1 < E.length
  · obtain ⟨q2, hq2, hd2⟩ := drop_get h'
    obtain ⟨c3, o3, h3, h4, h5⟩ := rdA hE hq2
    rw [hd2] at hasc hz
    have hq2w := hlt q2 (List.mem_of_getElem? hq2)
    have hm : (q2 + 340282366920938463463374607431768211456 - 1) % 340282366920938463463374607431768211456 = z := by have := hasc.1; rw [hz]; show _ = q2 - 1; omega
    simp only [madeC, r_r03_made, RC.fst, RC.snd, RC.inn, XX, CC, Nat.reduceAdd, Nat.reduceSub, Nat.reduceLeDiff, Nat.reduceLT, Nat.reduceEqDiff, reduceIte, ↓reduceIte, Nat.reduceBEq, g6, g8, hEl, w64_nat hi, dec_t (show ((i + 1 : Nat) : Int) < E.length by omega), h3, h5]
    refine (ahead_r _ q2 hq2w).use ?_
    simp only [XX, CC, Nat.reduceAdd, Nat.reduceSub, Nat.reduceLeDiff, Nat.reduceLT, Nat.reduceEqDiff, reduceIte, ↓reduceIte, Nat.reduceBEq, g9, set_AA, hm]
    refine hk _ ?_ ?_ ?_ ?_ ?_ ?_ ?_ ?_ <;> simp only [XX, CC, Nat.reduceAdd, Nat.reduceSub, Nat.reduceLeDiff, Nat.reduceLT, Nat.reduceEqDiff, reduceIte, ↓reduceIte, Nat.reduceBEq, g6, g7, g8, g9]
  · rw [List.drop_of_length_le (by omega)] at hz
    have hz' : z = 340282366920938463463374607431768211456 - 1 := hz
    rw [hz'] at hk
    simp only [madeC, r_r03_made, RC.fst, RC.snd, RC.inn, XX, CC, Nat.reduceAdd, Nat.reduceSub, Nat.reduceLeDiff, Nat.reduceLT, Nat.reduceEqDiff, reduceIte, ↓reduceIte, Nat.reduceBEq, g6, g8, hEl, w64_nat hi, dec_f (show ¬ ((i + 1 : Nat) : Int) < E.length by omega)]
    refine hk _ ?_ ?_ ?_ ?_ ?_ ?_ ?_ ?_ <;> simp only [XX, CC, Nat.reduceAdd, Nat.reduceSub, Nat.reduceLeDiff, Nat.reduceLT, Nat.reduceEqDiff, reduceIte, ↓reduceIte, Nat.reduceBEq, g6, g7, g8, g9]

def madeB (TAIL : RC) : RC :=
  let b := r_r03_made.body
  let w := b.snd.snd.snd.snd.snd.snd
  let l := w.fst.snd.inn.inn
  .seq b.fst (.seq b.snd.fst (.seq b.snd.snd.fst (.seq b.snd.snd.snd.fst (.seq b.snd.snd.snd.snd.fst (.seq b.snd.snd.snd.snd.snd.fst (.seq (.seq w.fst.fst (.block 0 (.loop (.seq l.fst (.seq (.block 1 (.seq l.snd.fst.inn.fst (.seq l.snd.fst.inn.snd.fst TAIL))) l.snd.snd))))) w.snd))))))
set_option maxHeartbeats 8000000 in
/-- tenancyref03.made -/
theorem made_r (s : St) (v w : AV) (yes no : List (Nat × Nat)) (hl : yes.length + no.length < 10000000) (hy : Wf yes) (hn : Wf no) (hv : Rd 4 cR s v yes) (hw : Rd 4 cR s w no) : Run T f_r03_made [v, w] s (Out 4 cR s (madeL 340282366920938463463374607431768211456 yes no)) := by
  have hwf : Wf (yes ++ no) := fun r hr => (List.mem_append.1 hr).elim (hy r) (hn r)
  refine run_body (F := r_r03_made) rfl (by simp [r_r03_made]) ?_
  obtain ⟨v1, t1, a1, a2, a3, a4, a5, a6⟩ := own_app (by_ := 32) (n := s.length) (t := s ++ [.cells true []]) (v := .sl s.length 0 4 0 (some 0)) (l := []) (.inr ⟨s.length, some 0, [], Nat.le_refl _, .inr rfl, rfl, get_last, rfl⟩) (by simp) (hv.ext ⟨_, rfl⟩) cR_len cR_cell (by simp; omega)
  have hx1 := a5 s (Nat.le_refl _) ⟨_, rfl⟩
  obtain ⟨v2, t2, b1, b2, b3, b4, b5, b6⟩ := own_app (by_ := 32) (y := w) a2 hx1.len (hw.ext hx1) cR_len cR_cell (by simp; omega)
  have hx2 := b5 s (Nat.le_refl _) hx1
  simp only [List.nil_append] at b2
  obtain ⟨TAIL, hT⟩ : ∃ c, c = madeC := ⟨_, rfl⟩
  have hb1 : r_r03_made.body = madeB TAIL := by rw [hT]; rfl
  have hc := fun n base t vo v3 o cur q z i c2 o2 e E Q => made_c (n := n) (base := base) (t := t) (vo := vo) (v3 := v3) (o := o) (cur := cur) (q := q) (z := z) (i := i) (c2 := c2) (o2 := o2) (e := e) (E := E) (Q := Q)
  rw [← hT] at hc
  rw [hb1]
  simp only [madeB, r_r03_made, RC.fst, RC.snd, RC.inn, XX, CC, Nat.reduceAdd, Nat.reduceSub, Nat.reduceLeDiff, Nat.reduceLT, Nat.reduceEqDiff, reduceIte, ↓reduceIte, Nat.reduceBEq, a1, b1]
  refine Run.mono _ _ _ _ _ ?_ (edges_r t2 v2 (yes ++ no) (by simp; omega) hwf (b2.rd cR_len))
  intro v3 t3 ho3
  have hx3 := hx2.trans ho3.ext
  have hE := ho3.rd cA_len
  have hElt := edges_lt (M := 340282366920938463463374607431768211456) hwf (by decide)
  have hEl := edgesL_length 340282366920938463463374607431768211456 (yes ++ no) [0]
  have hA : Asc 0 (edgesL 340282366920938463463374607431768211456 (yes ++ no) [0]) := edgesL_asc _ ⟨Nat.le_refl _, trivial⟩
  have hmd : madeL 340282366920938463463374607431768211456 yes no = go 340282366920938463463374607431768211456 (refP yes no) none (edgesL 340282366920938463463374607431768211456 (yes ++ no) [0]) := rfl
  generalize edgesL 340282366920938463463374607431768211456 (yes ++ no) [0] = E at hE hElt hEl hA hmd
  simp only [List.length_append, List.length_singleton] at hEl
  refine awp_loop (fun d e t => Ext t3 t ∧ ∃ (i : Nat) (vo : AV) (o : List (Nat × Nat)) (cur : Option (Nat × Nat)) (lo : Nat), i + d = E.length ∧ e.get 0 = v ∧ e.get 1 = w ∧ e.get 6 = v3 ∧ e.get 7 = vo ∧ e.get 8 = .int .i64 i ∧
    Own t3.length 4 cR t vo (o ++ cur.toList) ∧ (cur = none → o = []) ∧ (∀ q, cur = some q → q.2 < 340282366920938463463374607431768211456) ∧ o.length + cur.toList.length ≤ i ∧ Asc lo (E.drop i) ∧ madeL 340282366920938463463374607431768211456 yes no = o ++ go 340282366920938463463374607431768211456 (refP yes no) cur (E.drop i)) E.length ?_ ?_
  · refine ⟨⟨_, rfl⟩, 0, _, [], none, 0, by omega, ?_, ?_, ?_, ?_, ?_, .inr ⟨t3.length, some 0, [], Nat.le_refl _, .inr rfl, rfl, by simp, rfl⟩, fun _ => rfl, by simp, by simp, hA, hmd⟩ <;> (try simp only [XX, CC, Nat.reduceAdd, Nat.reduceSub, Nat.reduceLeDiff, Nat.reduceLT, Nat.reduceEqDiff, reduceIte, ↓reduceIte, Nat.reduceBEq]) <;> rfl
  rintro d e t ⟨hx, i, vo, o, cur, lo, hi, g0, g1, g6, g7, g8, ho, hcn, hcq, hol, hasc, hd0⟩
  have hxs := hx3.trans hx
  have hEt := hE.ext hx
  simp only [XX, CC, Nat.reduceAdd, Nat.reduceSub, Nat.reduceLeDiff, Nat.reduceLT, Nat.reduceEqDiff, reduceIte, ↓reduceIte, Nat.reduceBEq, g0, g1, g6, g7, g8, hEt.len]
  by_cases h : i < E.length
  · obtain ⟨q, hq, hd⟩ := drop_get h
    obtain ⟨c2, o2, h1, h2, h2'⟩ := rdA hEt hq
    have hqw := hElt q (List.mem_of_getElem? hq)
    rw [hd] at hasc hd0
    have hnx : nxt 340282366920938463463374607431768211456 (E.drop (i + 1)) < 340282366920938463463374607431768211456 := nxt_lt (fun x hx => hElt x (List.mem_of_mem_drop hx)) (by decide)
    have skip : refP yes no q = false → madeL 340282366920938463463374607431768211456 yes no = o ++ go 340282366920938463463374607431768211456 (refP yes no) cur (E.drop (i + 1)) := fun hp => by
      rcases cur with _ | ⟨a, b⟩
      · rw [hd0, go_none, if_neg (by rw [hp]; decide)]
      · rw [hd0, go_some, if_neg (by rw [hp]; decide)]
    have hM : [AV.int .u64 18446744073709551615, AV.int .u64 18446744073709551615] = cA (340282366920938463463374607431768211456 - 1) := rfl
    simp only [dec_t (show (i : Int) < E.length by omega), XX, CC, Nat.reduceAdd, Nat.reduceSub, Nat.reduceLeDiff, Nat.reduceLT, Nat.reduceEqDiff, reduceIte, ↓reduceIte, Nat.reduceBEq, g0, g1, g6, g7, g8, h1, h2]
    refine (in_r _ v yes q hqw (by omega) hy (hv.ext hxs)).use ?_
    cases c1 : inL yes q
    · simp only [XX, CC, Nat.reduceAdd, Nat.reduceSub, Nat.reduceLeDiff, Nat.reduceLT, Nat.reduceEqDiff, reduceIte, ↓reduceIte, Nat.reduceBEq, g0, g1, g6, g7, g8, Bool.not_false]
      refine loop_again ⟨d - 1, by omega, hx, i + 1, vo, o, cur, q + 1, by omega, ?_, ?_, ?_, ?_, ?_, ho, hcn, hcq, by omega, hasc.2, skip (by unfold refP; rw [c1]; rfl)⟩ <;> (try simp only [XX, CC, Nat.reduceAdd, Nat.reduceSub, Nat.reduceLeDiff, Nat.reduceLT, Nat.reduceEqDiff, reduceIte, ↓reduceIte, Nat.reduceBEq, g0, g1, g6, g7, g8])
      rw [w64_nat (by omega)]
    simp only [XX, CC, Nat.reduceAdd, Nat.reduceSub, Nat.reduceLeDiff, Nat.reduceLT, Nat.reduceEqDiff, reduceIte, ↓reduceIte, Nat.reduceBEq, g0, g1, g6, g7, g8, Bool.not_true, h1, h2]
    refine (in_r _ w no q hqw (by omega) hn (hw.ext hxs)).use ?_
    cases c2' : inL no q
    · have hp : refP yes no q = true := by unfold refP; rw [c1, c2']; rfl
      simp only [XX, CC, Nat.reduceAdd, Nat.reduceSub, Nat.reduceLeDiff, Nat.reduceLT, Nat.reduceEqDiff, reduceIte, ↓reduceIte, Nat.reduceBEq, g0, g1, g6, g7, g8, hM]
      refine hc t3.length t3 t vo v3 o cur q _ i c2 o2 _ E _ (by omega) ho hx.len hx (Nat.le_refl _) ?_ ?_ ?_ ?_ hcn hcq (by omega) h1 h2' hEt hElt hasc.2 rfl ?_
      rotate_left 4
      · intro e' t' o' c' k0 k1 k6 k8 hoo hxx hst
        simp only [XX, CC, Nat.reduceAdd, Nat.reduceSub, Nat.reduceLeDiff, Nat.reduceLT, Nat.reduceEqDiff, reduceIte, ↓reduceIte, Nat.reduceBEq, g0, g1, g6, g7, g8] at k0 k1 k6 k8
        have hlen := stepP_len hst
        have hsnd := stepP_snd hst
        have hgo := stepP_go hst hp
        simp only [XX, CC, Nat.reduceAdd, Nat.reduceSub, Nat.reduceLeDiff, Nat.reduceLT, Nat.reduceEqDiff, reduceIte, ↓reduceIte, Nat.reduceBEq, k8]
        have hend : ∀ e'' : Env, e''.get 0 = v → e''.get 1 = w → e''.get 6 = v3 → e''.get 7 = e'.get 7 → e''.get 8 = .int .i64 (i + 1 : Nat) → ∃ d', d' < d ∧ Ext t3 t' ∧ ∃ (i : Nat) (vo : AV) (o : List (Nat × Nat)) (cur : Option (Nat × Nat)) (lo : Nat), i + d' = E.length ∧ e''.get 0 = v ∧ e''.get 1 = w ∧ e''.get 6 = v3 ∧ e''.get 7 = vo ∧ e''.get 8 = .int .i64 i ∧
            Own t3.length 4 cR t' vo (o ++ cur.toList) ∧ (cur = none → o = []) ∧ (∀ q, cur = some q → q.2 < 340282366920938463463374607431768211456) ∧ o.length + cur.toList.length ≤ i ∧ Asc lo (E.drop i) ∧ madeL 340282366920938463463374607431768211456 yes no = o ++ go 340282366920938463463374607431768211456 (refP yes no) cur (E.drop i) := fun e'' j0 j1 j6 j7 j8 =>
          ⟨d - 1, by omega, hxx, i + 1, _, o', some c', q + 1, by omega, j0, j1, j6, j7, j8, hoo, (fun h => nomatch h), fun p hp' => by cases hp'; rw [hsnd]; exact hnx, by simp; omega, hasc.2, hd0.trans hgo⟩
        refine hend _ ?_ ?_ ?_ ?_ ?_ <;> simp only [XX, CC, Nat.reduceAdd, Nat.reduceSub, Nat.reduceLeDiff, Nat.reduceLT, Nat.reduceEqDiff, reduceIte, ↓reduceIte, Nat.reduceBEq, k0, k1, k6, w64_nat (show i < 4611686018427387904 by omega)]
      all_goals simp only [XX, CC, Nat.reduceAdd, Nat.reduceSub, Nat.reduceLeDiff, Nat.reduceLT, Nat.reduceEqDiff, reduceIte, ↓reduceIte, Nat.reduceBEq, g6, g7, g8]
    · simp only [XX, CC, Nat.reduceAdd, Nat.reduceSub, Nat.reduceLeDiff, Nat.reduceLT, Nat.reduceEqDiff, reduceIte, ↓reduceIte, Nat.reduceBEq, g0, g1, g6, g7, g8]
      refine loop_again ⟨d - 1, by omega, hx, i + 1, vo, o, cur, q + 1, by omega, ?_, ?_, ?_, ?_, ?_, ho, hcn, hcq, by omega, hasc.2, skip (by unfold refP; rw [c1, c2']; rfl)⟩ <;> (try simp only [XX, CC, Nat.reduceAdd, Nat.reduceSub, Nat.reduceLeDiff, Nat.reduceLT, Nat.reduceEqDiff, reduceIte, ↓reduceIte, Nat.reduceBEq, g0, g1, g6, g7, g8])
      rw [w64_nat (by omega)]
  · simp only [dec_f (show ¬ (i : Int) < E.length by omega), XX, CC, Nat.reduceAdd, Nat.reduceSub, Nat.reduceLeDiff, Nat.reduceLT, Nat.reduceEqDiff, reduceIte, ↓reduceIte, Nat.reduceBEq, g7]
    rw [List.drop_of_length_le (by omega)] at hd0
    refine ret_own1 ho hx3.len hxs cR_un fun v' s' h => ?_
    rw [hd0]; exact h
end Go.Ev

/-! The reference's Put, Drop and Less; the laws' small and same. -/
namespace Go.Ev
set_option linter.unusedVariables false
set_option linter.unusedSimpArgs false
open Go.Ev.Sp

set_option maxHeartbeats 2000000 in
/-- tenancyref03.Drop -/
theorem rdrop_r (s : St) (v : AV) (set : List (Nat × Nat)) (a b : Nat) (hl : set.length < 9999999) (hw : Wf set) (ha : a < 340282366920938463463374607431768211456) (hb : b < 340282366920938463463374607431768211456) (hv : Rd 4 cR s v set) :
    Run T f_r03_Drop [v, aR (a, b)] s (Ans s (sndB 0 set && decide (a ≤ b)) (dropL a b set)) := by
  refine run_body (F := r_r03_Drop) rfl (by simp [r_r03_Drop]) ?_
  simp only [r_r03_Drop, XX, CC, Nat.reduceAdd, Nat.reduceSub, Nat.reduceLeDiff, Nat.reduceLT, Nat.reduceEqDiff, reduceIte, ↓reduceIte, Nat.reduceBEq, hv.len]
  refine (rsound_r _ v set (by omega) hw (hv.ext ⟨_, rfl⟩)).use ?_
  cases hs : sndB 0 set
  · simp only [XX, CC, Nat.reduceAdd, Nat.reduceSub, Nat.reduceLeDiff, Nat.reduceLT, Nat.reduceEqDiff, reduceIte, ↓reduceIte, Nat.reduceBEq, Bool.not_false]
    exact ret_drop ⟨_, rfl⟩ rfl ans_no
  simp only [XX, CC, Nat.reduceAdd, Nat.reduceSub, Nat.reduceLeDiff, Nat.reduceLT, Nat.reduceEqDiff, reduceIte, ↓reduceIte, Nat.reduceBEq, Bool.not_true]
  refine (le_r _ a b ha hb).use ?_
  cases hr : decide (a ≤ b)
  · simp only [XX, CC, Nat.reduceAdd, Nat.reduceSub, Nat.reduceLeDiff, Nat.reduceLT, Nat.reduceEqDiff, reduceIte, ↓reduceIte, Nat.reduceBEq, Bool.not_false]
    exact ret_drop ⟨_, rfl⟩ rfl ans_no
  simp only [XX, CC, Nat.reduceAdd, Nat.reduceSub, Nat.reduceLeDiff, Nat.reduceLT, Nat.reduceEqDiff, reduceIte, ↓reduceIte, Nat.reduceBEq, Bool.not_true, hv.len]
  refine Run.mono _ _ _ _ _ ?_ (made_r _ v _ set [(a, b)] (by simp; omega) hw (by intro r hr; simp at hr; subst hr; exact ⟨ha, hb⟩) (hv.ext ⟨_, rfl⟩) (rd_lit (by simp) cR_len rfl))
  intro v' t' ho
  refine ret_own ho.own (by simp) (Ext.trans ⟨_, rfl⟩ ho.ext) cR_un rfl fun v2 s2 h => ⟨_, rfl, ?_⟩
  simp at hr
  rw [drop_made ((sndB_iff hw).1 hs) hr hb]
  exact h

set_option maxHeartbeats 2000000 in
/-- tenancyref03.Put -/
theorem rput_r (s : St) (v : AV) (set : List (Nat × Nat)) (a b : Nat) (hl : set.length < 9999999) (hw : Wf set) (ha : a < 340282366920938463463374607431768211456) (hb : b < 340282366920938463463374607431768211456) (hv : Rd 4 cR s v set) :
    Run T f_r03_Put [v, aR (a, b)] s (Ans s (sndB 0 set && decide (a ≤ b)) (putL [] [] a b set)) := by
  refine run_body (F := r_r03_Put) rfl (by simp [r_r03_Put]) ?_
  obtain ⟨v1, t1, a1, a2, a3, a4, a5, a6⟩ := own_app (by_ := 32) (n := s.length) (t := s ++ [.cells true (cR (a, b)), .cells true (cR (a, b))]) (v := .sl (s.length + 1) 0 4 1 (some 1)) (l := [(a, b)]) (.inr ⟨s.length + 1, some 1, [], by omega, .inr rfl, rfl, by simp, rfl⟩) (by simp) (hv.ext ⟨_, rfl⟩) cR_len cR_cell (by simp; omega)
  have hx1 := a5 s (Nat.le_refl _) ⟨_, rfl⟩
  simp only [r_r03_Put, XX, CC, Nat.reduceAdd, Nat.reduceSub, Nat.reduceLeDiff, Nat.reduceLT, Nat.reduceEqDiff, reduceIte, ↓reduceIte, Nat.reduceBEq, hv.len]
  refine (rsound_r _ v set (by omega) hw (hv.ext ⟨_, rfl⟩)).use ?_
  cases hs : sndB 0 set
  · simp only [XX, CC, Nat.reduceAdd, Nat.reduceSub, Nat.reduceLeDiff, Nat.reduceLT, Nat.reduceEqDiff, reduceIte, ↓reduceIte, Nat.reduceBEq, Bool.not_false]
    exact ret_drop ⟨_, rfl⟩ rfl ans_no
  simp only [XX, CC, Nat.reduceAdd, Nat.reduceSub, Nat.reduceLeDiff, Nat.reduceLT, Nat.reduceEqDiff, reduceIte, ↓reduceIte, Nat.reduceBEq, Bool.not_true]
  refine (le_r _ a b ha hb).use ?_
  cases hr : decide (a ≤ b)
  · simp only [XX, CC, Nat.reduceAdd, Nat.reduceSub, Nat.reduceLeDiff, Nat.reduceLT, Nat.reduceEqDiff, reduceIte, ↓reduceIte, Nat.reduceBEq, Bool.not_false]
    exact ret_drop ⟨_, rfl⟩ rfl ans_no
  simp only [XX, CC, Nat.reduceAdd, Nat.reduceSub, Nat.reduceLeDiff, Nat.reduceLT, Nat.reduceEqDiff, reduceIte, ↓reduceIte, Nat.reduceBEq, Bool.not_true, a1]
  refine Run.mono _ _ _ _ _ ?_ (made_r _ v1 _ ((a, b) :: set) [] (by simp; omega) (fun r hr => (List.mem_cons.1 hr).elim (fun h => by subst h; exact ⟨ha, hb⟩) (hw r)) (by simp [Wf]) (a2.rd cR_len) Rd.nil)
  intro v' t' ho
  refine ret_own ho.own hx1.len (hx1.trans ho.ext) cR_un rfl fun v2 s2 h => ⟨_, rfl, ?_⟩
  simp at hr
  have hS := (sndB_iff hw).1 hs
  rw [putL_eq hr hS, List.nil_append, put_made hS hr hb]
  exact h

/-- small -/
theorem small_r (s : St) (a b : Nat) (ha : a < 18446744073709551616) (hb : b < 18446744073709551616) : RunD T f_w12_small [.int .u64 a, .int .u64 b] s (aR (a, b)) s := by
  have h : ∀ x : Nat, x < 18446744073709551616 → H x = 0 ∧ L x = x := fun x hx => by unfold H L; omega
  refine run_body (F := r_w12_small) rfl (by simp [r_w12_small]) ?_
  simp only [r_w12_small, XX, CC, Nat.reduceAdd, Nat.reduceSub, Nat.reduceLeDiff, Nat.reduceLT, Nat.reduceEqDiff, reduceIte, ↓reduceIte, Nat.reduceBEq]
  refine ret_drop ⟨_, rfl⟩ rfl ⟨?_, rfl⟩
  simp only [aR, cR, (h a ha).1, (h a ha).2, (h b hb).1, (h b hb).2]

theorem eq_R (p q : Nat × Nat) : eqA (.st (.sub 0 2 (.st (.one 0 .i (.one 1 .i .nil))) (.sub 2 2 (.st (.one 0 .i (.one 1 .i .nil))) .nil))) (aR p) (aR q) = some (decide (p = q)) := by
  show eqL (.sub 0 2 _ (.sub 2 2 _ .nil)) (cR p) (cR q) = _
  have e1 : eqA (.st (.one 0 .i (.one 1 .i .nil))) (.agg (((cR p).drop 0).take 2)) (.agg (((cR q).drop 0).take 2)) = some (decide (p.1 = q.1)) := eq_A p.1 q.1
  have e2 : eqA (.st (.one 0 .i (.one 1 .i .nil))) (.agg (((cR p).drop 2).take 2)) (.agg (((cR q).drop 2).take 2)) = some (decide (p.2 = q.2)) := eq_A p.2 q.2
  have hp : ∀ x, (cR x).length = 4 := cR_len
  simp only [eqL, hp, e1, e2]
  by_cases h1 : p.1 = q.1 <;> by_cases h2 : p.2 = q.2 <;> simp [h1, h2, Prod.ext_iff]

set_option maxHeartbeats 2000000 in
/-- same -/
theorem same_r (s : St) (v w : AV) (l m : List (Nat × Nat)) (hl : l.length < 4611686018427387904) (hv : Rd 4 cR s v l) (hw : Rd 4 cR s w m) : RunD T f_w12_same [v, w] s (.bool (decide (l = m))) s := by
  refine run_body (F := r_w12_same) rfl (by simp [r_w12_same]) ?_
  by_cases hlm : l.length = m.length
  · have hb : ((l.length : Int) == (m.length : Int)) = true := by rw [hlm]; simp
    simp only [r_w12_same, XX, CC, Nat.reduceAdd, Nat.reduceSub, Nat.reduceLeDiff, Nat.reduceLT, Nat.reduceEqDiff, reduceIte, ↓reduceIte, Nat.reduceBEq, hv.len, hw.len, hb, Bool.not_true]
    refine awp_loop (fun d e t => t = s ∧ ∃ i : Nat, i + d = l.length ∧ e.get 0 = v ∧ e.get 1 = w ∧ e.get 5 = .int .i64 i ∧ l.take i = m.take i) l.length ?_ ?_
    · refine ⟨rfl, 0, by omega, ?_, ?_, ?_, rfl⟩ <;> (try simp only [XX, CC, Nat.reduceAdd, Nat.reduceSub, Nat.reduceLeDiff, Nat.reduceLT, Nat.reduceEqDiff, reduceIte, ↓reduceIte, Nat.reduceBEq]) <;> rfl
    rintro d e t ⟨ht, i, hi, g0, g1, g5, hp⟩
    subst ht
    simp only [XX, CC, Nat.reduceAdd, Nat.reduceSub, Nat.reduceLeDiff, Nat.reduceLT, Nat.reduceEqDiff, reduceIte, ↓reduceIte, Nat.reduceBEq, g0, g1, g5, hv.len]
    by_cases h : i < l.length
    · obtain ⟨q, hq, hd⟩ := drop_get h
      obtain ⟨q2, hq2, hd2⟩ := drop_get (l := m) (i := i) (by omega)
      obtain ⟨b2, o2, h1, h2⟩ := rdR hv hq
      obtain ⟨b3, o3, h3, h4⟩ := rdR hw hq2
      simp only [dec_t (show (i : Int) < l.length by omega), XX, CC, Nat.reduceAdd, Nat.reduceSub, Nat.reduceLeDiff, Nat.reduceLT, Nat.reduceEqDiff, reduceIte, ↓reduceIte, Nat.reduceBEq, g0, g1, g5]
      refine drw_in [] rfl ?_
      simp only [List.append_nil, DD, CC, Nat.reduceAdd, Nat.reduceSub, Nat.reduceLeDiff, Nat.reduceLT, Nat.reduceEqDiff, reduceIte, ↓reduceIte, Nat.reduceBEq, g0, g1, g5, h1, h2, h3, h4, eq_R]
      cases c : decide (q = q2)
      · simp only [DD, CC, Nat.reduceAdd, Nat.reduceSub, Nat.reduceLeDiff, Nat.reduceLT, Nat.reduceEqDiff, reduceIte, ↓reduceIte, Nat.reduceBEq, Bool.not_false]
        refine ret_drop (.refl _) rfl ⟨?_, rfl⟩
        simp at c
        rw [dec_f (fun h => c (by subst h; exact Option.some.inj (hq.symm.trans hq2)))]
      · simp only [DD, CC, Nat.reduceAdd, Nat.reduceSub, Nat.reduceLeDiff, Nat.reduceLT, Nat.reduceEqDiff, reduceIte, ↓reduceIte, Nat.reduceBEq, Bool.not_true, g0, g1, g5]
        simp at c
        subst c
        refine loop_again ⟨d - 1, by omega, rfl, i + 1, by omega, ?_, ?_, ?_, ?_⟩ <;> (try simp only [XX, CC, Nat.reduceAdd, Nat.reduceSub, Nat.reduceLeDiff, Nat.reduceLT, Nat.reduceEqDiff, reduceIte, ↓reduceIte, Nat.reduceBEq, g0, g1, g5])
        · rw [w64_nat (by omega)]
        · rw [List.take_add_one, List.take_add_one, hp, hq, hq2]
    · simp only [dec_f (show ¬ (i : Int) < l.length by omega), XX, CC, Nat.reduceAdd, Nat.reduceSub, Nat.reduceLeDiff, Nat.reduceLT, Nat.reduceEqDiff, reduceIte, ↓reduceIte, Nat.reduceBEq]
      refine ret_drop (.refl _) rfl ⟨?_, rfl⟩
      rw [List.take_of_length_le (by omega), List.take_of_length_le (by omega)] at hp
      rw [dec_t hp]
  · have hb : ((l.length : Int) == (m.length : Int)) = false := by simp; omega
    simp only [r_w12_same, XX, CC, Nat.reduceAdd, Nat.reduceSub, Nat.reduceLeDiff, Nat.reduceLT, Nat.reduceEqDiff, reduceIte, ↓reduceIte, Nat.reduceBEq, hv.len, hw.len, hb, Bool.not_false]
    refine ret_drop (.refl _) rfl ⟨?_, rfl⟩
    rw [dec_f (fun h => hlm (by rw [h]))]
end Go.Ev

/-! Tools for laws over sets of ranges. -/
namespace Go.Ev
set_option linter.unusedVariables false
set_option linter.unusedSimpArgs false
open Go.Ev.Sp

theorem Ans.yes {s t : St} {ok : Bool} {l m : List (Nat × Nat)} {r : AV} (h : Ans s ok l r t) (hok : ok = true) (hl : l = m) : ∃ v, r = .tup [v, .int .i64 0] ∧ Out 4 cR s m v t := by
  subst hok hl; exact h
theorem Ans.out {s t : St} {ok : Bool} {l : List (Nat × Nat)} {r : AV} (h : Ans s ok l r t) : ∃ v, r = .tup [v, .int .i64 (if ok then 0 else 1)] ∧ Out 4 cR s (if ok then l else []) v t := h

theorem lessL_len : ∀ {t s : List (Nat × Nat)} {lo lo' : Nat}, Snd 340282366920938463463374607431768211456 lo s → Snd 340282366920938463463374607431768211456 lo' t → (lessL s t).length ≤ s.length + t.length
  | [], _, _, _, h, _ => by simp [lessL]
  | r :: t, s, _, _, h, h2 => by
    have h3 := dropL_length1 h2.2.1 h
    have := lessL_len (dropL_snd h2.2.1 h) h2.2.2.2
    unfold lessL
    rw [List.length_cons]
    omega
theorem put_len {set : List (Nat × Nat)} {a b : Nat} (hw : Wf set) (h : (sndB 0 set && decide (a ≤ b)) = true) : (putL [] [] a b set).length ≤ set.length + 1 := by
  simp only [Bool.and_eq_true, decide_eq_true_eq] at h
  rw [putL_eq h.2 ((sndB_iff hw).1 h.1), List.nil_append]
  exact putS_length _ _ _
theorem less_len {set oth : List (Nat × Nat)} (hw : Wf set) (hw' : Wf oth) (h : (sndB 0 set && sndB 0 oth) = true) : (lessL set oth).length ≤ set.length + oth.length := by
  simp only [Bool.and_eq_true] at h
  exact lessL_len ((sndB_iff hw).1 h.1) ((sndB_iff hw').1 h.2)
theorem if_len {c : Bool} {l : List (Nat × Nat)} {n : Nat} (h : c = true → l.length ≤ n) : (if c then l else []).length ≤ n := by
  cases c
  · exact Nat.zero_le _
  · exact h rfl

theorem cnt_same {set : List (Nat × Nat)} (hw : Wf set) : cntV set = rcntV set := by
  unfold cntV rcntV
  split
  · rename_i h
    rw [decide_eq_decide.2 (cnt_all ((sndB_iff hw).1 h))]
  · rfl
theorem nthV_at (set : List (Nat × Nat)) (n : Nat) : ∃ (x : Nat) (b : Bool), nthV set n = .tup [aA x, .bool b] := by
  unfold nthV
  split
  · split
    · exact ⟨_, _, rfl⟩
    · exact ⟨_, _, rfl⟩
  · exact ⟨_, _, rfl⟩
theorem cntV_at (set : List (Nat × Nat)) : ∃ (x : Nat) (b : Bool), cntV set = .tup [aA x, .bool b] := by
  unfold cntV
  split
  · exact ⟨_, _, rfl⟩
  · exact ⟨_, _, rfl⟩

/-- A loop, what it comes back to being a mere name. -/
theorem awp_rounds {T : Nat → Option RF} {c : RC} {Q : XE → Env → St → Prop} {e : Env} {s : St} (I : Nat → Env → St → Prop) (d : Nat) (h0 : I d e s)
    (round : ∀ (J : Env → St → Prop) d e s, (∀ d' e' s', d' < d → I d' e' s' → J e' s') → I d e s → awp (Run T) c (loopK J Q) e s) : awp (Run T) (.loop c) Q e s :=
  awp_loop I d h0 fun d e s h => round _ d e s (fun d' e' s' hd hi => ⟨d', hd, hi⟩) h

def builtL : List (Nat × Nat) → List (Nat × Nat) → List (Nat × Nat)
  | set, [] => set
  | set, q :: l => builtL (if q.1 ≤ q.2 then putS q.1 q.2 set else set) l
theorem builtL_cons (set : List (Nat × Nat)) (q : Nat × Nat) (l : List (Nat × Nat)) : builtL set (q :: l) = builtL (if q.1 ≤ q.2 then putS q.1 q.2 set else set) l := rfl
theorem putS_ok {set : List (Nat × Nat)} {q : Nat × Nat} (hs : Snd 340282366920938463463374607431768211456 0 set) (hq : q.2 < 340282366920938463463374607431768211456) : Snd 340282366920938463463374607431768211456 0 (if q.1 ≤ q.2 then putS q.1 q.2 set else set) := by
  split
  · rename_i h; exact putS_snd h hq (Nat.zero_le _) hs
  · exact hs
theorem Snd.toWf {set : List (Nat × Nat)} {lo : Nat} (h : Snd 340282366920938463463374607431768211456 lo set) : Wf set := fun r hr => by
  have := Snd.wf h r hr
  omega
theorem builtL_snd : ∀ {l set : List (Nat × Nat)}, Snd 340282366920938463463374607431768211456 0 set → Wf l → Snd 340282366920938463463374607431768211456 0 (builtL set l)
  | [], _, h, _ => h
  | q :: l, set, h, hw => builtL_snd (l := l) (set := if q.1 ≤ q.2 then putS q.1 q.2 set else set) (putS_ok h hw.cons.1.2) hw.cons.2
theorem builtL_len : ∀ (l set : List (Nat × Nat)), (builtL set l).length ≤ set.length + l.length
  | [], _ => by simp [builtL]
  | q :: l, set => by
    have h1 := builtL_len l (if q.1 ≤ q.2 then putS q.1 q.2 set else set)
    have h2 := putS_length set q.1 q.2
    unfold builtL
    rw [List.length_cons]
    split at h1 <;> (rename_i h; simp only [h, if_true, if_false] at *; omega)
theorem builtL_mem {x : Nat} : ∀ {l set : List (Nat × Nat)}, Snd 340282366920938463463374607431768211456 0 set → Wf l → (mem (builtL set l) x ↔ mem set x ∨ mem l x)
  | [], set, _, _ => by simp [builtL, mem_nil]
  | q :: l, set, h, hw => by
    unfold builtL
    rw [builtL_mem (putS_ok h hw.cons.1.2) hw.cons.2, mem_cons]
    split
    · rename_i hq
      rw [putS_mem x hq fun r hr => (Snd.wf h r hr).1]
      constructor
      · rintro ((h | h) | h)
        · exact .inl h
        · exact .inr (.inl h)
        · exact .inr (.inr h)
      · rintro (h | h | h)
        · exact .inl (.inl h)
        · exact .inl (.inr h)
        · exact .inr h
    · rename_i hq
      constructor
      · rintro (h | h)
        · exact .inl h
        · exact .inr (.inr h)
      · rintro (h | h | h)
        · exact .inl h
        · omega
        · exact .inr h

theorem Ans.nope {s t : St} {l : List (Nat × Nat)} {r : AV} (h : Ans s false l r t) : ∃ v, r = .tup [v, .int .i64 1] ∧ Out 4 cR s [] v t := h
section
variable {α : Type} {e : Nat} {enc : α → List AV} {s : St} {v : AV} {l : List α}
theorem flat_first (he : ∀ x, (enc x).length = e) : ∀ (l : List α) (n : Nat), (l.take n).flatMap enc = (l.flatMap enc).take (n * e)
  | l, 0 => by simp
  | [], n + 1 => by simp
  | x :: l, n + 1 => by
    rw [List.take_succ_cons, List.flatMap_cons, List.flatMap_cons, flat_first he l n, Nat.succ_mul, Nat.add_comm, ← he x, List.take_append, List.take_of_length_le (Nat.le_add_right _ _)]
    congr 1; rw [Nat.add_sub_cancel_left]
/-- The first n of a slice. -/
theorem rd_take {n : Nat} (h : Rd e enc s v l) (he : ∀ x, (enc x).length = e) (hn : n ≤ l.length) : ∃ v', (∀ k : IntKind, slcA e v none (some (.int k (n : Int))) none = some v') ∧ Rd e enc s v' (l.take n) := by
  have h1 := h.len
  have h2 := h.cells
  have h3 := h.under
  cases v with
  | nils =>
    simp [lenlA] at h1
    have : l = [] := List.length_eq_zero_iff.1 (by omega)
    subst this
    simp at hn
    subst hn
    exact ⟨.nils, fun k => by simp [slcA, boundA], by simpa using h⟩
  | sl b o es m c =>
    simp [lenlA] at h1
    have hm : m = l.length := by omega
    subst hm
    simp only [cellsA] at h2
    split at h2 <;> try (simp at h2; done)
    rename_i cs hcs
    split at h2 <;> simp at h2
    rename_i hc
    obtain ⟨rfl, hc⟩ := hc
    refine ⟨.sl b o es n c, fun k => ?_, by simp [lenlA]; omega, ?_, h3⟩
    · have h0 : (0 : Int) ≤ (n : Int) ∧ (n : Int) ≤ (l.length : Int) := by omega
      simp [slcA, boundA, h0.2]
    · have hmul : n * es ≤ l.length * es := Nat.mul_le_mul_right _ hn
      simp only [cellsA, hcs, true_and]
      rw [if_pos (by omega), flat_first he, ← h2, List.take_take, Nat.min_eq_left hmul]
  | _ => simp [lenlA] at h1
end
theorem mks_0 {s : St} {e by_ : Nat} {z : List AV} {k : IntKind} {n : Nat} (hb : n * (by_ + 1) ≤ 35184372088832) : mksA s e by_ z (.int .i64 0) (.int k (n : Int)) = some (.sl s.length 0 e 0 none, s ++ [.cells true (List.replicate n z).flatten]) := by
  simp only [mksA]
  rw [if_pos (by have : ((n * (by_ + 1) : Nat) : Int) ≤ 35184372088832 := by omega
                 simp only [Int.natCast_mul, Int.natCast_add] at this
                 exact ⟨by omega, by omega, this⟩)]
  simp

theorem nilS : Snd 340282366920938463463374607431768211456 0 ([] : List (Nat × Nat)) := trivial
theorem ext_get {s t : St} (h : ∀ i, i < s.length → t[i]? = s[i]?) : Ext s t := by
  refine ⟨t.drop s.length, ?_⟩
  have : t.take s.length = s := by
    apply List.ext_getElem?
    intro i
    rw [List.getElem?_take]
    split
    · rename_i hi; exact h i hi
    · rename_i hi; rw [List.getElem?_eq_none (by omega)]
  conv => lhs; rw [← List.take_append_drop s.length t, this]
section
variable {α : Type} {e n : Nat} {enc : α → List AV} {s t : St} {v : AV} {l : List α}
theorem Rd.keep {t' : St} (h : Rd e enc t v l) (hk : ∀ i o e' k c, v = .sl i o e' k c → t'[i]? = t[i]?) (hl : t.length ≤ t'.length) : Rd e enc t' v l := by
  refine ⟨h.len, ?_, under_mono hl v h.under⟩
  have h2 := h.cells
  cases v with
  | sl b o es m c =>
    simp only [cellsA, rdB] at h2 ⊢
    rw [hk b o es m c rfl]; exact h2
  | nils => exact h2
  | _ => simp [cellsA] at h2
theorem Rd.lt (h : Rd e enc t v l) {i o e' k : Nat} {c : Option Nat} (hv : v = .sl i o e' k c) : i < t.length := by
  subst hv
  have := h.under
  simpa [AV.under] using this
theorem Own.ge (h : Own n e enc t v l) {i o e' k : Nat} {c : Option Nat} (hv : v = .sl i o e' k c) : n ≤ i := by
  rcases h with ⟨rfl, _⟩ | ⟨b, c2, cs, h1, _, rfl, _⟩
  · cases hv
  · cases hv; exact h1
/-- An element of an own slice is written. -/
theorem own_at {l : List (Nat × Nat)} (h : Own n 4 cR t v l) {i : Nat} (hi : i < l.length) (q : Nat × Nat) : ∃ b x, n ≤ b ∧ (∃ o e' k c, v = .sl b o e' k c) ∧ (∀ k : IntKind, ixaA 4 v (.int k (i : Int)) = some (.ptr b (i * 4))) ∧
    stA t (some 4) (.ptr b (i * 4)) (aR q) = some (t.set b x) ∧ Own n 4 cR (t.set b x) v (l.set i q) := by
  rcases h with ⟨_, h⟩ | ⟨b, c, cs, h3, h4, rfl, h5, h6⟩
  · rw [h] at hi; simp at hi
  · have hb := (List.getElem?_eq_some_iff.1 h5).1
    refine ⟨b, .cells true ((l.set i q).flatMap cR ++ cs), h3, ⟨_, _, _, _, rfl⟩, fun k => by rw [ixa_nat hi, Nat.zero_add], ?_, .inr ⟨b, c, cs, h3, by simpa using h4, by simp, key_set hb, h6⟩⟩
    rw [st_in0 h5 (cR_len q) (cR_cell q) (by rw [List.length_append, flat_len cR_len]; omega), set_flat cR_len q cs l i hi]
end


end Go.Ev

/-! pool: Free, Build; the laws' few and list. -/
namespace Go.Ev
set_option linter.unusedVariables false
set_option linter.unusedSimpArgs false
open Go.Ev.Sp

theorem awp_unroll {T : Nat → Option RF} {c : RC} {Q : XE → Env → St → Prop} {e : Env} {s : St} (h : awp (Run T) c (loopK (fun e s => awp (Run T) (.loop c) Q e s) Q) e s) : awp (Run T) (.loop c) Q e s := by
  intro I hI
  refine hI e s (awp_mono (fun _ _ _ _ h => h) Run.mono c ?_ h)
  intro x e s hx
  cases x with
  | nrm => exact hx I hI
  | exit id => exact hx
  | ret => exact hx

/-- Addresses as ranges of one. -/
def pts (l : List Nat) : List (Nat × Nat) := l.map fun a => (a, a)
theorem pts_wf {l : List Nat} (h : ∀ a ∈ l, a < 340282366920938463463374607431768211456) : Wf (pts l) := fun r hr => by
  obtain ⟨a, ha, rfl⟩ := List.mem_map.1 hr
  exact ⟨h a ha, h a ha⟩
theorem one_fill (x : Nat) {a b c d : AV} : setL (setL [a, b, c, d] 0 (cA x)) 2 (cA x) = cR (x, x) := rfl

set_option maxHeartbeats 4000000 in
/-- pool.Free -/
theorem free_r (s : St) (v w : AV) (set : List (Nat × Nat)) (tk : List Nat) (hl : set.length < 1000000) (hS : Wf set) (hv : Rd 4 cR s v set) (hl' : tk.length < 1000000) (hT : ∀ a ∈ tk, a < 340282366920938463463374607431768211456) (hw : Rd 2 cA s w tk) :
    Run T f_pool_Free [v, w] s (Ans s (sndB 0 set) (lessL set (builtL [] (pts tk)))) := by
  refine run_body (F := r_pool_Free) rfl (by simp [r_pool_Free]) ?_
  simp only [r_pool_Free, XX, CC, Nat.reduceAdd, Nat.reduceSub, Nat.reduceLeDiff, Nat.reduceLT, Nat.reduceEqDiff, reduceIte, ↓reduceIte, Nat.reduceBEq, hw.len]
  refine awp_rounds (fun d e t => Ext s t ∧ ∃ (i : Nat) (vo : AV) (O : List (Nat × Nat)), i + d = tk.length ∧ e.get 0 = v ∧ e.get 6 = vo ∧ e.get 9 = w ∧ e.get 10 = .int .i64 tk.length ∧ e.get 11 = .int .i64 i ∧ Own s.length 4 cR t vo O ∧ Snd 340282366920938463463374607431768211456 0 O ∧ O.length ≤ i ∧
    builtL [] (pts tk) = builtL O (pts (tk.drop i))) tk.length ?_ ?_
  · refine ⟨.refl s, 0, .nils, [], by omega, ?_, ?_, ?_, ?_, ?_, .nil, trivial, by simp, rfl⟩ <;> (try simp only [XX, CC, Nat.reduceAdd, Nat.reduceSub, Nat.reduceLeDiff, Nat.reduceLT, Nat.reduceEqDiff, reduceIte, ↓reduceIte, Nat.reduceBEq, hw.len]) <;> rfl
  rintro J d e t hJ ⟨hx, i, vo, O, hi, g0, g6, g9, g10, g11, ho, hs, hsl, hd0⟩
  have hwt := hw.ext hx
  simp only [XX, CC, Nat.reduceAdd, Nat.reduceSub, Nat.reduceLeDiff, Nat.reduceLT, Nat.reduceEqDiff, reduceIte, ↓reduceIte, Nat.reduceBEq, g0, g6, g9, g10, g11]
  by_cases h : i < tk.length
  · obtain ⟨a, ha, hd⟩ := drop_get h
    have haw := hT a (List.mem_of_getElem? ha)
    obtain ⟨b2, o2, h3, h4⟩ := rdA hwt ha
    have hwO := Snd.toWf hs
    rw [hd] at hd0
    have hput := put_r (t ++ [.cells true (cA a)]) vo O a a (by omega) hwO haw haw ((ho.app _).rd cR_len)
    rw [(sndB_iff hwO).2 hs, dec_t (Nat.le_refl a)] at hput
    have hb := fun l => (blkA (t := t ++ (.cells true (cA a) :: l)) (b := t.length) (q := a) (by simp)).1
    simp only [dec_t (show (i : Int) < tk.length by omega), XX, CC, Nat.reduceAdd, Nat.reduceSub, Nat.reduceLeDiff, Nat.reduceLT, Nat.reduceEqDiff, reduceIte, ↓reduceIte, Nat.reduceBEq, g0, g6, g9, g10, g11, h3, h4, hb, one_fill]
    refine Run.mono _ _ _ _ _ ?_ hput
    intro r t' hh
    obtain ⟨v', rfl, o⟩ := hh.yes rfl (by rw [putL_eq (Nat.le_refl a) hs, List.nil_append])
    have hpl := putS_length O a a
    simp only [XX, CC, Nat.reduceAdd, Nat.reduceSub, Nat.reduceLeDiff, Nat.reduceLT, Nat.reduceEqDiff, reduceIte, ↓reduceIte, Nat.reduceBEq, g11]
    refine hJ (d - 1) _ _ (by omega) ⟨hx.trans (Ext.trans ⟨_, rfl⟩ o.ext), i + 1, v', putS a a O, by omega, ?_, ?_, ?_, ?_, ?_, ?_, putS_snd (Nat.le_refl a) haw (Nat.zero_le _) hs, by omega, ?_⟩ <;> (try simp only [XX, CC, Nat.reduceAdd, Nat.reduceSub, Nat.reduceLeDiff, Nat.reduceLT, Nat.reduceEqDiff, reduceIte, ↓reduceIte, Nat.reduceBEq, g0, g6, g9, g10, g11])
    · rw [w64_nat (by omega)]
    · have := hx.len; exact o.own.mono (by simp; omega)
    · rw [hd0]; simp only [pts, List.map_cons, builtL_cons, Nat.le_refl, if_true]
  · rw [List.drop_of_length_le (by omega)] at hd0
    have hd1 : builtL [] (pts tk) = O := hd0
    simp only [dec_f (show ¬ (i : Int) < tk.length by omega), XX, CC, Nat.reduceAdd, Nat.reduceSub, Nat.reduceLeDiff, Nat.reduceLT, Nat.reduceEqDiff, reduceIte, ↓reduceIte, Nat.reduceBEq, g0, g6]
    refine Run.mono _ _ _ _ _ ?_ (less_r _ v vo set O (by omega) hS (Snd.toWf hs) (hv.ext hx) (ho.rd cR_len))
    intro r t' hh
    rw [(sndB_iff (Snd.toWf hs)).2 hs, Bool.and_true, ← hd1] at hh
    obtain ⟨v', rfl, o⟩ := hh.out
    simp only [XX, CC, Nat.reduceAdd, Nat.reduceSub, Nat.reduceLeDiff, Nat.reduceLT, Nat.reduceEqDiff, reduceIte, ↓reduceIte, Nat.reduceBEq]
    exact ret_own o.own hx.len (hx.trans o.ext) cR_un rfl fun v2 s2 h => ⟨_, rfl, h⟩

set_option maxHeartbeats 4000000 in
/-- pool.Build -/
theorem build_r (s : St) (v w : AV) (ps : List (Nat × Nat)) (tk : List Nat) (hl : ps.length < 1000000) (hS : Wf ps) (hv : Rd 4 cR s v ps) (hl' : tk.length < 1000000) (hT : ∀ a ∈ tk, a < 340282366920938463463374607431768211456) (hw : Rd 2 cA s w tk) :
    Run T f_pool_Build [v, w] s (Ans s (ps.all fun r => decide (r.1 ≤ r.2)) (lessL (builtL [] ps) (builtL [] (pts tk)))) := by
  refine run_body (F := r_pool_Build) rfl (by simp [r_pool_Build]) ?_
  simp only [r_pool_Build, XX, CC, Nat.reduceAdd, Nat.reduceSub, Nat.reduceLeDiff, Nat.reduceLT, Nat.reduceEqDiff, reduceIte, ↓reduceIte, Nat.reduceBEq, hv.len]
  refine awp_rounds (fun d e t => Ext s t ∧ ∃ (i : Nat) (vo : AV) (O : List (Nat × Nat)), i + d = ps.length ∧ e.get 1 = w ∧ e.get 6 = vo ∧ e.get 11 = v ∧ e.get 12 = .int .i64 ps.length ∧ e.get 13 = .int .i64 i ∧ Own s.length 4 cR t vo O ∧ Snd 340282366920938463463374607431768211456 0 O ∧ O.length ≤ i ∧
    (ps.all fun r => decide (r.1 ≤ r.2)) = ((ps.drop i).all fun r => decide (r.1 ≤ r.2)) ∧ builtL [] ps = builtL O (ps.drop i)) ps.length ?_ ?_
  · refine ⟨.refl s, 0, .nils, [], by omega, ?_, ?_, ?_, ?_, ?_, .nil, trivial, by simp, rfl, rfl⟩ <;> (try simp only [XX, CC, Nat.reduceAdd, Nat.reduceSub, Nat.reduceLeDiff, Nat.reduceLT, Nat.reduceEqDiff, reduceIte, ↓reduceIte, Nat.reduceBEq, hv.len]) <;> rfl
  rintro J d e t hJ ⟨hx, i, vo, O, hi, g1, g6, g11, g12, g13, ho, hs, hsl, hall, hd0⟩
  have hvt := hv.ext hx
  simp only [XX, CC, Nat.reduceAdd, Nat.reduceSub, Nat.reduceLeDiff, Nat.reduceLT, Nat.reduceEqDiff, reduceIte, ↓reduceIte, Nat.reduceBEq, g1, g6, g11, g12, g13]
  by_cases h : i < ps.length
  · obtain ⟨⟨a, b⟩, hq, hd⟩ := drop_get h
    have hqw := hS.get hq
    obtain ⟨b2, o2, h3, h4⟩ := rdR hvt hq
    have hwO := Snd.toWf hs
    rw [hd] at hd0 hall
    rw [List.all_cons] at hall
    have hput := put_r (t ++ [.cells true (cR (a, b))]) vo O a b (by omega) hwO hqw.1 hqw.2 ((ho.app _).rd cR_len)
    rw [(sndB_iff hwO).2 hs, Bool.true_and] at hput
    have hb := fun l => (blkR (t := t ++ (.cells true (cR (a, b)) :: l)) (b := t.length) (q := (a, b)) (by simp)).1
    have hor : decide (a ≤ b) = true ∨ decide (a ≤ b) = false := by cases decide (a ≤ b) <;> simp
    rcases hor with hdc | hdc
    all_goals rw [hdc] at hput
    all_goals rw [show decide ((a, b).1 ≤ (a, b).2) = decide (a ≤ b) from rfl, hdc] at hall
    all_goals simp only [dec_t (show (i : Int) < ps.length by omega), XX, CC, Nat.reduceAdd, Nat.reduceSub, Nat.reduceLeDiff, Nat.reduceLT, Nat.reduceEqDiff, reduceIte, ↓reduceIte, Nat.reduceBEq, g1, g6, g11, g12, g13, h3, h4, hb]
    all_goals refine Run.mono _ _ _ _ _ ?_ hput
    all_goals intro r t' hh
    · have hc : a ≤ b := by simpa using hdc
      obtain ⟨v', rfl, o⟩ := hh.yes rfl (by rw [putL_eq hc hs, List.nil_append])
      have hpl := putS_length O a b
      simp only [XX, CC, Nat.reduceAdd, Nat.reduceSub, Nat.reduceLeDiff, Nat.reduceLT, Nat.reduceEqDiff, reduceIte, ↓reduceIte, Nat.reduceBEq, g13, show ((0 : Int) == 0) = true from rfl, Bool.not_true]
      refine hJ (d - 1) _ _ (by omega) ⟨hx.trans (Ext.trans ⟨_, rfl⟩ o.ext), i + 1, v', putS a b O, by omega, ?_, ?_, ?_, ?_, ?_, ?_, putS_snd hc hqw.2 (Nat.zero_le _) hs, by omega, ?_, ?_⟩ <;> (try simp only [XX, CC, Nat.reduceAdd, Nat.reduceSub, Nat.reduceLeDiff, Nat.reduceLT, Nat.reduceEqDiff, reduceIte, ↓reduceIte, Nat.reduceBEq, g1, g6, g11, g12, g13])
      · rw [w64_nat (by omega)]
      · have := hx.len; exact o.own.mono (by simp; omega)
      · rw [hall, Bool.true_and]
      · rw [hd0, builtL_cons, if_pos hc]
    · obtain ⟨v', rfl, o⟩ := hh.nope
      simp only [XX, CC, Nat.reduceAdd, Nat.reduceSub, Nat.reduceLeDiff, Nat.reduceLT, Nat.reduceEqDiff, reduceIte, ↓reduceIte, Nat.reduceBEq, show ((1 : Int) == 0) = false from rfl, Bool.not_false]
      rw [hall, Bool.false_and]
      exact ret_drop (hx.trans (Ext.trans ⟨_, rfl⟩ o.ext)) rfl ans_no
  · rw [List.drop_of_length_le (by omega)] at hd0 hall
    have hd1 : builtL [] ps = O := hd0
    have hall1 : (ps.all fun r => decide (r.1 ≤ r.2)) = true := hall
    simp only [dec_f (show ¬ (i : Int) < ps.length by omega), XX, CC, Nat.reduceAdd, Nat.reduceSub, Nat.reduceLeDiff, Nat.reduceLT, Nat.reduceEqDiff, reduceIte, ↓reduceIte, Nat.reduceBEq, g1, g6]
    refine Run.mono _ _ _ _ _ ?_ (free_r _ vo w O tk (by omega) (Snd.toWf hs) (ho.rd cR_len) hl' hT (hw.ext hx))
    intro r t' hh
    rw [(sndB_iff (Snd.toWf hs)).2 hs] at hh
    obtain ⟨v', rfl, o⟩ := hh.yes rfl rfl
    simp only [XX, CC, Nat.reduceAdd, Nat.reduceSub, Nat.reduceLeDiff, Nat.reduceLT, Nat.reduceEqDiff, reduceIte, ↓reduceIte, Nat.reduceBEq]
    rw [hall1, hd1]
    exact ret_own o.own hx.len (hx.trans o.ext) cR_un rfl fun v2 s2 h => ⟨_, rfl, h⟩

/-- list -/
theorem list_r (s : St) (v w : AV) (l m : List Nat) (hl : l.length < 4611686018427387904) (hv : Rd 2 cA s v l) (hw : Rd 2 cA s w m) : RunD T f_w12_list [v, w] s (.bool (decide (l = m))) s := by
  refine run_body (F := r_w12_list) rfl (by simp [r_w12_list]) ?_
  by_cases hlm : l.length = m.length
  · have hb : ((l.length : Int) == (m.length : Int)) = true := by rw [hlm]; simp
    simp only [r_w12_list, XX, CC, Nat.reduceAdd, Nat.reduceSub, Nat.reduceLeDiff, Nat.reduceLT, Nat.reduceEqDiff, reduceIte, ↓reduceIte, Nat.reduceBEq, hv.len, hw.len, hb, Bool.not_true]
    refine awp_rounds (fun d e t => t = s ∧ ∃ i : Nat, i + d = l.length ∧ e.get 0 = v ∧ e.get 1 = w ∧ e.get 5 = .int .i64 i ∧ l.take i = m.take i) l.length ?_ ?_
    · refine ⟨rfl, 0, by omega, ?_, ?_, ?_, rfl⟩ <;> (try simp only [XX, CC, Nat.reduceAdd, Nat.reduceSub, Nat.reduceLeDiff, Nat.reduceLT, Nat.reduceEqDiff, reduceIte, ↓reduceIte, Nat.reduceBEq]) <;> rfl
    rintro J d e t hJ ⟨ht, i, hi, g0, g1, g5, hp⟩
    subst ht
    simp only [XX, CC, Nat.reduceAdd, Nat.reduceSub, Nat.reduceLeDiff, Nat.reduceLT, Nat.reduceEqDiff, reduceIte, ↓reduceIte, Nat.reduceBEq, g0, g1, g5, hv.len]
    by_cases h : i < l.length
    · obtain ⟨q, hq, hd⟩ := drop_get h
      obtain ⟨q2, hq2, hd2⟩ := drop_get (l := m) (i := i) (by omega)
      obtain ⟨b2, o2, h1, h2⟩ := rdA hv hq
      obtain ⟨b3, o3, h3, h4⟩ := rdA hw hq2
      simp only [dec_t (show (i : Int) < l.length by omega), XX, CC, Nat.reduceAdd, Nat.reduceSub, Nat.reduceLeDiff, Nat.reduceLT, Nat.reduceEqDiff, reduceIte, ↓reduceIte, Nat.reduceBEq, g0, g1, g5]
      refine drw_in [] rfl ?_
      simp only [List.append_nil, DD, CC, Nat.reduceAdd, Nat.reduceSub, Nat.reduceLeDiff, Nat.reduceLT, Nat.reduceEqDiff, reduceIte, ↓reduceIte, Nat.reduceBEq, g0, g1, g5, h1, h2, h3, h4, eq_A]
      cases c : decide (q = q2)
      · simp only [DD, CC, Nat.reduceAdd, Nat.reduceSub, Nat.reduceLeDiff, Nat.reduceLT, Nat.reduceEqDiff, reduceIte, ↓reduceIte, Nat.reduceBEq, Bool.not_false]
        refine ret_drop (.refl _) rfl ⟨?_, rfl⟩
        simp at c
        rw [dec_f (fun h => c (by subst h; exact Option.some.inj (hq.symm.trans hq2)))]
      · simp only [DD, CC, Nat.reduceAdd, Nat.reduceSub, Nat.reduceLeDiff, Nat.reduceLT, Nat.reduceEqDiff, reduceIte, ↓reduceIte, Nat.reduceBEq, Bool.not_true, g0, g1, g5]
        simp at c
        subst c
        refine hJ (d - 1) _ _ (by omega) ⟨rfl, i + 1, by omega, ?_, ?_, ?_, ?_⟩ <;> (try simp only [XX, CC, Nat.reduceAdd, Nat.reduceSub, Nat.reduceLeDiff, Nat.reduceLT, Nat.reduceEqDiff, reduceIte, ↓reduceIte, Nat.reduceBEq, g0, g1, g5])
        · rw [w64_nat (by omega)]
        · rw [List.take_add_one, List.take_add_one, hp, hq, hq2]
    · simp only [dec_f (show ¬ (i : Int) < l.length by omega), XX, CC, Nat.reduceAdd, Nat.reduceSub, Nat.reduceLeDiff, Nat.reduceLT, Nat.reduceEqDiff, reduceIte, ↓reduceIte, Nat.reduceBEq]
      refine ret_drop (.refl _) rfl ⟨?_, rfl⟩
      rw [List.take_of_length_le (by omega), List.take_of_length_le (by omega)] at hp
      rw [dec_t hp]
  · have hb : ((l.length : Int) == (m.length : Int)) = false := by simp; omega
    simp only [r_w12_list, XX, CC, Nat.reduceAdd, Nat.reduceSub, Nat.reduceLeDiff, Nat.reduceLT, Nat.reduceEqDiff, reduceIte, ↓reduceIte, Nat.reduceBEq, hv.len, hw.len, hb, Bool.not_false]
    refine ret_drop (.refl _) rfl ⟨?_, rfl⟩
    rw [dec_f (fun h => hlm (by rw [h]))]
end Go.Ev

/-! pool's laws: few; a small sort; Own of three leases. -/
namespace Go.Ev
set_option linter.unusedVariables false
set_option linter.unusedSimpArgs false
open Go.Ev.Sp

def cU (n : Nat) : List AV := [.int .u64 n]
theorem cU_len (n : Nat) : (cU n).length = 1 := rfl
theorem aA_small {n : Nat} (h : n < 18446744073709551616) : AV.agg [.int .u64 0, .int .u64 n] = aA n := by
  have : H n = 0 ∧ L n = n := by unfold H L; omega
  show _ = AV.agg [.int .u64 (H n), .int .u64 (L n)]
  rw [this.1, this.2]
theorem cA_small {n : Nat} (h : n < 18446744073709551616) : [AV.int .u64 0, AV.int .u64 n] = cA n := by
  have : H n = 0 ∧ L n = n := by unfold H L; omega
  show _ = [AV.int .u64 (H n), AV.int .u64 (L n)]
  rw [this.1, this.2]

set_option maxHeartbeats 4000000 in
/-- few -/
theorem few_r (s : St) (v : AV) (l : List Nat) (hl : l.length < 1000000) (hw : ∀ x ∈ l, x < 18446744073709551616) (hv : Rd 1 cU s v l) : Run T f_w12_few [v] s (Out 2 cA s l) := by
  refine run_body (F := r_w12_few) rfl (by simp [r_w12_few]) ?_
  have hmk := mks_0 (s := s) (e := 2) (by_ := 16) (z := [AV.int .u64 0, AV.int .u64 0]) (k := .i64) (n := l.length) (by omega)
  have hZ : unders 0 (List.replicate l.length [AV.int .u64 0, AV.int .u64 0]).flatten = true := unders_rep rfl _
  generalize (List.replicate l.length [AV.int .u64 0, AV.int .u64 0]).flatten = Z at hmk hZ
  simp only [r_w12_few, XX, CC, Nat.reduceAdd, Nat.reduceSub, Nat.reduceLeDiff, Nat.reduceLT, Nat.reduceEqDiff, reduceIte, ↓reduceIte, Nat.reduceBEq, hv.len, hmk]
  refine awp_rounds (fun d e t => Ext s t ∧ ∃ (i : Nat) (vo : AV), i + d = l.length ∧ e.get 0 = v ∧ e.get 3 = vo ∧ e.get 4 = .int .i64 i ∧ Own s.length 2 cA t vo (l.take i)) l.length ?_ ?_
  · refine ⟨⟨_, rfl⟩, 0, .sl s.length 0 2 0 none, by omega, ?_, ?_, ?_, ?_⟩ <;> (try simp only [XX, CC, Nat.reduceAdd, Nat.reduceSub, Nat.reduceLeDiff, Nat.reduceLT, Nat.reduceEqDiff, reduceIte, ↓reduceIte, Nat.reduceBEq]) <;> (try rfl)
    exact .inr ⟨s.length, none, Z, Nat.le_refl _, .inl rfl, rfl, by simp, hZ⟩
  rintro J d e t hJ ⟨hx, i, vo, hi, g0, g3, g4, ho⟩
  have hvt := hv.ext hx
  simp only [XX, CC, Nat.reduceAdd, Nat.reduceSub, Nat.reduceLeDiff, Nat.reduceLT, Nat.reduceEqDiff, reduceIte, ↓reduceIte, Nat.reduceBEq, g0, g3, g4, hvt.len]
  by_cases h : i < l.length
  · obtain ⟨n, hn, hd⟩ := drop_get h
    have hnw := hw n (List.mem_of_getElem? hn)
    obtain ⟨b2, o2, h1, h2⟩ := hvt.get cU_len hn
    have h3 := h2 none 0 (.int .u64 n) rfl
    rw [Nat.add_zero] at h3
    obtain ⟨v', t', e1, e2, e3, e4, e5, e6⟩ := own_app (by_ := 16) (y := .sl t.length 0 2 1 (some 1)) (l2 := [n]) (ho.app [.cells true (cA n)]) (by have := hx.len; simp; omega) (rd_lit (by simp) cA_len rfl) cA_len cA_cell (by simp; omega)
    simp only [dec_t (show (i : Int) < l.length by omega), XX, CC, Nat.reduceAdd, Nat.reduceSub, Nat.reduceLeDiff, Nat.reduceLT, Nat.reduceEqDiff, reduceIte, ↓reduceIte, Nat.reduceBEq, g0, g3, g4, h1, h3, cA_small hnw, e1]
    refine hJ (d - 1) _ _ (by omega) ⟨e5 s (Nat.le_refl _) (hx.app _), i + 1, v', by omega, ?_, ?_, ?_, ?_⟩ <;> (try simp only [XX, CC, Nat.reduceAdd, Nat.reduceSub, Nat.reduceLeDiff, Nat.reduceLT, Nat.reduceEqDiff, reduceIte, ↓reduceIte, Nat.reduceBEq, g0, g3, g4])
    · rw [w64_nat (by omega)]
    · rw [List.take_add_one, hn]; exact e2
  · simp only [dec_f (show ¬ (i : Int) < l.length by omega), XX, CC, Nat.reduceAdd, Nat.reduceSub, Nat.reduceLeDiff, Nat.reduceLT, Nat.reduceEqDiff, reduceIte, ↓reduceIte, Nat.reduceBEq, g3]
    rw [List.take_of_length_le (by omega)] at ho
    exact ret_own1 ho (Nat.le_refl _) hx cA_un fun v' s' h => h
end Go.Ev

/-! bits.Len64, LeadingZeros64. -/
namespace Go.Ev
set_option linter.unusedVariables false
set_option linter.unusedSimpArgs false
open Go.Ev.Sp

def ixsA (x i : AV) : Option AV := match x, i with
  | .str s, .int _ j => if h : 0 ≤ j ∧ j.toNat < s.size then some (.int .u8 (s[j.toNat]'h.2).toNat) else none
  | _, _ => none
theorem op_ixs {X : Oracle} {e : Env} {s : St} {q : AV → St → Prop} {x i : RX} : opA X (.ixs x i) e s q = ob (ixsA (x.ev e) (i.ev e)) fun v => q v s := rfl
def lenTab : List Nat := [0, 1, 2, 2, 3, 3, 3, 3, 4, 4, 4, 4, 4, 4, 4, 4] ++ List.replicate 16 5 ++ List.replicate 32 6 ++ List.replicate 64 7 ++ List.replicate 128 8
def lenOk (i : Nat) : Bool := match ixsA (.str (bts lenTab)) (.int .u8 (i : Int)) with
  | some (.int .u8 (.ofNat k)) => decide (i < 2 ^ k) && decide (k ≤ 8) && (decide (i = 0) || (decide (1 ≤ k) && decide (2 ^ k ≤ 2 * i)))
  | _ => false
theorem lenOk_all : (List.range 256).all lenOk = true := by kernel_rfl
theorem len_at {i : Nat} (h : i < 256) : ∃ k : Nat, ixsA (.str (bts lenTab)) (.int .u8 (i : Int)) = some (.int .u8 (k : Int)) ∧ i < 2 ^ k ∧ k ≤ 8 ∧ (i ≠ 0 → 1 ≤ k ∧ 2 ^ k ≤ 2 * i) := by
  have := List.all_eq_true.1 lenOk_all i (List.mem_range.2 h)
  unfold lenOk at this
  split at this
  · rename_i k hk
    simp only [Bool.and_eq_true, Bool.or_eq_true, decide_eq_true_eq] at this
    exact ⟨k, hk, this.1.1, this.1.2, fun h0 => this.2.resolve_left h0⟩
  · simp at this

/-- The text of Len64, its table a name. -/
def lenD (tab : ByteArray) : RC := .seq (.reg [⟨(some 19), none, (.mv (.t 2))⟩, ⟨(some 20), none, (.mv (.t 0))⟩, ⟨(some 21), none, (.cvi .u8 (.t 20))⟩, ⟨(some 22), none, (.ixs (.k (.str tab)) (.t 21))⟩, ⟨(some 23), none, (.cvi .i64 (.t 22))⟩, ⟨(some 24), none, (.bin .add (.t 19) (.t 23))⟩, ⟨(some 2), none, (.mv (.t 24))⟩]) .ret
def lenP (c : RC) : RC := .seq (.reg [⟨(some 2), none, (.mv (.k (.int .i64 0)))⟩]) (.seq (.seq (.reg [⟨(some 3), none, (.mv (.t 0))⟩, ⟨(some 4), none, (.bin .geq (.t 3) (.k (.int .u64 4294967296)))⟩]) (.cond (.t 4) (.seq (.reg [⟨(some 5), none, (.mv (.t 0))⟩,
  ⟨(some 6), none, (.bin .shr (.t 5) (.k (.int .u64 32)))⟩, ⟨(some 0), none, (.mv (.t 6))⟩]) (.reg [⟨(some 2), none, (.mv (.k (.int .i64 32)))⟩])) .skip)) (.seq (.seq
  (.reg [⟨(some 7), none, (.mv (.t 0))⟩, ⟨(some 8), none, (.bin .geq (.t 7) (.k (.int .u64 65536)))⟩]) (.cond (.t 8) (.seq (.reg [⟨(some 9), none, (.mv (.t 0))⟩,
  ⟨(some 10), none, (.bin .shr (.t 9) (.k (.int .u64 16)))⟩, ⟨(some 0), none, (.mv (.t 10))⟩]) (.reg [⟨(some 11), none, (.mv (.t 2))⟩,
  ⟨(some 12), none, (.bin .add (.t 11) (.k (.int .i64 16)))⟩, ⟨(some 2), none, (.mv (.t 12))⟩])) .skip)) (.seq (.seq (.reg [⟨(some 13), none, (.mv (.t 0))⟩,
  ⟨(some 14), none, (.bin .geq (.t 13) (.k (.int .u64 256)))⟩]) (.cond (.t 14) (.seq (.reg [⟨(some 15), none, (.mv (.t 0))⟩,
  ⟨(some 16), none, (.bin .shr (.t 15) (.k (.int .u64 8)))⟩, ⟨(some 0), none, (.mv (.t 16))⟩]) (.reg [⟨(some 17), none, (.mv (.t 2))⟩,
  ⟨(some 18), none, (.bin .add (.t 17) (.k (.int .i64 8)))⟩, ⟨(some 2), none, (.mv (.t 18))⟩])) .skip)) c)))
theorem len_text : r_bits_Len64.body = lenP (lenD (bts lenTab)) := by kernel_rfl
set_option maxHeartbeats 4000000 in
theorem len64_r (s : St) (n : Nat) (hn : n < 18446744073709551616) : Run T f_bits_Len64 [.int .u64 n] s fun a t' => ∃ k : Nat, a = .int .i64 k ∧ t' = s ∧ n < 2 ^ k ∧ k ≤ 64 ∧ (n ≠ 0 → 1 ≤ k ∧ 2 ^ k ≤ 2 * n) := by
  refine run_body (F := r_bits_Len64) rfl (Nat.le_of_ble_eq_true rfl) ?_
  rw [len_text, show r_bits_Len64.res = [.tmp 2] from rfl]
  obtain ⟨tab, htab⟩ : ∃ tab, tab = bts lenTab := ⟨_, rfl⟩
  rw [← htab]
  have fin : ∀ (n r m : Nat), n < 256 → r ≤ 56 → m < (n + 1) * 2 ^ r → (m ≠ 0 → n ≠ 0 ∧ n * 2 ^ r ≤ m) → ∃ k : Nat, ixsA (.str (bts lenTab)) (.int .u8 (n : Int)) = some (.int .u8 (k : Int)) ∧ k ≤ 8 ∧ m < 2 ^ (r + k) ∧ r + k ≤ 64 ∧ (m ≠ 0 → 1 ≤ r + k ∧ 2 ^ (r + k) ≤ 2 * m) := by
    intro n r m h1 h2 h3 h4
    obtain ⟨k, k1, k2, k3, k4⟩ := len_at h1
    refine ⟨k, k1, k3, ?_, by omega, fun h => ?_⟩
    · refine Nat.lt_of_lt_of_le h3 ?_
      rw [Nat.pow_add, Nat.mul_comm]
      exact Nat.mul_le_mul_left _ k2
    · obtain ⟨h5, h6⟩ := h4 h
      obtain ⟨k5, k6⟩ := k4 h5
      refine ⟨by omega, ?_⟩
      have h7 : 2 ^ r * 2 ^ k ≤ 2 ^ r * (2 * n) := Nat.mul_le_mul_left _ k6
      have h8 : 2 ^ r * (2 * n) = 2 * (n * 2 ^ r) := by rw [Nat.mul_comm, Nat.mul_assoc]
      rw [Nat.pow_add]
      omega
  have w8 : ∀ x : Nat, x < 256 → IntKind.u8.wrap (x : Int) = (x : Int) := fun x hx => by simp [IntKind.wrap, IntKind.bits, IntKind.signed]; omega
  have sh : ∀ (x : Nat) , binA .shr (.int .u64 (x : Int)) (.int .u64 32) = some (.int .u64 ((x / 2 ^ 32 : Nat) : Int)) ∧ binA .shr (.int .u64 (x : Int)) (.int .u64 16) = some (.int .u64 ((x / 2 ^ 16 : Nat) : Int)) ∧ binA .shr (.int .u64 (x : Int)) (.int .u64 8) = some (.int .u64 ((x / 2 ^ 8 : Nat) : Int)) :=
    fun x => ⟨bin_shr (n := 32) (by decide), bin_shr (n := 16) (by decide), bin_shr (n := 8) (by decide)⟩
  have wi : ∀ a b : Nat, a ≤ 64 → b ≤ 64 → IntKind.i64.wrap ((a : Int) + (b : Int)) = ((a + b : Nat) : Int) := fun a b h1 h2 => by rw [w64_in (by omega) (by omega)]; omega
  have wk : ∀ a : Nat, a ≤ 64 → IntKind.i64.wrap (a : Int) = (a : Int) := fun a h1 => by rw [w64_in (by omega) (by omega)]
  obtain ⟨n1, r1, hn1, e1, hr1, hb1⟩ : ∃ n1 r1 : Nat, (n1 < 4294967296) ∧ ((4294967296 ≤ n ∧ n1 = n / 2 ^ 32 ∧ r1 = 32) ∨ (n < 4294967296 ∧ n1 = n ∧ r1 = 0)) ∧ n < (n1 + 1) * 2 ^ r1 ∧ (n ≠ 0 → n1 ≠ 0 ∧ n1 * 2 ^ r1 ≤ n) := by
    by_cases c : 4294967296 ≤ n
    · exact ⟨n / 2 ^ 32, 32, by omega, .inl ⟨c, rfl, rfl⟩, by omega, by omega⟩
    · exact ⟨n, 0, by omega, .inr ⟨by omega, rfl, rfl⟩, by omega, by omega⟩
  obtain ⟨n2, r2, hn2, e2, hr2, hb2⟩ : ∃ n2 r2 : Nat, (n2 < 65536) ∧ ((65536 ≤ n1 ∧ n2 = n1 / 2 ^ 16 ∧ r2 = r1 + 16) ∨ (n1 < 65536 ∧ n2 = n1 ∧ r2 = r1)) ∧ n < (n2 + 1) * 2 ^ r2 ∧ (n ≠ 0 → n2 ≠ 0 ∧ n2 * 2 ^ r2 ≤ n) := by
    by_cases c : 65536 ≤ n1
    · refine ⟨n1 / 2 ^ 16, r1 + 16, by omega, .inl ⟨c, rfl, rfl⟩, Nat.lt_of_lt_of_le hr1 ?_, fun h => ⟨by omega, Nat.le_trans ?_ (hb1 h).2⟩⟩
      · rw [Nat.pow_add, Nat.mul_comm (2 ^ r1), ← Nat.mul_assoc]
        exact Nat.mul_le_mul_right _ (by omega)
      · rw [Nat.pow_add, Nat.mul_comm (2 ^ r1), ← Nat.mul_assoc]
        exact Nat.mul_le_mul_right _ (by omega)
    · exact ⟨n1, r1, by omega, .inr ⟨by omega, rfl, rfl⟩, hr1, hb1⟩
  obtain ⟨n3, r3, hn3, e3, hr3, hb3⟩ : ∃ n3 r3 : Nat, (n3 < 256) ∧ ((256 ≤ n2 ∧ n3 = n2 / 2 ^ 8 ∧ r3 = r2 + 8) ∨ (n2 < 256 ∧ n3 = n2 ∧ r3 = r2)) ∧ n < (n3 + 1) * 2 ^ r3 ∧ (n ≠ 0 → n3 ≠ 0 ∧ n3 * 2 ^ r3 ≤ n) := by
    by_cases c : 256 ≤ n2
    · refine ⟨n2 / 2 ^ 8, r2 + 8, by omega, .inl ⟨c, rfl, rfl⟩, Nat.lt_of_lt_of_le hr2 ?_, fun h => ⟨by omega, Nat.le_trans ?_ (hb2 h).2⟩⟩
      · rw [Nat.pow_add, Nat.mul_comm (2 ^ r2), ← Nat.mul_assoc]
        exact Nat.mul_le_mul_right _ (by omega)
      · rw [Nat.pow_add, Nat.mul_comm (2 ^ r2), ← Nat.mul_assoc]
        exact Nat.mul_le_mul_right _ (by omega)
    · exact ⟨n2, r2, by omega, .inr ⟨by omega, rfl, rfl⟩, hr2, hb2⟩
  have hr3' : r3 ≤ 56 := by omega
  obtain ⟨k, k1, k2, k3, k4, k5⟩ := fin n3 r3 n hn3 hr3' hr3 hb3
  have last : ∀ e : Env, e.get 0 = .int .u64 n3 → e.get 2 = .int .i64 r3 → awp (Run T) (lenD tab) (endK [.tmp 2] s fun a t' => ∃ k : Nat, a = .int .i64 k ∧ t' = s ∧ n < 2 ^ k ∧ k ≤ 64 ∧ (n ≠ 0 → 1 ≤ k ∧ 2 ^ k ≤ 2 * n)) e s := by
    intro e g0 g2
    rw [← htab] at k1
    simp only [lenD, XX, CC, Nat.reduceAdd, Nat.reduceSub, Nat.reduceLeDiff, Nat.reduceLT, Nat.reduceEqDiff, reduceIte, ↓reduceIte, Nat.reduceBEq, g0, g2, op_cvi, cvi_int, op_ixs, w8 n3 hn3, k1, wk k (by omega), wi r3 k (by omega) (by omega)]
    exact ret_drop (.refl _) rfl ⟨r3 + k, rfl, rfl, k3, k4, k5⟩
  have c32 : ((32 : Nat) : Int) = 32 := rfl
  generalize lenD tab = TAIL at last ⊢
  clear fin w8 wi wk k1 k3 k4 k5 hr1 hb1 hr2 hb2 hr3 hb3
  rcases e1 with ⟨c1, p1, rfl⟩ | ⟨c1, p1, rfl⟩ <;> rcases e2 with ⟨c2, p2, rfl⟩ | ⟨c2, p2, rfl⟩ <;> rcases e3 with ⟨c3, p3, rfl⟩ | ⟨c3, p3, rfl⟩
  · simp only [lenP, XX, CC, Nat.reduceAdd, Nat.reduceSub, Nat.reduceLeDiff, Nat.reduceLT, Nat.reduceEqDiff, reduceIte, ↓reduceIte, Nat.reduceBEq, dec_t (show (n : Int) ≥ 4294967296 by omega), dec_t (show (n1 : Int) ≥ 65536 by omega), dec_t (show (n2 : Int) ≥ 256 by omega), sh n, sh n1, sh n2, ← p1, ← p2, ← p3]
    refine last _ ?_ ?_ <;> simp only [XX, CC, Nat.reduceAdd, Nat.reduceSub, Nat.reduceLeDiff, Nat.reduceLT, Nat.reduceEqDiff, reduceIte, ↓reduceIte, Nat.reduceBEq]
    rfl
  · subst p3
    simp only [lenP, XX, CC, Nat.reduceAdd, Nat.reduceSub, Nat.reduceLeDiff, Nat.reduceLT, Nat.reduceEqDiff, reduceIte, ↓reduceIte, Nat.reduceBEq, dec_t (show (n : Int) ≥ 4294967296 by omega), dec_t (show (n1 : Int) ≥ 65536 by omega), dec_f (show ¬ (n3 : Int) ≥ 256 by omega), sh n, sh n1, ← p1, ← p2]
    refine last _ ?_ ?_ <;> simp only [XX, CC, Nat.reduceAdd, Nat.reduceSub, Nat.reduceLeDiff, Nat.reduceLT, Nat.reduceEqDiff, reduceIte, ↓reduceIte, Nat.reduceBEq]
    rfl
  · subst p2
    simp only [lenP, XX, CC, Nat.reduceAdd, Nat.reduceSub, Nat.reduceLeDiff, Nat.reduceLT, Nat.reduceEqDiff, reduceIte, ↓reduceIte, Nat.reduceBEq, dec_t (show (n : Int) ≥ 4294967296 by omega), dec_f (show ¬ (n2 : Int) ≥ 65536 by omega), dec_t (show (n2 : Int) ≥ 256 by omega), sh n, sh n2, ← p1, ← p3]
    refine last _ ?_ ?_ <;> simp only [XX, CC, Nat.reduceAdd, Nat.reduceSub, Nat.reduceLeDiff, Nat.reduceLT, Nat.reduceEqDiff, reduceIte, ↓reduceIte, Nat.reduceBEq]
    rfl
  · subst p3; subst p2
    simp only [lenP, XX, CC, Nat.reduceAdd, Nat.reduceSub, Nat.reduceLeDiff, Nat.reduceLT, Nat.reduceEqDiff, reduceIte, ↓reduceIte, Nat.reduceBEq, dec_t (show (n : Int) ≥ 4294967296 by omega), dec_f (show ¬ (n3 : Int) ≥ 65536 by omega), dec_f (show ¬ (n3 : Int) ≥ 256 by omega), sh n, ← p1]
    refine last _ ?_ ?_ <;> simp only [XX, CC, Nat.reduceAdd, Nat.reduceSub, Nat.reduceLeDiff, Nat.reduceLT, Nat.reduceEqDiff, reduceIte, ↓reduceIte, Nat.reduceBEq]
    rfl
  · subst p1
    simp only [lenP, XX, CC, Nat.reduceAdd, Nat.reduceSub, Nat.reduceLeDiff, Nat.reduceLT, Nat.reduceEqDiff, reduceIte, ↓reduceIte, Nat.reduceBEq, dec_f (show ¬ (n1 : Int) ≥ 4294967296 by omega), dec_t (show (n1 : Int) ≥ 65536 by omega), dec_t (show (n2 : Int) ≥ 256 by omega), sh n1, sh n2, ← p2, ← p3]
    refine last _ ?_ ?_ <;> simp only [XX, CC, Nat.reduceAdd, Nat.reduceSub, Nat.reduceLeDiff, Nat.reduceLT, Nat.reduceEqDiff, reduceIte, ↓reduceIte, Nat.reduceBEq]
    rfl
  · subst p1; subst p3
    simp only [lenP, XX, CC, Nat.reduceAdd, Nat.reduceSub, Nat.reduceLeDiff, Nat.reduceLT, Nat.reduceEqDiff, reduceIte, ↓reduceIte, Nat.reduceBEq, dec_f (show ¬ (n1 : Int) ≥ 4294967296 by omega), dec_t (show (n1 : Int) ≥ 65536 by omega), dec_f (show ¬ (n3 : Int) ≥ 256 by omega), sh n1, ← p2]
    refine last _ ?_ ?_ <;> simp only [XX, CC, Nat.reduceAdd, Nat.reduceSub, Nat.reduceLeDiff, Nat.reduceLT, Nat.reduceEqDiff, reduceIte, ↓reduceIte, Nat.reduceBEq]
    rfl
  · subst p1; subst p2
    simp only [lenP, XX, CC, Nat.reduceAdd, Nat.reduceSub, Nat.reduceLeDiff, Nat.reduceLT, Nat.reduceEqDiff, reduceIte, ↓reduceIte, Nat.reduceBEq, dec_f (show ¬ (n2 : Int) ≥ 4294967296 by omega), dec_f (show ¬ (n2 : Int) ≥ 65536 by omega), dec_t (show (n2 : Int) ≥ 256 by omega), sh n2, ← p3]
    refine last _ ?_ ?_ <;> simp only [XX, CC, Nat.reduceAdd, Nat.reduceSub, Nat.reduceLeDiff, Nat.reduceLT, Nat.reduceEqDiff, reduceIte, ↓reduceIte, Nat.reduceBEq]
    rfl
  · subst p1; subst p2; subst p3
    simp only [lenP, XX, CC, Nat.reduceAdd, Nat.reduceSub, Nat.reduceLeDiff, Nat.reduceLT, Nat.reduceEqDiff, reduceIte, ↓reduceIte, Nat.reduceBEq, dec_f (show ¬ (n3 : Int) ≥ 4294967296 by omega), dec_f (show ¬ (n3 : Int) ≥ 65536 by omega), dec_f (show ¬ (n3 : Int) ≥ 256 by omega)]
    refine last _ ?_ ?_ <;> simp only [XX, CC, Nat.reduceAdd, Nat.reduceSub, Nat.reduceLeDiff, Nat.reduceLT, Nat.reduceEqDiff, reduceIte, ↓reduceIte, Nat.reduceBEq]
    rfl

/-- bits.LeadingZeros64 -/
theorem lz64_r (s : St) (n : Nat) (hn : n < 18446744073709551616) : Run T f_bits_LeadingZeros64 [.int .u64 n] s fun a t' => ∃ k : Nat, a = .int .i64 (64 - k : Int) ∧ t' = s ∧ n < 2 ^ k ∧ k ≤ 64 ∧ (n ≠ 0 → 1 ≤ k) := by
  refine run_body (F := r_bits_LeadingZeros64) rfl (by simp [r_bits_LeadingZeros64]) ?_
  simp only [r_bits_LeadingZeros64, XX, CC, Nat.reduceAdd, Nat.reduceSub, Nat.reduceLeDiff, Nat.reduceLT, Nat.reduceEqDiff, reduceIte, ↓reduceIte, Nat.reduceBEq]
  refine Run.mono _ _ _ _ _ ?_ (len64_r s n hn)
  rintro a t ⟨k, rfl, rfl, h1, h2, h3⟩
  simp only [XX, CC, Nat.reduceAdd, Nat.reduceSub, Nat.reduceLeDiff, Nat.reduceLT, Nat.reduceEqDiff, reduceIte, ↓reduceIte, Nat.reduceBEq]
  refine ret_drop (.refl _) rfl ⟨k, ?_, rfl, h1, h2, fun h => (h3 h).1⟩
  rw [w64_in (by omega) (by omega)]
theorem bitslen_r (s : St) (n : Nat) (hn : n < 18446744073709551616) : Run T f_bits_Len [.int .u64 n] s fun a t' => ∃ k : Nat, a = .int .i64 k ∧ t' = s := by
  refine run_body (F := r_bits_Len) rfl (by simp [r_bits_Len]) ?_
  simp only [r_bits_Len, XX, CC, Nat.reduceAdd, Nat.reduceSub, Nat.reduceLeDiff, Nat.reduceLT, Nat.reduceEqDiff, reduceIte, ↓reduceIte, Nat.reduceBEq]
  refine Run.mono _ _ _ _ _ ?_ (len64_r s n hn)
  rintro a t ⟨k, rfl, rfl, h1, h2, h3⟩
  exact ret_drop (.refl _) rfl ⟨k, rfl, rfl⟩
theorem bitslen2_r (s : St) (n : Nat) (hn : n < 18446744073709551616) : Run T f_bits_Len [.int .u64 n] s fun a t' => ∃ k : Nat, a = .int .i64 k ∧ t' = s ∧ k ≤ 64 ∧ n < 2 ^ k ∧ (n ≠ 0 → 2 ^ k ≤ 2 * n) := by
  refine run_body (F := r_bits_Len) rfl (by simp [r_bits_Len]) ?_
  simp only [r_bits_Len, XX, CC, Nat.reduceAdd, Nat.reduceSub, Nat.reduceLeDiff, Nat.reduceLT, Nat.reduceEqDiff, reduceIte, ↓reduceIte, Nat.reduceBEq]
  refine Run.mono _ _ _ _ _ ?_ (len64_r s n hn)
  rintro a t ⟨k, rfl, rfl, h1, h2, h3⟩
  exact ret_drop (.refl _) rfl ⟨k, rfl, rfl, h2, h1, fun h => (h3 h).2⟩
end Go.Ev

/-! Patterns broken: exchanges by numbers of a sort. -/
namespace Go.Ev.So
open Go.Ev
set_option linter.unusedVariables false
set_option linter.unusedSimpArgs false

theorem xorN (x y : Int) : ∃ z : Nat, z < 18446744073709551616 ∧ binA .xor (.int .u64 x) (.int .u64 y) = some (.int .u64 (z : Int)) := by
  have h : ∀ w : Int, ∃ z : Nat, z < 18446744073709551616 ∧ IntKind.u64.wrap w = (z : Int) := fun w => ⟨(w % 18446744073709551616).toNat, by omega, by rw [wu64]; omega⟩
  obtain ⟨z, h1, h2⟩ := h (BitVec.ofInt IntKind.u64.bits x ^^^ BitVec.ofInt IntKind.u64.bits y).toNat
  refine ⟨z, h1, ?_⟩
  simp only [binA, if_true, bitsA]
  rw [h2]
theorem shlZ (x : Int) (n : Nat) : ∃ z : Int, binA .shl (.int .u64 x) (.int .u64 (n : Int)) = some (.int .u64 z) := by
  simp only [binA]
  rw [if_neg (by omega)]
  exact ⟨_, rfl⟩
theorem shrZ (x : Int) (n : Nat) : ∃ z : Int, binA .shr (.int .u64 x) (.int .u64 (n : Int)) = some (.int .u64 z) := by
  simp only [binA]
  rw [if_neg (by omega)]
  exact ⟨_, rfl⟩
theorem andN (x k : Nat) (hx : x < 18446744073709551616) (hk : 2 ^ k ≤ 18446744073709551616) : ∃ z : Nat, z < 2 ^ k ∧ binA .and (.int .u64 (x : Int)) (.int .u64 ((2 ^ k - 1 : Nat) : Int)) = some (.int .u64 (z : Int)) := by
  have h0 := Nat.two_pow_pos k
  have := Go.Ev.and_nat x (2 ^ k - 1) hx (by omega)
  refine ⟨x % 2 ^ k, Nat.mod_lt _ h0, ?_⟩
  simp only [binA, if_true, this]
  rw [Nat.and_two_pow_sub_one_eq_mod]

section
def boxU (c : Nat) : Blk := .cells true [.int .u64 c]
set_option maxHeartbeats 4000000 in
theorem next_r (t : St) (p x : Nat) (hp : t[p]? = some (boxU x)) : Run T f_slices_xorshift_Next [.ptr p 0] t fun r t' => ∃ z : Nat, z < 18446744073709551616 ∧ r = .int .u64 z ∧ t' = t.set p (boxU z) := by
  have hp0 : t[p]? = some (.cells true [.int .u64 x]) := hp
  have hlt := (List.getElem?_eq_some_iff.1 hp).1
  have hld : ∀ y : Nat, ldA (t.set p (.cells true [.int .u64 y])) none (.ptr p 0) = some (.int .u64 y) := fun y => by rw [ld_own (key_set hlt)]; rfl
  have hwr : ∀ y z : Nat, wrA (t.set p (.cells true [.int .u64 y])) p 0 [.int .u64 z] = some (t.set p (.cells true [.int .u64 z])) := fun y z => by
    rw [wr_own (key_set hlt), if_pos ⟨by simp, rfl⟩, List.set_set]; rfl
  have hld0 : ldA t none (.ptr p 0) = some (.int .u64 x) := by rw [ld_own hp0]; rfl
  have hwr0 : ∀ z : Nat, wrA t p 0 [.int .u64 z] = some (t.set p (.cells true [.int .u64 z])) := fun z => by
    rw [wr_own hp0, if_pos ⟨by simp, rfl⟩]; rfl
  refine run_body (F := r_slices_xorshift_Next) rfl (by simp [r_slices_xorshift_Next]) ?_
  obtain ⟨s1, a1⟩ := shlZ x 13
  obtain ⟨x1, l1, b1⟩ := xorN x s1
  obtain ⟨s2, a2⟩ := shrZ x1 7
  obtain ⟨x2, l2, b2⟩ := xorN x1 s2
  obtain ⟨s3, a3⟩ := shlZ x2 17
  obtain ⟨x3, l3, b3⟩ := xorN x2 s3
  have a1 : binA .shl (.int .u64 x) (.int .u64 13) = some (.int .u64 s1) := a1
  have a2 : binA .shr (.int .u64 x1) (.int .u64 7) = some (.int .u64 s2) := a2
  have a3 : binA .shl (.int .u64 x2) (.int .u64 17) = some (.int .u64 s3) := a3
  simp only [r_slices_xorshift_Next, XX, CC, Nat.reduceAdd, Nat.reduceSub, Nat.reduceLeDiff, Nat.reduceLT, Nat.reduceEqDiff, reduceIte, ↓reduceIte, Nat.reduceBEq]
  refine drw_in [] rfl ?_
  simp only [List.append_nil, DD, CC, Nat.reduceAdd, Nat.reduceSub, Nat.reduceLeDiff, Nat.reduceLT, Nat.reduceEqDiff, reduceIte, ↓reduceIte, Nat.reduceBEq, pu_nck, nck_ptr, hld0, a1, b1, dr_stX, hwr0]
  refine drw_in [] rfl ?_
  simp only [List.append_nil, DD, CC, Nat.reduceAdd, Nat.reduceSub, Nat.reduceLeDiff, Nat.reduceLT, Nat.reduceEqDiff, reduceIte, ↓reduceIte, Nat.reduceBEq, pu_nck, nck_ptr, hld, a2, b2, dr_stX, hwr]
  refine drw_in [] rfl ?_
  simp only [List.append_nil, DD, CC, Nat.reduceAdd, Nat.reduceSub, Nat.reduceLeDiff, Nat.reduceLT, Nat.reduceEqDiff, reduceIte, ↓reduceIte, Nat.reduceBEq, pu_nck, nck_ptr, op_nck, hld, a3, b3, dr_stX, hwr]
  exact .inl ⟨x3, l3, rfl, rfl⟩

set_option maxHeartbeats 4000000 in
theorem npow_r (t : St) (n : Nat) (h0 : 0 < n) (hn : n < 1000000000) : Run T f_slices_nextPowerOfTwo [.int .i64 n] t fun r t' => ∃ k : Nat, r = .int .u64 (2 ^ k : Nat) ∧ t' = t ∧ 0 < k ∧ 2 ^ k ≤ 2 * n := by
  refine run_body (F := r_slices_nextPowerOfTwo) rfl (by simp [r_slices_nextPowerOfTwo]) ?_
  have hw : IntKind.u64.wrap (n : Int) = n := by rw [wu64]; omega
  simp only [r_slices_nextPowerOfTwo, XX, CC, Nat.reduceAdd, Nat.reduceSub, Nat.reduceLeDiff, Nat.reduceLT, Nat.reduceEqDiff, reduceIte, ↓reduceIte, Nat.reduceBEq, Go.Ev.op_cvi, Go.Ev.cvi_int, hw]
  refine Run.mono _ _ _ _ _ ?_ (bitslen2_r t n (by omega))
  rintro r t' ⟨k, rfl, rfl, h1, h2, h3⟩
  have h3 := h3 (by omega)
  have hk : k ≠ 0 := fun h => by subst h; simp at h2; omega
  have hs : binA .shl (.int .u64 1) (.int .i64 (k : Int)) = some (.int .u64 ((2 ^ k : Nat) : Int)) := by
    simp only [binA]
    rw [if_neg (by omega), Int.toNat_natCast, Nat.min_eq_left (show k ≤ IntKind.u64.bits from h1), Int.one_mul, show ((2 : Int) ^ k) = ((2 ^ k : Nat) : Int) by rw [Int.natCast_pow]; rfl]
    generalize 2 ^ k = z at h3 ⊢
    rw [wu64]
    congr 2; omega
  simp only [XX, CC, Nat.reduceAdd, Nat.reduceSub, Nat.reduceLeDiff, Nat.reduceLT, Nat.reduceEqDiff, reduceIte, ↓reduceIte, Nat.reduceBEq, hs]
  exact .inl ⟨k, rfl, rfl, by omega, h3⟩
end

section
variable {α : Type} {O : SO α} {A : AR}
theorem S_boxU {t : St} {l : List α} {p : Nat} {c : Nat} (h : p ≠ A.bk) (hp : t[p]? = some (boxU c)) : (A.S O t l)[p]? = some (boxU c) := by rw [S_out h]; exact hp
set_option maxHeartbeats 4000000 in
theorem break_r (t : St) (hb : A.bk < t.length) (l : List α) (hl : l.length = A.n) (a b : Nat) (hab : a + 12 < b) (hbn : b ≤ A.n) :
    Run T f_slices_breakPatternsCmpFunc_Addr [A.v, .int .i64 a, .int .i64 b, .fn O.fc []] (A.S O t l) fun r t' => ∃ l', t' = A.S O t l' ∧ Sw a b l l' := by
  have hbig := A.big
  have tb : t.length ≠ A.bk := by omega
  have hq : (b - a) / 4 * 4 ≤ b - a := Nat.div_mul_le_self _ _
  have hq1 : b - a < ((b - a) / 4 + 1) * 4 := by omega
  have q4 : binA .quo (.int .i64 ((b - a : Nat) : Int)) (.int .i64 4) = some (.int .i64 (((b - a) / 4 : Nat) : Int)) := quoN (k := 4) (by omega) (by decide)
  have ws := subN (show a ≤ b by omega) (show b < 4611686018427387904 by omega)
  have hw : IntKind.u64.wrap ((b - a : Nat) : Int) = ((b - a : Nat) : Int) := by rw [wu64]; omega
  refine run_body (F := r_slices_breakPatternsCmpFunc_Addr) rfl (by simp [r_slices_breakPatternsCmpFunc_Addr]) ?_
  generalize hqq : (b - a) / 4 = q at hq hq1 q4
  have m2 : binA .mul (.int .i64 (q : Int)) (.int .i64 2) = some (.int .i64 ((q * 2 : Nat) : Int)) := mulN (k := 2) (by omega) (by decide)
  have a2 := addN (show a + q * 2 < 4611686018427387904 by omega)
  have s0 : ∀ x : AV, A.S O t l ++ [Blk.cells true [x]] = A.S O (t ++ [.cells true [x]]) l := fun x => S_app hb
  simp only [r_slices_breakPatternsCmpFunc_Addr, XX, CC, Nat.reduceAdd, Nat.reduceSub, Nat.reduceLeDiff, Nat.reduceLT, Nat.reduceEqDiff, reduceIte, ↓reduceIte, Nat.reduceBEq, ws, dec_t (show ((b - a : Nat) : Int) ≥ 8 by omega), Go.Ev.op_cvi, Go.Ev.cvi_int, hw, S_len, s0]
  refine Run.mono _ _ _ _ _ ?_ (npow_r _ (b - a) (by omega) (by omega))
  rintro r t' ⟨k, rfl, rfl, k1, k2⟩
  have k0 := Nat.two_pow_pos k
  have hk64 : (2 ^ k : Nat) < 18446744073709551616 := by omega
  have hm1 : IntKind.u64.wrap (((2 ^ k : Nat) : Int) - 1) = ((2 ^ k - 1 : Nat) : Int) := by
    generalize 2 ^ k = z at k0 hk64
    rw [wu64]; omega
  simp only [XX, CC, Nat.reduceAdd, Nat.reduceSub, Nat.reduceLeDiff, Nat.reduceLT, Nat.reduceEqDiff, reduceIte, ↓reduceIte, Nat.reduceBEq, q4, m2, a2, w64_sub (show 0 < a + q * 2 by omega) (show a + q * 2 < 4611686018427387904 by omega)]
  refine awp_rounds (fun d e1 s => ∃ (i x : Nat) (l1 : List α), s = A.S O (t ++ [boxU x]) l1 ∧ i + d = a + q * 2 + 2 ∧ a + 1 ≤ i ∧ Sw a b l l1 ∧ e1.get 0 = A.v ∧ e1.get 1 = .int .i64 a ∧ e1.get 8 = .int .i64 (b - a : Nat) ∧ e1.get 9 = .ptr t.length 0 ∧ e1.get 10 = .int .u64 (2 ^ k : Nat) ∧ e1.get 11 = .int .i64 i) 3 ?_ ?_
  · refine ⟨a + q * 2 - 1, b - a, l, rfl, by omega, by omega, .refl, ?_, ?_, ?_, ?_, ?_, ?_⟩ <;> (try simp only [XX, CC, Nat.reduceAdd, Nat.reduceSub, Nat.reduceLeDiff, Nat.reduceLT, Nat.reduceEqDiff, reduceIte, ↓reduceIte, Nat.reduceBEq])
  rintro J d e s hJ ⟨i, x, l1, rfl, hd, hi, hs, g0, g1, g8, g9, g10, g11⟩
  have hl1 : l1.length = A.n := hs.len.trans hl
  have hbx : (A.S O (t ++ [boxU x]) l1)[t.length]? = some (boxU x) := S_boxU tb (by simp)
  simp only [XX, CC, Nat.reduceAdd, Nat.reduceSub, Nat.reduceLeDiff, Nat.reduceLT, Nat.reduceEqDiff, reduceIte, ↓reduceIte, Nat.reduceBEq, g0, g1, g8, g9, g10, g11, q4, m2, a2, w64_nat (show a + q * 2 < 4611686018427387904 by omega)]
  by_cases c : i ≤ a + q * 2 + 1
  · simp only [XX, CC, Nat.reduceAdd, Nat.reduceSub, Nat.reduceLeDiff, Nat.reduceLT, Nat.reduceEqDiff, reduceIte, ↓reduceIte, Nat.reduceBEq, g0, g1, g8, g9, g10, g11, q4, m2, a2, w64_nat (show a + q * 2 < 4611686018427387904 by omega), dec_t (show (i : Int) ≤ ((a + (q * 2 + 1) : Nat) : Int) by omega)]
    refine Run.mono _ _ _ _ _ ?_ (next_r _ t.length x hbx)
    rintro r t' ⟨z, hz, rfl, rfl⟩
    obtain ⟨o, ho, hand⟩ := andN z k hz (by omega)
    have hwo : IntKind.i64.wrap (o : Int) = o := by rw [w64_in (by omega) (by omega)]
    rw [S_set tb, set_end]
    have hbt : A.bk < (t ++ [boxU z]).length := by simp; omega
    by_cases c2 : o ≥ b - a
    · have ho2 : o - (b - a) < b - a := by omega
      obtain ⟨u, hu⟩ := at_of (show i < l1.length by omega)
      obtain ⟨w, hw⟩ := at_of (show a + (o - (b - a)) < l1.length by omega)
      have xu := A.ix i (by omega)
      have xw := A.ix (a + (o - (b - a))) (by omega)
      have lu := S_ld (O := O) (A := A) hbt hu
      have lw := S_ld (O := O) (A := A) hbt hw
      obtain ⟨w1, w2⟩ := S_swp (O := O) (A := A) hbt hu hw
      simp only [XX, CC, Nat.reduceAdd, Nat.reduceSub, Nat.reduceLeDiff, Nat.reduceLT, Nat.reduceEqDiff, reduceIte, ↓reduceIte, Nat.reduceBEq, g0, g1, g8, g9, g10, g11, hm1, hand, Go.Ev.op_cvi, Go.Ev.cvi_int, hwo, dec_t (show (o : Int) ≥ ((b - a : Nat) : Int) by omega), subN (show b - a ≤ o by omega) (show o < 4611686018427387904 by omega)]
      refine drw_in [] rfl ?_
      simp only [List.append_nil, DD, CC, Nat.reduceAdd, Nat.reduceSub, Nat.reduceLeDiff, Nat.reduceLT, Nat.reduceEqDiff, reduceIte, ↓reduceIte, Nat.reduceBEq, g0, g1, g11, addN (show a + (o - (b - a)) < 4611686018427387904 by omega), xu, xw, lu, lw, w1, w2, dr_stX, w64_nat (show i < 4611686018427387904 by omega)]
      refine hJ (d - 1) _ _ (by omega) ⟨i + 1, z, swp l1 i (a + (o - (b - a))), rfl, by omega, by omega, hs.step (by omega) (by omega) (by omega) (by omega), ?_, ?_, ?_, ?_, ?_, ?_⟩ <;> (try simp only [XX, CC, Nat.reduceAdd, Nat.reduceSub, Nat.reduceLeDiff, Nat.reduceLT, Nat.reduceEqDiff, reduceIte, ↓reduceIte, Nat.reduceBEq, g0, g1, g8, g9, g10])
    · obtain ⟨u, hu⟩ := at_of (show i < l1.length by omega)
      obtain ⟨w, hw⟩ := at_of (show a + o < l1.length by omega)
      have xu := A.ix i (by omega)
      have xw := A.ix (a + o) (by omega)
      have lu := S_ld (O := O) (A := A) hbt hu
      have lw := S_ld (O := O) (A := A) hbt hw
      obtain ⟨w1, w2⟩ := S_swp (O := O) (A := A) hbt hu hw
      simp only [XX, CC, Nat.reduceAdd, Nat.reduceSub, Nat.reduceLeDiff, Nat.reduceLT, Nat.reduceEqDiff, reduceIte, ↓reduceIte, Nat.reduceBEq, g0, g1, g8, g9, g10, g11, hm1, hand, Go.Ev.op_cvi, Go.Ev.cvi_int, hwo, dec_f (show ¬ (o : Int) ≥ ((b - a : Nat) : Int) by omega)]
      refine drw_in [] rfl ?_
      simp only [List.append_nil, DD, CC, Nat.reduceAdd, Nat.reduceSub, Nat.reduceLeDiff, Nat.reduceLT, Nat.reduceEqDiff, reduceIte, ↓reduceIte, Nat.reduceBEq, g0, g1, g11, addN (show a + o < 4611686018427387904 by omega), xu, xw, lu, lw, w1, w2, dr_stX, w64_nat (show i < 4611686018427387904 by omega)]
      refine hJ (d - 1) _ _ (by omega) ⟨i + 1, z, swp l1 i (a + o), rfl, by omega, by omega, hs.step (by omega) (by omega) (by omega) (by omega), ?_, ?_, ?_, ?_, ?_, ?_⟩ <;> (try simp only [XX, CC, Nat.reduceAdd, Nat.reduceSub, Nat.reduceLeDiff, Nat.reduceLT, Nat.reduceEqDiff, reduceIte, ↓reduceIte, Nat.reduceBEq, g0, g1, g8, g9, g10])
  · simp only [XX, CC, Nat.reduceAdd, Nat.reduceSub, Nat.reduceLeDiff, Nat.reduceLT, Nat.reduceEqDiff, reduceIte, ↓reduceIte, Nat.reduceBEq, g0, g1, g8, g9, g10, g11, q4, m2, a2, w64_nat (show a + q * 2 < 4611686018427387904 by omega), dec_f (show ¬ (i : Int) ≤ ((a + (q * 2 + 1) : Nat) : Int) by omega)]
    exact ret_S (k := fun r t' => ∃ l', t' = A.S O t l' ∧ Sw a b l l') hb rfl ⟨l1, rfl, hs⟩
end
end Go.Ev.So
