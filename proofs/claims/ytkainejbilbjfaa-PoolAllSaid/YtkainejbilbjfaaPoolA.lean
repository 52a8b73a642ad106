import Derived.Test.YtkainejbilbjfaaCTools
/-! pool: Free, Build; the laws' few and list. -/
namespace Go.Ev
set_option linter.unusedVariables false
set_option linter.unusedSimpArgs false
open Go.Ev.Sp

theorem awp_unroll {T : Nat → Option RF} {c : RC} {Q : XE → Env → St → Prop} {e : Env} {s : St} (h : awp (Run T) c (loopK (fun e s => awp (Run T) (.loop c) Q e s) Q) e s) : awp (Run T) (.loop c) Q e s := by
  intro I hI
  refine hI e s (awp_mono (fun _ _ _ _ h => h) Run.mono c ?_ h)
  intro x e s hx
  cases x with
  | nrm => exact hx I hI
  | exit id => exact hx
  | ret => exact hx

/-- Addresses as ranges of one. -/
def pts (l : List Nat) : List (Nat × Nat) := l.map fun a => (a, a)
theorem pts_wf {l : List Nat} (h : ∀ a ∈ l, a < 340282366920938463463374607431768211456) : Wf (pts l) := fun r hr => by
  obtain ⟨a, ha, rfl⟩ := List.mem_map.1 hr
  exact ⟨h a ha, h a ha⟩
theorem one_fill (x : Nat) {a b c d : AV} : setL (setL [a, b, c, d] 0 (cA x)) 2 (cA x) = cR (x, x) := rfl

set_option maxHeartbeats 4000000 in
/-- pool.Free -/
theorem free_r (s : St) (v w : AV) (set : List (Nat × Nat)) (tk : List Nat) (hl : set.length < 1000000) (hS : Wf set) (hv : Rd 4 cR s v set) (hl' : tk.length < 1000000) (hT : ∀ a ∈ tk, a < 340282366920938463463374607431768211456) (hw : Rd 2 cA s w tk) :
    Run T f_pool_Free [v, w] s (Ans s (sndB 0 set) (lessL set (builtL [] (pts tk)))) := by
  refine run_body (F := r_pool_Free) rfl (by simp [r_pool_Free]) ?_
  simp only [r_pool_Free, XX, CC, Nat.reduceAdd, Nat.reduceSub, Nat.reduceLeDiff, Nat.reduceLT, Nat.reduceEqDiff, reduceIte, ↓reduceIte, Nat.reduceBEq, hw.len]
  refine awp_rounds (fun d e t => Ext s t ∧ ∃ (i : Nat) (vo : AV) (O : List (Nat × Nat)), i + d = tk.length ∧ e.get 0 = v ∧ e.get 6 = vo ∧ e.get 9 = w ∧ e.get 10 = .int .i64 tk.length ∧ e.get 11 = .int .i64 i ∧ Own s.length 4 cR t vo O ∧ Snd 340282366920938463463374607431768211456 0 O ∧ O.length ≤ i ∧
    builtL [] (pts tk) = builtL O (pts (tk.drop i))) tk.length ?_ ?_
  · refine ⟨.refl s, 0, .nils, [], by omega, ?_, ?_, ?_, ?_, ?_, .nil, trivial, by simp, rfl⟩ <;> (try simp only [XX, CC, Nat.reduceAdd, Nat.reduceSub, Nat.reduceLeDiff, Nat.reduceLT, Nat.reduceEqDiff, reduceIte, ↓reduceIte, Nat.reduceBEq, hw.len]) <;> rfl
  rintro J d e t hJ ⟨hx, i, vo, O, hi, g0, g6, g9, g10, g11, ho, hs, hsl, hd0⟩
  have hwt := hw.ext hx
  simp only [XX, CC, Nat.reduceAdd, Nat.reduceSub, Nat.reduceLeDiff, Nat.reduceLT, Nat.reduceEqDiff, reduceIte, ↓reduceIte, Nat.reduceBEq, g0, g6, g9, g10, g11]
  by_cases h : i < tk.length
  · obtain ⟨a, ha, hd⟩ := drop_get h
    have haw := hT a (List.mem_of_getElem? ha)
    obtain ⟨b2, o2, h3, h4⟩ := rdA hwt ha
    have hwO := Snd.toWf hs
    rw [hd] at hd0
    have hput := put_r (t ++ [.cells true (cA a)]) vo O a a (by omega) hwO haw haw ((ho.app _).rd cR_len)
    rw [(sndB_iff hwO).2 hs, dec_t (Nat.le_refl a)] at hput
    have hb := fun l => (blkA (t := t ++ (.cells true (cA a) :: l)) (b := t.length) (q := a) (by simp)).1
    simp only [dec_t (show (i : Int) < tk.length by omega), XX, CC, Nat.reduceAdd, Nat.reduceSub, Nat.reduceLeDiff, Nat.reduceLT, Nat.reduceEqDiff, reduceIte, ↓reduceIte, Nat.reduceBEq, g0, g6, g9, g10, g11, h3, h4, hb, one_fill]
    refine Run.mono _ _ _ _ _ ?_ hput
    intro r t' hh
    obtain ⟨v', rfl, o⟩ := hh.yes rfl (by rw [putL_eq (Nat.le_refl a) hs, List.nil_append])
    have hpl := putS_length O a a
    simp only [XX, CC, Nat.reduceAdd, Nat.reduceSub, Nat.reduceLeDiff, Nat.reduceLT, Nat.reduceEqDiff, reduceIte, ↓reduceIte, Nat.reduceBEq, g11]
    refine hJ (d - 1) _ _ (by omega) ⟨hx.trans (Ext.trans ⟨_, rfl⟩ o.ext), i + 1, v', putS a a O, by omega, ?_, ?_, ?_, ?_, ?_, ?_, putS_snd (Nat.le_refl a) haw (Nat.zero_le _) hs, by omega, ?_⟩ <;> (try simp only [XX, CC, Nat.reduceAdd, Nat.reduceSub, Nat.reduceLeDiff, Nat.reduceLT, Nat.reduceEqDiff, reduceIte, ↓reduceIte, Nat.reduceBEq, g0, g6, g9, g10, g11])
    · rw [w64_nat (by omega)]
    · have := hx.len; exact o.own.mono (by simp; omega)
    · rw [hd0]; simp only [pts, List.map_cons, builtL_cons, Nat.le_refl, if_true]
  · rw [List.drop_of_length_le (by omega)] at hd0
    have hd1 : builtL [] (pts tk) = O := hd0
    simp only [dec_f (show ¬ (i : Int) < tk.length by omega), XX, CC, Nat.reduceAdd, Nat.reduceSub, Nat.reduceLeDiff, Nat.reduceLT, Nat.reduceEqDiff, reduceIte, ↓reduceIte, Nat.reduceBEq, g0, g6]
    refine Run.mono _ _ _ _ _ ?_ (less_r _ v vo set O (by omega) hS (Snd.toWf hs) (hv.ext hx) (ho.rd cR_len))
    intro r t' hh
    rw [(sndB_iff (Snd.toWf hs)).2 hs, Bool.and_true, ← hd1] at hh
    obtain ⟨v', rfl, o⟩ := hh.out
    simp only [XX, CC, Nat.reduceAdd, Nat.reduceSub, Nat.reduceLeDiff, Nat.reduceLT, Nat.reduceEqDiff, reduceIte, ↓reduceIte, Nat.reduceBEq]
    exact ret_own o.own hx.len (hx.trans o.ext) cR_un rfl fun v2 s2 h => ⟨_, rfl, h⟩

set_option maxHeartbeats 4000000 in
/-- pool.Build -/
theorem build_r (s : St) (v w : AV) (ps : List (Nat × Nat)) (tk : List Nat) (hl : ps.length < 1000000) (hS : Wf ps) (hv : Rd 4 cR s v ps) (hl' : tk.length < 1000000) (hT : ∀ a ∈ tk, a < 340282366920938463463374607431768211456) (hw : Rd 2 cA s w tk) :
    Run T f_pool_Build [v, w] s (Ans s (ps.all fun r => decide (r.1 ≤ r.2)) (lessL (builtL [] ps) (builtL [] (pts tk)))) := by
  refine run_body (F := r_pool_Build) rfl (by simp [r_pool_Build]) ?_
  simp only [r_pool_Build, XX, CC, Nat.reduceAdd, Nat.reduceSub, Nat.reduceLeDiff, Nat.reduceLT, Nat.reduceEqDiff, reduceIte, ↓reduceIte, Nat.reduceBEq, hv.len]
  refine awp_rounds (fun d e t => Ext s t ∧ ∃ (i : Nat) (vo : AV) (O : List (Nat × Nat)), i + d = ps.length ∧ e.get 1 = w ∧ e.get 6 = vo ∧ e.get 11 = v ∧ e.get 12 = .int .i64 ps.length ∧ e.get 13 = .int .i64 i ∧ Own s.length 4 cR t vo O ∧ Snd 340282366920938463463374607431768211456 0 O ∧ O.length ≤ i ∧
    (ps.all fun r => decide (r.1 ≤ r.2)) = ((ps.drop i).all fun r => decide (r.1 ≤ r.2)) ∧ builtL [] ps = builtL O (ps.drop i)) ps.length ?_ ?_
  · refine ⟨.refl s, 0, .nils, [], by omega, ?_, ?_, ?_, ?_, ?_, .nil, trivial, by simp, rfl, rfl⟩ <;> (try simp only [XX, CC, Nat.reduceAdd, Nat.reduceSub, Nat.reduceLeDiff, Nat.reduceLT, Nat.reduceEqDiff, reduceIte, ↓reduceIte, Nat.reduceBEq, hv.len]) <;> rfl
  rintro J d e t hJ ⟨hx, i, vo, O, hi, g1, g6, g11, g12, g13, ho, hs, hsl, hall, hd0⟩
  have hvt := hv.ext hx
  simp only [XX, CC, Nat.reduceAdd, Nat.reduceSub, Nat.reduceLeDiff, Nat.reduceLT, Nat.reduceEqDiff, reduceIte, ↓reduceIte, Nat.reduceBEq, g1, g6, g11, g12, g13]
  by_cases h : i < ps.length
  · obtain ⟨⟨a, b⟩, hq, hd⟩ := drop_get h
    have hqw := hS.get hq
    obtain ⟨b2, o2, h3, h4⟩ := rdR hvt hq
    have hwO := Snd.toWf hs
    rw [hd] at hd0 hall
    rw [List.all_cons] at hall
    have hput := put_r (t ++ [.cells true (cR (a, b))]) vo O a b (by omega) hwO hqw.1 hqw.2 ((ho.app _).rd cR_len)
    rw [(sndB_iff hwO).2 hs, Bool.true_and] at hput
    have hb := fun l => (blkR (t := t ++ (.cells true (cR (a, b)) :: l)) (b := t.length) (q := (a, b)) (by simp)).1
    have hor : decide (a ≤ b) = true ∨ decide (a ≤ b) = false := by cases decide (a ≤ b) <;> simp
    rcases hor with hdc | hdc
    all_goals rw [hdc] at hput
    all_goals rw [show decide ((a, b).1 ≤ (a, b).2) = decide (a ≤ b) from rfl, hdc] at hall
    all_goals simp only [dec_t (show (i : Int) < ps.length by omega), XX, CC, Nat.reduceAdd, Nat.reduceSub, Nat.reduceLeDiff, Nat.reduceLT, Nat.reduceEqDiff, reduceIte, ↓reduceIte, Nat.reduceBEq, g1, g6, g11, g12, g13, h3, h4, hb]
    all_goals refine Run.mono _ _ _ _ _ ?_ hput
    all_goals intro r t' hh
    · have hc : a ≤ b := by simpa using hdc
      obtain ⟨v', rfl, o⟩ := hh.yes rfl (by rw [putL_eq hc hs, List.nil_append])
      have hpl := putS_length O a b
      simp only [XX, CC, Nat.reduceAdd, Nat.reduceSub, Nat.reduceLeDiff, Nat.reduceLT, Nat.reduceEqDiff, reduceIte, ↓reduceIte, Nat.reduceBEq, g13, show ((0 : Int) == 0) = true from rfl, Bool.not_true]
      refine hJ (d - 1) _ _ (by omega) ⟨hx.trans (Ext.trans ⟨_, rfl⟩ o.ext), i + 1, v', putS a b O, by omega, ?_, ?_, ?_, ?_, ?_, ?_, putS_snd hc hqw.2 (Nat.zero_le _) hs, by omega, ?_, ?_⟩ <;> (try simp only [XX, CC, Nat.reduceAdd, Nat.reduceSub, Nat.reduceLeDiff, Nat.reduceLT, Nat.reduceEqDiff, reduceIte, ↓reduceIte, Nat.reduceBEq, g1, g6, g11, g12, g13])
      · rw [w64_nat (by omega)]
      · have := hx.len; exact o.own.mono (by simp; omega)
      · rw [hall, Bool.true_and]
      · rw [hd0, builtL_cons, if_pos hc]
    · obtain ⟨v', rfl, o⟩ := hh.nope
      simp only [XX, CC, Nat.reduceAdd, Nat.reduceSub, Nat.reduceLeDiff, Nat.reduceLT, Nat.reduceEqDiff, reduceIte, ↓reduceIte, Nat.reduceBEq, show ((1 : Int) == 0) = false from rfl, Bool.not_false]
      rw [hall, Bool.false_and]
      exact ret_drop (hx.trans (Ext.trans ⟨_, rfl⟩ o.ext)) rfl ans_no
  · rw [List.drop_of_length_le (by omega)] at hd0 hall
    have hd1 : builtL [] ps = O := hd0
    have hall1 : (ps.all fun r => decide (r.1 ≤ r.2)) = true := hall
    simp only [dec_f (show ¬ (i : Int) < ps.length by omega), XX, CC, Nat.reduceAdd, Nat.reduceSub, Nat.reduceLeDiff, Nat.reduceLT, Nat.reduceEqDiff, reduceIte, ↓reduceIte, Nat.reduceBEq, g1, g6]
    refine Run.mono _ _ _ _ _ ?_ (free_r _ vo w O tk (by omega) (Snd.toWf hs) (ho.rd cR_len) hl' hT (hw.ext hx))
    intro r t' hh
    rw [(sndB_iff (Snd.toWf hs)).2 hs] at hh
    obtain ⟨v', rfl, o⟩ := hh.yes rfl rfl
    simp only [XX, CC, Nat.reduceAdd, Nat.reduceSub, Nat.reduceLeDiff, Nat.reduceLT, Nat.reduceEqDiff, reduceIte, ↓reduceIte, Nat.reduceBEq]
    rw [hall1, hd1]
    exact ret_own o.own hx.len (hx.trans o.ext) cR_un rfl fun v2 s2 h => ⟨_, rfl, h⟩

/-- list -/
theorem list_r (s : St) (v w : AV) (l m : List Nat) (hl : l.length < 4611686018427387904) (hv : Rd 2 cA s v l) (hw : Rd 2 cA s w m) : RunD T f_w12_list [v, w] s (.bool (decide (l = m))) s := by
  refine run_body (F := r_w12_list) rfl (by simp [r_w12_list]) ?_
  by_cases hlm : l.length = m.length
  · have hb : ((l.length : Int) == (m.length : Int)) = true := by rw [hlm]; simp
    simp only [r_w12_list, XX, CC, Nat.reduceAdd, Nat.reduceSub, Nat.reduceLeDiff, Nat.reduceLT, Nat.reduceEqDiff, reduceIte, ↓reduceIte, Nat.reduceBEq, hv.len, hw.len, hb, Bool.not_true]
    refine awp_rounds (fun d e t => t = s ∧ ∃ i : Nat, i + d = l.length ∧ e.get 0 = v ∧ e.get 1 = w ∧ e.get 5 = .int .i64 i ∧ l.take i = m.take i) l.length ?_ ?_
    · refine ⟨rfl, 0, by omega, ?_, ?_, ?_, rfl⟩ <;> (try simp only [XX, CC, Nat.reduceAdd, Nat.reduceSub, Nat.reduceLeDiff, Nat.reduceLT, Nat.reduceEqDiff, reduceIte, ↓reduceIte, Nat.reduceBEq]) <;> rfl
    rintro J d e t hJ ⟨ht, i, hi, g0, g1, g5, hp⟩
    subst ht
    simp only [XX, CC, Nat.reduceAdd, Nat.reduceSub, Nat.reduceLeDiff, Nat.reduceLT, Nat.reduceEqDiff, reduceIte, ↓reduceIte, Nat.reduceBEq, g0, g1, g5, hv.len]
    by_cases h : i < l.length
    · obtain ⟨q, hq, hd⟩ := drop_get h
      obtain ⟨q2, hq2, hd2⟩ := drop_get (l := m) (i := i) (by omega)
      obtain ⟨b2, o2, h1, h2⟩ := rdA hv hq
      obtain ⟨b3, o3, h3, h4⟩ := rdA hw hq2
      simp only [dec_t (show (i : Int) < l.length by omega), XX, CC, Nat.reduceAdd, Nat.reduceSub, Nat.reduceLeDiff, Nat.reduceLT, Nat.reduceEqDiff, reduceIte, ↓reduceIte, Nat.reduceBEq, g0, g1, g5]
      refine drw_in [] rfl ?_
      simp only [List.append_nil, DD, CC, Nat.reduceAdd, Nat.reduceSub, Nat.reduceLeDiff, Nat.reduceLT, Nat.reduceEqDiff, reduceIte, ↓reduceIte, Nat.reduceBEq, g0, g1, g5, h1, h2, h3, h4, eq_A]
      cases c : decide (q = q2)
      · simp only [DD, CC, Nat.reduceAdd, Nat.reduceSub, Nat.reduceLeDiff, Nat.reduceLT, Nat.reduceEqDiff, reduceIte, ↓reduceIte, Nat.reduceBEq, Bool.not_false]
        refine ret_drop (.refl _) rfl ⟨?_, rfl⟩
        simp at c
        rw [dec_f (fun h => c (by subst h; exact Option.some.inj (hq.symm.trans hq2)))]
      · simp only [DD, CC, Nat.reduceAdd, Nat.reduceSub, Nat.reduceLeDiff, Nat.reduceLT, Nat.reduceEqDiff, reduceIte, ↓reduceIte, Nat.reduceBEq, Bool.not_true, g0, g1, g5]
        simp at c
        subst c
        refine hJ (d - 1) _ _ (by omega) ⟨rfl, i + 1, by omega, ?_, ?_, ?_, ?_⟩ <;> (try simp only [XX, CC, Nat.reduceAdd, Nat.reduceSub, Nat.reduceLeDiff, Nat.reduceLT, Nat.reduceEqDiff, reduceIte, ↓reduceIte, Nat.reduceBEq, g0, g1, g5])
        · rw [w64_nat (by omega)]
        · rw [List.take_add_one, List.take_add_one, hp, hq, hq2]
    · simp only [dec_f (show ¬ (i : Int) < l.length by omega), XX, CC, Nat.reduceAdd, Nat.reduceSub, Nat.reduceLeDiff, Nat.reduceLT, Nat.reduceEqDiff, reduceIte, ↓reduceIte, Nat.reduceBEq]
      refine ret_drop (.refl _) rfl ⟨?_, rfl⟩
      rw [List.take_of_length_le (by omega), List.take_of_length_le (by omega)] at hp
      rw [dec_t hp]
  · have hb : ((l.length : Int) == (m.length : Int)) = false := by simp; omega
    simp only [r_w12_list, XX, CC, Nat.reduceAdd, Nat.reduceSub, Nat.reduceLeDiff, Nat.reduceLT, Nat.reduceEqDiff, reduceIte, ↓reduceIte, Nat.reduceBEq, hv.len, hw.len, hb, Bool.not_false]
    refine ret_drop (.refl _) rfl ⟨?_, rfl⟩
    rw [dec_f (fun h => hlm (by rw [h]))]
end Go.Ev
