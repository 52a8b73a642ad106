import Derived.Test.YtmkhnefjklfpnaaCLawC
/-! Sets put together range by range: built; in. -/
namespace Go.Ev
set_option linter.unusedVariables false
set_option linter.unusedSimpArgs false
open Go.Ev.Sp

/-- A loop, what it comes back to being a mere name. -/
theorem awp_rounds {T : Nat → Option RF} {c : RC} {Q : XE → Env → St → Prop} {e : Env} {s : St} (I : Nat → Env → St → Prop) (d : Nat) (h0 : I d e s)
    (round : ∀ (J : Env → St → Prop) d e s, (∀ d' e' s', d' < d → I d' e' s' → J e' s') → I d e s → awp (Run T) c (loopK J Q) e s) : awp (Run T) (.loop c) Q e s :=
  awp_loop I d h0 fun d e s h => round _ d e s (fun d' e' s' hd hi => ⟨d', hd, hi⟩) h

def builtL : List (Nat × Nat) → List (Nat × Nat) → List (Nat × Nat)
  | set, [] => set
  | set, q :: l => builtL (if q.1 ≤ q.2 then putS q.1 q.2 set else set) l
theorem builtL_cons (set : List (Nat × Nat)) (q : Nat × Nat) (l : List (Nat × Nat)) : builtL set (q :: l) = builtL (if q.1 ≤ q.2 then putS q.1 q.2 set else set) l := rfl
theorem putS_ok {set : List (Nat × Nat)} {q : Nat × Nat} (hs : Snd 340282366920938463463374607431768211456 0 set) (hq : q.2 < 340282366920938463463374607431768211456) : Snd 340282366920938463463374607431768211456 0 (if q.1 ≤ q.2 then putS q.1 q.2 set else set) := by
  split
  · rename_i h; exact putS_snd h hq (Nat.zero_le _) hs
  · exact hs
theorem Snd.toWf {set : List (Nat × Nat)} {lo : Nat} (h : Snd 340282366920938463463374607431768211456 lo set) : Wf set := fun r hr => by
  have := Snd.wf h r hr
  omega
theorem builtL_snd : ∀ {l set : List (Nat × Nat)}, Snd 340282366920938463463374607431768211456 0 set → Wf l → Snd 340282366920938463463374607431768211456 0 (builtL set l)
  | [], _, h, _ => h
  | q :: l, set, h, hw => builtL_snd (l := l) (set := if q.1 ≤ q.2 then putS q.1 q.2 set else set) (putS_ok h hw.cons.1.2) hw.cons.2
theorem builtL_len : ∀ (l set : List (Nat × Nat)), (builtL set l).length ≤ set.length + l.length
  | [], _ => by simp [builtL]
  | q :: l, set => by
    have h1 := builtL_len l (if q.1 ≤ q.2 then putS q.1 q.2 set else set)
    have h2 := putS_length set q.1 q.2
    unfold builtL
    rw [List.length_cons]
    split at h1 <;> (rename_i h; simp only [h, if_true, if_false] at *; omega)
theorem builtL_mem {x : Nat} : ∀ {l set : List (Nat × Nat)}, Snd 340282366920938463463374607431768211456 0 set → Wf l → (mem (builtL set l) x ↔ mem set x ∨ mem l x)
  | [], set, _, _ => by simp [builtL, mem_nil]
  | q :: l, set, h, hw => by
    unfold builtL
    rw [builtL_mem (putS_ok h hw.cons.1.2) hw.cons.2, mem_cons]
    split
    · rename_i hq
      rw [putS_mem x hq fun r hr => (Snd.wf h r hr).1]
      constructor
      · rintro ((h | h) | h)
        · exact .inl h
        · exact .inr (.inl h)
        · exact .inr (.inr h)
      · rintro (h | h | h)
        · exact .inl (.inl h)
        · exact .inl (.inr h)
        · exact .inr h
    · rename_i hq
      constructor
      · rintro (h | h)
        · exact .inl h
        · exact .inr (.inr h)
      · rintro (h | h | h)
        · exact .inl h
        · omega
        · exact .inr h

set_option maxHeartbeats 4000000 in
/-- built -/
theorem built_r (s : St) (v : AV) (l : List (Nat × Nat)) (hl : l.length < 4611686018427387904) (hw : Wf l) (hv : Rd 4 cR s v l) : Run T f_w03_built [v] s (Out 4 cR s (builtL [] (l.take 200))) := by
  refine run_body (F := r_w03_built) rfl (by simp [r_w03_built]) ?_
  simp only [r_w03_built, XX, CC, Nat.reduceAdd, Nat.reduceSub, Nat.reduceLeDiff, Nat.reduceLT, Nat.reduceEqDiff, reduceIte, ↓reduceIte, Nat.reduceBEq]
  refine awp_rounds (fun d e t => Ext s t ∧ ∃ (i : Nat) (vs : AV) (set : List (Nat × Nat)), i + d = l.length ∧ e.get 0 = v ∧ e.get 3 = vs ∧ e.get 4 = .int .i64 i ∧ Own s.length 4 cR t vs set ∧ Snd 340282366920938463463374607431768211456 0 set ∧ set.length ≤ i ∧ i ≤ 200 ∧
    builtL [] (l.take 200) = builtL set ((l.take 200).drop i)) l.length ?_ ?_
  · refine ⟨.refl s, 0, .nils, [], by omega, ?_, ?_, ?_, .nil, trivial, by simp, by omega, rfl⟩ <;> (try simp only [XX, CC, Nat.reduceAdd, Nat.reduceSub, Nat.reduceLeDiff, Nat.reduceLT, Nat.reduceEqDiff, reduceIte, ↓reduceIte, Nat.reduceBEq]) <;> rfl
  rintro J d e t hJ ⟨hx, i, vs, set, hi, g0, g3, g4, ho, hs, hsl, hi2, hd0⟩
  have hvt := hv.ext hx
  simp only [XX, CC, Nat.reduceAdd, Nat.reduceSub, Nat.reduceLeDiff, Nat.reduceLT, Nat.reduceEqDiff, reduceIte, ↓reduceIte, Nat.reduceBEq, g0, g3, g4, hvt.len]
  by_cases h : i < l.length
  · by_cases h2 : i < 200
    · obtain ⟨q, hq, hd⟩ := drop_get (l := l.take 200) (i := i) (by simp; omega)
      have hq' : l[i]? = some q := by rw [List.getElem?_take, if_pos h2] at hq; exact hq
      have hqw := hw.get hq'
      obtain ⟨b2, o2, h3, h4⟩ := rdR hvt hq'
      have hwS := Snd.toWf hs
      rw [hd] at hd0
      have hok : (sndB 0 set && decide (q.1 ≤ q.2)) = decide (q.1 ≤ q.2) := by rw [(sndB_iff hwS).2 hs, Bool.true_and]
      have hput := put_r t vs set q.1 q.2 (by omega) hwS hqw.1 hqw.2 (ho.rd cR_len)
      rw [hok] at hput
      have hor : decide (q.1 ≤ q.2) = true ∨ decide (q.1 ≤ q.2) = false := by cases decide (q.1 ≤ q.2) <;> simp
      rcases hor with hdc | hdc
      all_goals rw [hdc] at hput
      all_goals simp only [dec_t (show (i : Int) < l.length by omega), dec_t (show (i : Int) < 200 by omega), XX, CC, Nat.reduceAdd, Nat.reduceSub, Nat.reduceLeDiff, Nat.reduceLT, Nat.reduceEqDiff, reduceIte, ↓reduceIte, Nat.reduceBEq, g0, g3, g4, h3, h4]
      all_goals refine Run.mono _ _ _ _ _ ?_ hput
      all_goals intro r t' ha
      · obtain ⟨v', rfl, o⟩ := ha.yes rfl rfl
        obtain ⟨z, rfl⟩ := o.ext
        simp only [XX, CC, Nat.reduceAdd, Nat.reduceSub, Nat.reduceLeDiff, Nat.reduceLT, Nat.reduceEqDiff, reduceIte, ↓reduceIte, Nat.reduceBEq, g0, g3, g4, show ((0 : Int) == 0) = true from rfl]
        have hc : q.1 ≤ q.2 := by simpa using hdc
        have hpl := putS_length set q.1 q.2
        have hpe : putL [] [] q.1 q.2 set = putS q.1 q.2 set := by rw [putL_eq hc hs]; rfl
        refine hJ (d - 1) _ _ (by omega) ⟨hx.app _, i + 1, v', putS q.1 q.2 set, by omega, ?_, ?_, ?_, ?_, putS_snd hc hqw.2 (Nat.zero_le _) hs, by omega, by omega, ?_⟩ <;> (try simp only [XX, CC, Nat.reduceAdd, Nat.reduceSub, Nat.reduceLeDiff, Nat.reduceLT, Nat.reduceEqDiff, reduceIte, ↓reduceIte, Nat.reduceBEq, g0, g3, g4])
        · rw [w64_nat (by omega)]
        · have := o.own.mono (m := s.length) hx.len
          rw [← hpe]; exact this
        · rw [hd0, builtL_cons, if_pos hc]
      · obtain ⟨v', rfl, o⟩ := ha.out
        obtain ⟨z, rfl⟩ := o.ext
        simp only [show (if false = true then (0 : Int) else 1) = 1 from rfl]
        simp only [XX, CC, Nat.reduceAdd, Nat.reduceSub, Nat.reduceLeDiff, Nat.reduceLT, Nat.reduceEqDiff, reduceIte, ↓reduceIte, Nat.reduceBEq, g0, g3, g4, show ((1 : Int) == 0) = false from rfl]
        have hc : ¬ q.1 ≤ q.2 := by simpa using hdc
        refine hJ (d - 1) _ _ (by omega) ⟨hx.app _, i + 1, vs, set, by omega, ?_, ?_, ?_, ho.app _, hs, by omega, by omega, ?_⟩ <;> (try simp only [XX, CC, Nat.reduceAdd, Nat.reduceSub, Nat.reduceLeDiff, Nat.reduceLT, Nat.reduceEqDiff, reduceIte, ↓reduceIte, Nat.reduceBEq, g0, g3, g4])
        · rw [w64_nat (by omega)]
        · rw [hd0, builtL_cons, if_neg hc]
    · simp only [dec_t (show (i : Int) < l.length by omega), dec_f (show ¬ (i : Int) < 200 by omega), XX, CC, Nat.reduceAdd, Nat.reduceSub, Nat.reduceLeDiff, Nat.reduceLT, Nat.reduceEqDiff, reduceIte, ↓reduceIte, Nat.reduceBEq, g3, g4]
      rw [List.drop_of_length_le (by simp; omega)] at hd0
      refine ret_own1 ho (Nat.le_refl _) hx cR_un fun v' s' h => ?_
      rw [hd0]; exact h
  · simp only [dec_f (show ¬ (i : Int) < l.length by omega), XX, CC, Nat.reduceAdd, Nat.reduceSub, Nat.reduceLeDiff, Nat.reduceLT, Nat.reduceEqDiff, reduceIte, ↓reduceIte, Nat.reduceBEq, g3]
    rw [List.drop_of_length_le (by simp; omega)] at hd0
    refine ret_own1 ho (Nat.le_refl _) hx cR_un fun v' s' h => ?_
    rw [hd0]; exact h

/-- in -/
theorem win_r (s : St) (r : Nat × Nat) (x : Nat) (h1 : r.1 < 340282366920938463463374607431768211456) (h2 : r.2 < 340282366920938463463374607431768211456) (hx : x < 340282366920938463463374607431768211456) : RunD T f_w03_in [aR r, aA x] s (.bool (decide (r.1 ≤ x) && decide (x ≤ r.2))) s := by
  refine run_body (F := r_w03_in) rfl (by simp [r_w03_in]) ?_
  simp only [r_w03_in, XX, CC, Nat.reduceAdd, Nat.reduceSub, Nat.reduceLeDiff, Nat.reduceLT, Nat.reduceEqDiff, reduceIte, ↓reduceIte, Nat.reduceBEq]
  refine (cmp_r _ r.1 x).use ?_
  simp only [XX, CC, Nat.reduceAdd, Nat.reduceSub, Nat.reduceLeDiff, Nat.reduceLT, Nat.reduceEqDiff, reduceIte, ↓reduceIte, Nat.reduceBEq, cmpN_dle]
  cases c : decide (r.1 ≤ x)
  · simp only [XX, CC, Nat.reduceAdd, Nat.reduceSub, Nat.reduceLeDiff, Nat.reduceLT, Nat.reduceEqDiff, reduceIte, ↓reduceIte, Nat.reduceBEq]
    exact ret_drop ⟨_, rfl⟩ rfl ⟨rfl, rfl⟩
  · simp only [XX, CC, Nat.reduceAdd, Nat.reduceSub, Nat.reduceLeDiff, Nat.reduceLT, Nat.reduceEqDiff, reduceIte, ↓reduceIte, Nat.reduceBEq]
    refine (cmp_r _ x r.2).use ?_
    simp only [XX, CC, Nat.reduceAdd, Nat.reduceSub, Nat.reduceLeDiff, Nat.reduceLT, Nat.reduceEqDiff, reduceIte, ↓reduceIte, Nat.reduceBEq, cmpN_dle]
    exact ret_drop ⟨_, rfl⟩ rfl ⟨rfl, rfl⟩
end Go.Ev
