import Derived.Test.YtkainejbilbjfaaCAddr
import Derived.Test.YtkainejbilbjfaaSpN
/-! The functions of the package span. -/
namespace Go.Ev
set_option linter.unusedVariables false
set_option linter.unusedSimpArgs false
open Go.Ev.Sp

theorem below_r (s : St) (a b : Nat) : RunD T f_span_below [aA a, aA b] s (.bool (decide (a < b))) s := by
  refine run_body (F := r_span_below) rfl (by simp [r_span_below]) ?_
  simp only [r_span_below, XX, Nat.reduceAdd, Nat.reduceSub, Nat.reduceLeDiff, Nat.reduceLT, Nat.reduceEqDiff, reduceIte, ↓reduceIte, Nat.reduceBEq, cA]
  refine (cmp_r _ a b).use ?_
  simp only [XX, Nat.reduceAdd, Nat.reduceSub, Nat.reduceLeDiff, Nat.reduceLT, Nat.reduceEqDiff, reduceIte, ↓reduceIte, Nat.reduceBEq, cmpN_dlt]
  exact ret_drop ⟨_, rfl⟩ rfl ⟨rfl, rfl⟩
theorem one_r (s : St) : RunD T f_span_one [] s (aA 1) s := by
  refine run_body (F := r_span_one) rfl (by simp [r_span_one]) ?_
  simp only [r_span_one, XX, Nat.reduceAdd, Nat.reduceSub, Nat.reduceLeDiff, Nat.reduceLT, Nat.reduceEqDiff, reduceIte, ↓reduceIte, Nat.reduceBEq]
  exact ret_drop ⟨_, rfl⟩ rfl ⟨rfl, rfl⟩
theorem isRange_r (s : St) (r : Nat × Nat) : RunD T f_span_isRange [aR r] s (.bool (decide (r.1 ≤ r.2))) s := by
  refine run_body (F := r_span_isRange) rfl (by simp [r_span_isRange]) ?_
  simp only [r_span_isRange, XX, Nat.reduceAdd, Nat.reduceSub, Nat.reduceLeDiff, Nat.reduceLT, Nat.reduceEqDiff, reduceIte, ↓reduceIte, Nat.reduceBEq, cR]
  refine (below_r _ r.2 r.1).use ?_
  simp only [XX, Nat.reduceAdd, Nat.reduceSub, Nat.reduceLeDiff, Nat.reduceLT, Nat.reduceEqDiff, reduceIte, ↓reduceIte, Nat.reduceBEq]
  refine ret_drop ⟨_, rfl⟩ rfl ⟨?_, rfl⟩
  congr 1
  rw [← decide_not, decide_eq_decide]; omega
theorem apart_r (s : St) (r q : Nat × Nat) (hr : r.2 < 340282366920938463463374607431768211456) (hq : q.1 < 340282366920938463463374607431768211456) : RunD T f_span_apart [aR r, aR q] s (.bool (decide (r.2 + 1 < q.1))) s := by
  refine run_body (F := r_span_apart) rfl (by simp [r_span_apart]) ?_
  simp only [r_span_apart, XX, Nat.reduceAdd, Nat.reduceSub, Nat.reduceLeDiff, Nat.reduceLT, Nat.reduceEqDiff, reduceIte, ↓reduceIte, Nat.reduceBEq, cR, awp_drw]
  refine drw_in [.cells true [.int .u64 0, .int .u64 0]] rfl ?_
  simp only [DD, Nat.reduceAdd, Nat.reduceSub, Nat.reduceLeDiff, Nat.reduceLT, Nat.reduceEqDiff, reduceIte, ↓reduceIte, Nat.reduceBEq]
  refine dr_call (one_r _) ?_
  simp only [DD, Nat.reduceAdd, Nat.reduceSub, Nat.reduceLeDiff, Nat.reduceLT, Nat.reduceEqDiff, reduceIte, ↓reduceIte, Nat.reduceBEq]
  refine dr_call (add_r _ r.2 1 hr (by decide)) ?_
  simp only [DD, Nat.reduceAdd, Nat.reduceSub, Nat.reduceLeDiff, Nat.reduceLT, Nat.reduceEqDiff, reduceIte, ↓reduceIte, Nat.reduceBEq, cA]
  by_cases h : 340282366920938463463374607431768211456 ≤ r.2 + 1
  · simp only [ovr_t h, XX, Nat.reduceAdd, Nat.reduceSub, Nat.reduceLeDiff, Nat.reduceLT, Nat.reduceEqDiff, reduceIte, ↓reduceIte, Nat.reduceBEq, Bool.not_true]
    refine ret_drop ⟨_, rfl⟩ rfl ⟨?_, rfl⟩
    rw [dec_f (by omega)]
  · simp only [ovr_f h, XX, Nat.reduceAdd, Nat.reduceSub, Nat.reduceLeDiff, Nat.reduceLT, Nat.reduceEqDiff, reduceIte, ↓reduceIte, Nat.reduceBEq, Bool.not_false]
    refine (below_r _ ((r.2 + 1) % 340282366920938463463374607431768211456) q.1).use ?_
    refine ret_drop ⟨_, rfl⟩ rfl ⟨?_, rfl⟩
    rw [Nat.mod_eq_of_lt (by omega)]

def Wf (s : List (Nat × Nat)) : Prop := ∀ r ∈ s, r.1 < 340282366920938463463374607431768211456 ∧ r.2 < 340282366920938463463374607431768211456
theorem Wf.cons {q : Nat × Nat} {s : List (Nat × Nat)} (h : Wf (q :: s)) : (q.1 < 340282366920938463463374607431768211456 ∧ q.2 < 340282366920938463463374607431768211456) ∧ Wf s := ⟨h q (List.mem_cons_self ..), fun r hr => h r (List.mem_cons_of_mem _ hr)⟩
theorem Wf.of {s : List (Nat × Nat)} {lo : Nat} (h : Snd 340282366920938463463374607431768211456 lo s) : Wf s := fun r hr => by have := Snd.wf h r hr; omega
theorem Wf.get {s : List (Nat × Nat)} (h : Wf s) {i : Nat} {q : Nat × Nat} (hi : s[i]? = some q) : q.1 < 340282366920938463463374607431768211456 ∧ q.2 < 340282366920938463463374607431768211456 := h q (List.mem_of_getElem? hi)
theorem drop_get {α : Type} {l : List α} {i : Nat} (h : i < l.length) : ∃ q, l[i]? = some q ∧ l.drop i = q :: l.drop (i + 1) :=
  ⟨l[i], List.getElem?_eq_getElem h, List.drop_eq_getElem_cons h⟩
/-- Where an element lies, and what is read there. -/
theorem rdR {t : St} {v : AV} {set : List (Nat × Nat)} (hv : Rd 4 cR t v set) {i : Nat} {q : Nat × Nat} (hi : set[i]? = some q) :
    ∃ b o, (∀ k : IntKind, ixaA 4 v (.int k (i : Int)) = some (.ptr b o)) ∧ ldA t (some 4) (.ptr b o) = some (aR q) ∧ ldA t (some 2) (.ptr b o) = some (aA q.1) ∧ ldA t (some 2) (.ptr b (o + 2)) = some (aA q.2) ∧
      (∀ l, ldA (t ++ l) (some 4) (.ptr b o) = some (aR q)) ∧ (∀ l, ldA (t ++ l) (some 2) (.ptr b o) = some (aA q.1)) ∧ ∀ l, ldA (t ++ l) (some 2) (.ptr b (o + 2)) = some (aA q.2) := by
  obtain ⟨b, o, h1, h2⟩ := hv.get cR_len hi
  have a1 : ldA t (some 4) (.ptr b o) = some (aR q) := h2 (some 4) 0 (aR q) rfl
  have a2 : ldA t (some 2) (.ptr b o) = some (aA q.1) := h2 (some 2) 0 (aA q.1) rfl
  have a3 : ldA t (some 2) (.ptr b (o + 2)) = some (aA q.2) := h2 (some 2) 2 (aA q.2) rfl
  exact ⟨b, o, h1, a1, a2, a3, ldA_ext a1, ldA_ext a2, ldA_ext a3⟩
theorem rdA {t : St} {v : AV} {l : List Nat} (hv : Rd 2 cA t v l) {i : Nat} {q : Nat} (hi : l[i]? = some q) :
    ∃ b o, (∀ k : IntKind, ixaA 2 v (.int k (i : Int)) = some (.ptr b o)) ∧ ldA t (some 2) (.ptr b o) = some (aA q) ∧ ∀ l, ldA (t ++ l) (some 2) (.ptr b o) = some (aA q) := by
  obtain ⟨b, o, h1, h2⟩ := hv.get cA_len hi
  have a1 : ldA t (some 2) (.ptr b o) = some (aA q) := h2 (some 2) 0 (aA q) rfl
  exact ⟨b, o, h1, a1, ldA_ext a1⟩
def sndB : Nat → List (Nat × Nat) → Bool
  | _, [] => true
  | lo, r :: s => decide (lo ≤ r.1) && (decide (r.1 ≤ r.2) && sndB (r.2 + 2) s)
theorem sndB_iff : ∀ {s : List (Nat × Nat)} {lo : Nat}, Wf s → (sndB lo s = true ↔ Snd 340282366920938463463374607431768211456 lo s)
  | [], _, _ => ⟨fun _ => trivial, fun _ => rfl⟩
  | r :: s, lo, h => by
    unfold sndB Snd
    rw [Bool.and_eq_true, Bool.and_eq_true, decide_eq_true_iff, decide_eq_true_iff, sndB_iff h.cons.2]
    exact ⟨fun ⟨a, b, c⟩ => ⟨a, b, h.cons.1.2, c⟩, fun ⟨a, b, _, c⟩ => ⟨a, b, c⟩⟩
/-- where the next range may begin -/
def lo (l : List (Nat × Nat)) : Nat → Nat
  | 0 => 0
  | i + 1 => (l[i]?.getD (0, 0)).2 + 2

/-- span.Sound -/
theorem sound_r (s : St) (v : AV) (set : List (Nat × Nat)) (hl : set.length < 4611686018427387904) (hw : Wf set) (hv : Rd 4 cR s v set) : RunD T f_span_Sound [v] s (.bool (sndB 0 set)) s := by
  refine run_body (F := r_span_Sound) rfl (by simp [r_span_Sound]) ?_
  simp only [r_span_Sound, XX, Nat.reduceAdd, Nat.reduceSub, Nat.reduceLeDiff, Nat.reduceLT, Nat.reduceEqDiff, reduceIte, ↓reduceIte, Nat.reduceBEq, hv.len]
  refine awp_loop (fun d e t => Ext s t ∧ ∃ i : Nat, i + d = set.length ∧ e.get 0 = v ∧ e.get 5 = v ∧ e.get 6 = .int .i64 set.length ∧ e.get 7 = .int .i64 i ∧ sndB 0 set = sndB (lo set i) (set.drop i)) set.length ?_ ?_
  · refine ⟨.refl s, 0, by omega, ?_, ?_, ?_, ?_, rfl⟩ <;> simp only [XX, Nat.reduceAdd, Nat.reduceSub, Nat.reduceLeDiff, Nat.reduceLT, Nat.reduceEqDiff, reduceIte, ↓reduceIte, Nat.reduceBEq] <;> rfl
  · rintro d e t ⟨hx, i, hi, h0, h5, h6, h7, hs⟩
    have hv := hv.ext hx
    simp only [XX, Nat.reduceAdd, Nat.reduceSub, Nat.reduceLeDiff, Nat.reduceLT, Nat.reduceEqDiff, reduceIte, ↓reduceIte, Nat.reduceBEq, h0, h5, h6, h7]
    by_cases h : i < set.length
    · obtain ⟨q, hq, hd⟩ := drop_get h
      obtain ⟨b, o, h1, h2⟩ := rdR hv hq
      simp only [dec_t (show (i : Int) < set.length by omega), XX, Nat.reduceAdd, Nat.reduceSub, Nat.reduceLeDiff, Nat.reduceLT, Nat.reduceEqDiff, reduceIte, ↓reduceIte, Nat.reduceBEq, h0, h5, h6, h7, h1, h2, cR]
      refine drw_in [] rfl ?_
      simp only [DD, Nat.reduceAdd, Nat.reduceSub, Nat.reduceLeDiff, Nat.reduceLT, Nat.reduceEqDiff, reduceIte, ↓reduceIte, Nat.reduceBEq, h0, h5, h6, h7, h1, h2]
      refine dr_call (isRange_r _ q) ?_
      rw [hd] at hs; simp only [sndB] at hs
      cases hr : decide (q.1 ≤ q.2)
      · simp only [DD, Nat.reduceAdd, Nat.reduceSub, Nat.reduceLeDiff, Nat.reduceLT, Nat.reduceEqDiff, reduceIte, ↓reduceIte, Nat.reduceBEq, h0, h5, h6, h7, h1, h2, Bool.not_false]
        refine ret_drop (hx.trans ⟨_, rfl⟩) rfl ⟨?_, rfl⟩
        rw [hs, hr]; simp
      · by_cases hz : 0 < i
        · obtain ⟨p, hp, _⟩ := drop_get (l := set) (i := i - 1) (by omega)
          obtain ⟨b', o', h3, h4⟩ := rdR hv hp
          have hlo : lo set i = p.2 + 2 := by
            obtain ⟨j, rfl⟩ : ∃ j, i = j + 1 := ⟨i - 1, by omega⟩
            simp at hp; simp [lo, hp]
          simp only [DD, Nat.reduceAdd, Nat.reduceSub, Nat.reduceLeDiff, Nat.reduceLT, Nat.reduceEqDiff, reduceIte, ↓reduceIte, Nat.reduceBEq, h0, h5, h6, h7, h1, h2, h3, h4, Bool.not_true, w64_sub hz (by omega), dec_t (show (i : Int) > 0 by omega)]
          refine dr_call (apart_r _ p q (hw.get hp).2 (hw.get hq).1) ?_
          rw [hlo] at hs
          cases ha : decide (p.2 + 1 < q.1)
          · simp only [DD, Nat.reduceAdd, Nat.reduceSub, Nat.reduceLeDiff, Nat.reduceLT, Nat.reduceEqDiff, reduceIte, ↓reduceIte, Nat.reduceBEq, h0, h5, h6, h7, Bool.not_false]
            refine ret_drop (hx.trans ⟨_, rfl⟩) rfl ⟨?_, rfl⟩
            simp at ha
            rw [hs, dec_f (by omega)]; rfl
          · simp only [DD, Nat.reduceAdd, Nat.reduceSub, Nat.reduceLeDiff, Nat.reduceLT, Nat.reduceEqDiff, reduceIte, ↓reduceIte, Nat.reduceBEq, h0, h5, h6, h7, Bool.not_true]
            refine loop_again ⟨d - 1, by omega, hx.trans ⟨_, rfl⟩, i + 1, by omega, ?_, ?_, ?_, ?_, ?_⟩ <;> (try simp only [XX, Nat.reduceAdd, Nat.reduceSub, Nat.reduceLeDiff, Nat.reduceLT, Nat.reduceEqDiff, reduceIte, ↓reduceIte, Nat.reduceBEq, h0, h5, h6, h7])
            · rw [w64_nat (by omega)]
            · simp at ha hr
              rw [hs, dec_t (by omega), dec_t hr]
              simp [lo, hq]
        · have hi0 : i = 0 := by omega
          subst hi0
          simp only [DD, Nat.reduceAdd, Nat.reduceSub, Nat.reduceLeDiff, Nat.reduceLT, Nat.reduceEqDiff, reduceIte, ↓reduceIte, Nat.reduceBEq, h0, h5, h6, h7, h1, h2, Bool.not_true, dec_f (show ¬ ((0 : Nat) : Int) > 0 by omega)]
          refine loop_again ⟨d - 1, by omega, hx.trans ⟨_, rfl⟩, 0 + 1, by omega, ?_, ?_, ?_, ?_, ?_⟩ <;> (try simp only [XX, Nat.reduceAdd, Nat.reduceSub, Nat.reduceLeDiff, Nat.reduceLT, Nat.reduceEqDiff, reduceIte, ↓reduceIte, Nat.reduceBEq, h0, h5, h6, h7])
          · rw [w64_nat (by omega)]
          · simp at hr
            rw [hs, dec_t hr]
            simp [lo, hq]
    · simp only [dec_f (show ¬ (i : Int) < set.length by omega), XX, Nat.reduceAdd, Nat.reduceSub, Nat.reduceLeDiff, Nat.reduceLT, Nat.reduceEqDiff, reduceIte, ↓reduceIte, Nat.reduceBEq]
      refine ret_drop hx rfl ⟨?_, rfl⟩
      rw [hs, List.drop_of_length_le (by omega)]; rfl
end Go.Ev
