import Derived.Test.YtkainejbilbjfaaCRefH
import Derived.Test.YtkainejbilbjfaaEvU
/-! Tools for laws over sets of ranges. -/
namespace Go.Ev
set_option linter.unusedVariables false
set_option linter.unusedSimpArgs false
open Go.Ev.Sp

theorem Ans.yes {s t : St} {ok : Bool} {l m : List (Nat × Nat)} {r : AV} (h : Ans s ok l r t) (hok : ok = true) (hl : l = m) : ∃ v, r = .tup [v, .int .i64 0] ∧ Out 4 cR s m v t := by
  subst hok hl; exact h
theorem Ans.out {s t : St} {ok : Bool} {l : List (Nat × Nat)} {r : AV} (h : Ans s ok l r t) : ∃ v, r = .tup [v, .int .i64 (if ok then 0 else 1)] ∧ Out 4 cR s (if ok then l else []) v t := h

theorem lessL_len : ∀ {t s : List (Nat × Nat)} {lo lo' : Nat}, Snd 340282366920938463463374607431768211456 lo s → Snd 340282366920938463463374607431768211456 lo' t → (lessL s t).length ≤ s.length + t.length
  | [], _, _, _, h, _ => by simp [lessL]
  | r :: t, s, _, _, h, h2 => by
    have h3 := dropL_length1 h2.2.1 h
    have := lessL_len (dropL_snd h2.2.1 h) h2.2.2.2
    unfold lessL
    rw [List.length_cons]
    omega
theorem put_len {set : List (Nat × Nat)} {a b : Nat} (hw : Wf set) (h : (sndB 0 set && decide (a ≤ b)) = true) : (putL [] [] a b set).length ≤ set.length + 1 := by
  simp only [Bool.and_eq_true, decide_eq_true_eq] at h
  rw [putL_eq h.2 ((sndB_iff hw).1 h.1), List.nil_append]
  exact putS_length _ _ _
theorem less_len {set oth : List (Nat × Nat)} (hw : Wf set) (hw' : Wf oth) (h : (sndB 0 set && sndB 0 oth) = true) : (lessL set oth).length ≤ set.length + oth.length := by
  simp only [Bool.and_eq_true] at h
  exact lessL_len ((sndB_iff hw).1 h.1) ((sndB_iff hw').1 h.2)
theorem if_len {c : Bool} {l : List (Nat × Nat)} {n : Nat} (h : c = true → l.length ≤ n) : (if c then l else []).length ≤ n := by
  cases c
  · exact Nat.zero_le _
  · exact h rfl

theorem cnt_same {set : List (Nat × Nat)} (hw : Wf set) : cntV set = rcntV set := by
  unfold cntV rcntV
  split
  · rename_i h
    rw [decide_eq_decide.2 (cnt_all ((sndB_iff hw).1 h))]
  · rfl
theorem nthV_at (set : List (Nat × Nat)) (n : Nat) : ∃ (x : Nat) (b : Bool), nthV set n = .tup [aA x, .bool b] := by
  unfold nthV
  split
  · split
    · exact ⟨_, _, rfl⟩
    · exact ⟨_, _, rfl⟩
  · exact ⟨_, _, rfl⟩
theorem cntV_at (set : List (Nat × Nat)) : ∃ (x : Nat) (b : Bool), cntV set = .tup [aA x, .bool b] := by
  unfold cntV
  split
  · exact ⟨_, _, rfl⟩
  · exact ⟨_, _, rfl⟩

/-- A loop, what it comes back to being a mere name. -/
theorem awp_rounds {T : Nat → Option RF} {c : RC} {Q : XE → Env → St → Prop} {e : Env} {s : St} (I : Nat → Env → St → Prop) (d : Nat) (h0 : I d e s)
    (round : ∀ (J : Env → St → Prop) d e s, (∀ d' e' s', d' < d → I d' e' s' → J e' s') → I d e s → awp (Run T) c (loopK J Q) e s) : awp (Run T) (.loop c) Q e s :=
  awp_loop I d h0 fun d e s h => round _ d e s (fun d' e' s' hd hi => ⟨d', hd, hi⟩) h

def builtL : List (Nat × Nat) → List (Nat × Nat) → List (Nat × Nat)
  | set, [] => set
  | set, q :: l => builtL (if q.1 ≤ q.2 then putS q.1 q.2 set else set) l
theorem builtL_cons (set : List (Nat × Nat)) (q : Nat × Nat) (l : List (Nat × Nat)) : builtL set (q :: l) = builtL (if q.1 ≤ q.2 then putS q.1 q.2 set else set) l := rfl
theorem putS_ok {set : List (Nat × Nat)} {q : Nat × Nat} (hs : Snd 340282366920938463463374607431768211456 0 set) (hq : q.2 < 340282366920938463463374607431768211456) : Snd 340282366920938463463374607431768211456 0 (if q.1 ≤ q.2 then putS q.1 q.2 set else set) := by
  split
  · rename_i h; exact putS_snd h hq (Nat.zero_le _) hs
  · exact hs
theorem Snd.toWf {set : List (Nat × Nat)} {lo : Nat} (h : Snd 340282366920938463463374607431768211456 lo set) : Wf set := fun r hr => by
  have := Snd.wf h r hr
  omega
theorem builtL_snd : ∀ {l set : List (Nat × Nat)}, Snd 340282366920938463463374607431768211456 0 set → Wf l → Snd 340282366920938463463374607431768211456 0 (builtL set l)
  | [], _, h, _ => h
  | q :: l, set, h, hw => builtL_snd (l := l) (set := if q.1 ≤ q.2 then putS q.1 q.2 set else set) (putS_ok h hw.cons.1.2) hw.cons.2
theorem builtL_len : ∀ (l set : List (Nat × Nat)), (builtL set l).length ≤ set.length + l.length
  | [], _ => by simp [builtL]
  | q :: l, set => by
    have h1 := builtL_len l (if q.1 ≤ q.2 then putS q.1 q.2 set else set)
    have h2 := putS_length set q.1 q.2
    unfold builtL
    rw [List.length_cons]
    split at h1 <;> (rename_i h; simp only [h, if_true, if_false] at *; omega)
theorem builtL_mem {x : Nat} : ∀ {l set : List (Nat × Nat)}, Snd 340282366920938463463374607431768211456 0 set → Wf l → (mem (builtL set l) x ↔ mem set x ∨ mem l x)
  | [], set, _, _ => by simp [builtL, mem_nil]
  | q :: l, set, h, hw => by
    unfold builtL
    rw [builtL_mem (putS_ok h hw.cons.1.2) hw.cons.2, mem_cons]
    split
    · rename_i hq
      rw [putS_mem x hq fun r hr => (Snd.wf h r hr).1]
      constructor
      · rintro ((h | h) | h)
        · exact .inl h
        · exact .inr (.inl h)
        · exact .inr (.inr h)
      · rintro (h | h | h)
        · exact .inl (.inl h)
        · exact .inl (.inr h)
        · exact .inr h
    · rename_i hq
      constructor
      · rintro (h | h)
        · exact .inl h
        · exact .inr (.inr h)
      · rintro (h | h | h)
        · exact .inl h
        · omega
        · exact .inr h

theorem Ans.nope {s t : St} {l : List (Nat × Nat)} {r : AV} (h : Ans s false l r t) : ∃ v, r = .tup [v, .int .i64 1] ∧ Out 4 cR s [] v t := h
section
variable {α : Type} {e : Nat} {enc : α → List AV} {s : St} {v : AV} {l : List α}
theorem flat_first (he : ∀ x, (enc x).length = e) : ∀ (l : List α) (n : Nat), (l.take n).flatMap enc = (l.flatMap enc).take (n * e)
  | l, 0 => by simp
  | [], n + 1 => by simp
  | x :: l, n + 1 => by
    rw [List.take_succ_cons, List.flatMap_cons, List.flatMap_cons, flat_first he l n, Nat.succ_mul, Nat.add_comm, ← he x, List.take_append, List.take_of_length_le (Nat.le_add_right _ _)]
    congr 1; rw [Nat.add_sub_cancel_left]
/-- The first n of a slice. -/
theorem rd_take {n : Nat} (h : Rd e enc s v l) (he : ∀ x, (enc x).length = e) (hn : n ≤ l.length) : ∃ v', (∀ k : IntKind, slcA e v none (some (.int k (n : Int))) none = some v') ∧ Rd e enc s v' (l.take n) := by
  have h1 := h.len
  have h2 := h.cells
  have h3 := h.under
  cases v with
  | nils =>
    simp [lenlA] at h1
    have : l = [] := List.length_eq_zero_iff.1 (by omega)
    subst this
    simp at hn
    subst hn
    exact ⟨.nils, fun k => by simp [slcA, boundA], by simpa using h⟩
  | sl b o es m c =>
    simp [lenlA] at h1
    have hm : m = l.length := by omega
    subst hm
    simp only [cellsA] at h2
    split at h2 <;> try (simp at h2; done)
    rename_i cs hcs
    split at h2 <;> simp at h2
    rename_i hc
    obtain ⟨rfl, hc⟩ := hc
    refine ⟨.sl b o es n c, fun k => ?_, by simp [lenlA]; omega, ?_, h3⟩
    · have h0 : (0 : Int) ≤ (n : Int) ∧ (n : Int) ≤ (l.length : Int) := by omega
      simp [slcA, boundA, h0.2]
    · have hmul : n * es ≤ l.length * es := Nat.mul_le_mul_right _ hn
      simp only [cellsA, hcs, true_and]
      rw [if_pos (by omega), flat_first he, ← h2, List.take_take, Nat.min_eq_left hmul]
  | _ => simp [lenlA] at h1
end
theorem mks_0 {s : St} {e by_ : Nat} {z : List AV} {k : IntKind} {n : Nat} (hb : n * (by_ + 1) ≤ 35184372088832) : mksA s e by_ z (.int .i64 0) (.int k (n : Int)) = some (.sl s.length 0 e 0 none, s ++ [.cells true (List.replicate n z).flatten]) := by
  simp only [mksA]
  rw [if_pos (by have : ((n * (by_ + 1) : Nat) : Int) ≤ 35184372088832 := by omega
                 simp only [Int.natCast_mul, Int.natCast_add] at this
                 exact ⟨by omega, by omega, this⟩)]
  simp

theorem nilS : Snd 340282366920938463463374607431768211456 0 ([] : List (Nat × Nat)) := trivial
theorem ext_get {s t : St} (h : ∀ i, i < s.length → t[i]? = s[i]?) : Ext s t := by
  refine ⟨t.drop s.length, ?_⟩
  have : t.take s.length = s := by
    apply List.ext_getElem?
    intro i
    rw [List.getElem?_take]
    split
    · rename_i hi; exact h i hi
    · rename_i hi; rw [List.getElem?_eq_none (by omega)]
  conv => lhs; rw [← List.take_append_drop s.length t, this]
section
variable {α : Type} {e n : Nat} {enc : α → List AV} {s t : St} {v : AV} {l : List α}
theorem Rd.keep {t' : St} (h : Rd e enc t v l) (hk : ∀ i o e' k c, v = .sl i o e' k c → t'[i]? = t[i]?) (hl : t.length ≤ t'.length) : Rd e enc t' v l := by
  refine ⟨h.len, ?_, under_mono hl v h.under⟩
  have h2 := h.cells
  cases v with
  | sl b o es m c =>
    simp only [cellsA, rdB] at h2 ⊢
    rw [hk b o es m c rfl]; exact h2
  | nils => exact h2
  | _ => simp [cellsA] at h2
theorem Rd.lt (h : Rd e enc t v l) {i o e' k : Nat} {c : Option Nat} (hv : v = .sl i o e' k c) : i < t.length := by
  subst hv
  have := h.under
  simpa [AV.under] using this
theorem Own.ge (h : Own n e enc t v l) {i o e' k : Nat} {c : Option Nat} (hv : v = .sl i o e' k c) : n ≤ i := by
  rcases h with ⟨rfl, _⟩ | ⟨b, c2, cs, h1, _, rfl, _⟩
  · cases hv
  · cases hv; exact h1
/-- An element of an own slice is written. -/
theorem own_at {l : List (Nat × Nat)} (h : Own n 4 cR t v l) {i : Nat} (hi : i < l.length) (q : Nat × Nat) : ∃ b x, n ≤ b ∧ (∃ o e' k c, v = .sl b o e' k c) ∧ (∀ k : IntKind, ixaA 4 v (.int k (i : Int)) = some (.ptr b (i * 4))) ∧
    stA t (some 4) (.ptr b (i * 4)) (aR q) = some (t.set b x) ∧ Own n 4 cR (t.set b x) v (l.set i q) := by
  rcases h with ⟨_, h⟩ | ⟨b, c, cs, h3, h4, rfl, h5, h6⟩
  · rw [h] at hi; simp at hi
  · have hb := (List.getElem?_eq_some_iff.1 h5).1
    refine ⟨b, .cells true ((l.set i q).flatMap cR ++ cs), h3, ⟨_, _, _, _, rfl⟩, fun k => by rw [ixa_nat hi, Nat.zero_add], ?_, .inr ⟨b, c, cs, h3, by simpa using h4, by simp, key_set hb, h6⟩⟩
    rw [st_in0 h5 (cR_len q) (cR_cell q) (by rw [List.length_append, flat_len cR_len]; omega), set_flat cR_len q cs l i hi]
end


end Go.Ev
