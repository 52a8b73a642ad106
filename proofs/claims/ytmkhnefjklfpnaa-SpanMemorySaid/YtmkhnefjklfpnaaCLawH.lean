import Derived.Test.YtmkhnefjklfpnaaCLawG
/-! SpanOrder. -/
namespace Go.Ev
set_option linter.unusedVariables false
set_option linter.unusedSimpArgs false
open Go.Ev.Sp

section
variable {α : Type} {e : Nat} {enc : α → List AV} {s : St} {v : AV} {l : List α}
theorem flat_first (he : ∀ x, (enc x).length = e) : ∀ (l : List α) (n : Nat), (l.take n).flatMap enc = (l.flatMap enc).take (n * e)
  | l, 0 => by simp
  | [], n + 1 => by simp
  | x :: l, n + 1 => by
    rw [List.take_succ_cons, List.flatMap_cons, List.flatMap_cons, flat_first he l n, Nat.succ_mul, Nat.add_comm, ← he x, List.take_append, List.take_of_length_le (Nat.le_add_right _ _)]
    congr 1; rw [Nat.add_sub_cancel_left]
/-- The first n of a slice. -/
theorem rd_take {n : Nat} (h : Rd e enc s v l) (he : ∀ x, (enc x).length = e) (hn : n ≤ l.length) : ∃ v', (∀ k : IntKind, slcA e v none (some (.int k (n : Int))) none = some v') ∧ Rd e enc s v' (l.take n) := by
  have h1 := h.len
  have h2 := h.cells
  have h3 := h.under
  cases v with
  | nils =>
    simp [lenlA] at h1
    have : l = [] := List.length_eq_zero_iff.1 (by omega)
    subst this
    simp at hn
    subst hn
    exact ⟨.nils, fun k => by simp [slcA, boundA], by simpa using h⟩
  | sl b o es m c =>
    simp [lenlA] at h1
    have hm : m = l.length := by omega
    subst hm
    simp only [cellsA] at h2
    split at h2 <;> try (simp at h2; done)
    rename_i cs hcs
    split at h2 <;> simp at h2
    rename_i hc
    obtain ⟨rfl, hc⟩ := hc
    refine ⟨.sl b o es n c, fun k => ?_, by simp [lenlA]; omega, ?_, h3⟩
    · have h0 : (0 : Int) ≤ (n : Int) ∧ (n : Int) ≤ (l.length : Int) := by omega
      simp [slcA, boundA, h0.2]
    · have hmul : n * es ≤ l.length * es := Nat.mul_le_mul_right _ hn
      simp only [cellsA, hcs, true_and]
      rw [if_pos (by omega), flat_first he, ← h2, List.take_take, Nat.min_eq_left hmul]
  | _ => simp [lenlA] at h1
end
theorem mks_0 {s : St} {e by_ : Nat} {z : List AV} {k : IntKind} {n : Nat} (hb : n * (by_ + 1) ≤ 35184372088832) : mksA s e by_ z (.int .i64 0) (.int k (n : Int)) = some (.sl s.length 0 e 0 none, s ++ [.cells true (List.replicate n z).flatten]) := by
  simp only [mksA]
  rw [if_pos (by have : ((n * (by_ + 1) : Nat) : Int) ≤ 35184372088832 := by omega
                 simp only [Int.natCast_mul, Int.natCast_add] at this
                 exact ⟨by omega, by omega, this⟩)]
  simp

theorem nilS : Snd 340282366920938463463374607431768211456 0 ([] : List (Nat × Nat)) := trivial
theorem built_same {A B : List (Nat × Nat)} (hA : Wf A) (hB : Wf B) (h : ∀ x, mem A x ↔ mem B x) : builtL [] A = builtL [] B :=
  Snd.uniq (M := 340282366920938463463374607431768211456) (lo := 0) (lo' := 0) (builtL_snd trivial hA) (builtL_snd trivial hB) fun x => by rw [builtL_mem nilS hA, builtL_mem nilS hB, h x]
theorem mem_rev (A : List (Nat × Nat)) (x : Nat) : mem A.reverse x ↔ mem A x := by simp [mem]

set_option maxHeartbeats 4000000 in
theorem order_tail (s t : St) (v : AV) (l : List (Nat × Nat)) (n : Nat) (e : Env) (hx : Ext s t) (hl : l.length < 4611686018427387904) (hw : Wf l) (hv : Rd 4 cR s v l) (hn : n ≤ 200) (hnl : n ≤ l.length) (g0 : e.get 0 = v) (g3 : e.get 3 = .int .i64 n) :
    awp (Run T) r_w03_SpanOrder.body.snd.snd.snd.snd (endK [.tmp 2] s fun r _ => r = .bool true) e t := by
  have hvt := hv.ext hx
  have wL : Wf (l.take n) := fun r hr => hw r (List.mem_of_mem_take hr)
  have lenL : (l.take n).length = n := by simp; omega
  obtain ⟨v1, hs1, r1⟩ := rd_take hvt cR_len hnl
  have hb := built_r t v1 (l.take n) (by omega) wL r1
  rw [List.take_of_length_le (by omega)] at hb
  have hS : Snd 340282366920938463463374607431768211456 0 (builtL [] (l.take n)) := builtL_snd trivial wL
  have lenS : (builtL [] (l.take n)).length ≤ 200 := by
    have := builtL_len (l.take n) []
    simp at this; omega
  have hrev : builtL [] (l.take n).reverse = builtL [] (l.take n) := built_same (fun r hr => wL r (List.mem_reverse.1 hr)) wL fun x => mem_rev _ x
  have happ : builtL [] (l.take n ++ builtL [] (l.take n)) = builtL [] (l.take n) := built_same (fun r hr => (List.mem_append.1 hr).elim (wL r) (Snd.toWf hS r)) wL fun x => by
    rw [mem_app, builtL_mem nilS wL, mem_nil]
    constructor
    · rintro (h | h | h)
      · exact h
      · exact h.elim
      · exact h
    · exact .inl
  generalize hSL : builtL [] (l.take n) = S at hb hS lenS hrev happ
  have wS := Snd.toWf hS
  simp only [r_w03_SpanOrder, RC.snd, XX, CC, Nat.reduceAdd, Nat.reduceSub, Nat.reduceLeDiff, Nat.reduceLT, Nat.reduceEqDiff, reduceIte, ↓reduceIte, Nat.reduceBEq, g0, g3, hs1]
  refine Run.mono _ _ _ _ _ ?_ hb
  intro vs t1 o1
  have x1 := hx.trans o1.ext
  have hmk := mks_0 (s := t1) (e := 4) (by_ := 32) (z := [AV.int .u64 0, .int .u64 0, .int .u64 0, .int .u64 0]) (k := .i64) (n := n) (by omega)
  simp only [XX, CC, Nat.reduceAdd, Nat.reduceSub, Nat.reduceLeDiff, Nat.reduceLT, Nat.reduceEqDiff, reduceIte, ↓reduceIte, Nat.reduceBEq, g0, g3, hmk]
  refine awp_rounds (fun d e t => Ext t1 t ∧ ∃ (j : Nat) (vo : AV), j = d ∧ j ≤ n ∧ e.get 0 = v ∧ e.get 3 = .int .i64 n ∧ e.get 4 = vs ∧ e.get 5 = vo ∧ e.get 6 = .int .i64 ((j : Int) - 1) ∧ Own t1.length 4 cR t vo ((l.take n).drop j).reverse) n ?_ ?_
  · refine ⟨⟨_, rfl⟩, n, .sl t1.length 0 4 0 none, rfl, Nat.le_refl _, ?_, ?_, ?_, ?_, ?_, ?_⟩ <;> (try simp only [XX, CC, Nat.reduceAdd, Nat.reduceSub, Nat.reduceLeDiff, Nat.reduceLT, Nat.reduceEqDiff, reduceIte, ↓reduceIte, Nat.reduceBEq, g0, g3])
    · congr 1
      rw [w64_in (by omega) (by omega)]
    · rw [List.drop_of_length_le (by omega)]
      refine .inr ⟨t1.length, none, (List.replicate n [AV.int .u64 0, .int .u64 0, .int .u64 0, .int .u64 0]).flatten, Nat.le_refl _, .inl rfl, rfl, by simp, unders_rep rfl _⟩
  rintro J d e t hJ ⟨hxx, j, vo, hj, hjn, g0, g3, g4, g5, g6, ho⟩
  subst hj
  have hvt := hv.ext (x1.trans hxx)
  by_cases h : 0 < j
  · obtain ⟨q, hq, hd⟩ := drop_get (l := l.take n) (i := j - 1) (by omega)
    have hq' : l[j - 1]? = some q := by rw [List.getElem?_take, if_pos (by omega)] at hq; exact hq
    obtain ⟨b2, o2, h3, h4⟩ := rdR hvt hq'
    have hji : ((j : Int) - 1) = ((j - 1 : Nat) : Int) := by omega
    obtain ⟨v', t', e1, e2, e3, e4, _⟩ := app_R q [] ho hxx.len hxx (Nat.le_refl _) (by simp; omega)
    simp only [List.nil_append, List.length_nil, Nat.add_zero] at e1
    rw [hji] at g6
    simp only [XX, CC, Nat.reduceAdd, Nat.reduceSub, Nat.reduceLeDiff, Nat.reduceLT, Nat.reduceEqDiff, reduceIte, ↓reduceIte, Nat.reduceBEq, g0, g3, g4, g5, g6, dec_t (show ((j - 1 : Nat) : Int) ≥ 0 by omega), h3, h4, e1]
    refine hJ (j - 1) _ _ (by omega) ⟨e3, j - 1, v', rfl, by omega, ?_, ?_, ?_, ?_, ?_, ?_⟩ <;> (try simp only [XX, CC, Nat.reduceAdd, Nat.reduceSub, Nat.reduceLeDiff, Nat.reduceLT, Nat.reduceEqDiff, reduceIte, ↓reduceIte, Nat.reduceBEq, g0, g3, g4])
    · congr 1
      rw [w64_in (by omega) (by omega)]
    · rw [hd, List.reverse_cons, show j - 1 + 1 = j by omega]; exact e2
  · have hj0 : j = 0 := by omega
    subst hj0
    rw [List.drop_zero] at ho
    simp only [XX, CC, Nat.reduceAdd, Nat.reduceSub, Nat.reduceLeDiff, Nat.reduceLT, Nat.reduceEqDiff, reduceIte, ↓reduceIte, Nat.reduceBEq, g6, dec_f (show ¬ (((0 : Nat) : Int) - 1) ≥ 0 by omega)]
    obtain ⟨v2, hs2, r2⟩ := rd_take hvt cR_len hnl
    obtain ⟨v3, t3, a1, a2, a3, a4, a5, a6⟩ := own_app (by_ := 32) (n := t.length) (t := t ++ [.cells true []]) (v := .sl t.length 0 4 0 (some 0)) (l := []) (.inr ⟨t.length, some 0, [], Nat.le_refl _, .inr rfl, rfl, get_last, rfl⟩) (by simp) (r2.ext ⟨_, rfl⟩) cR_len cR_cell (by simp; omega)
    have x3 : Ext t t3 := a5 t (Nat.le_refl _) ⟨_, rfl⟩
    obtain ⟨v4, t4, b1, b2, b3, b4, b5, b6⟩ := own_app (by_ := 32) (y := vs) (l2 := S) a2 x3.len (((o1.rd cR_len).ext hxx).ext x3) cR_len cR_cell (by simp; omega)
    have x4 : Ext t t4 := b5 t (Nat.le_refl _) x3
    rw [List.nil_append] at b2
    have l4 := (b2.rd cR_len).len
    have ro := (ho.rd cR_len).ext x4
    have rs := ((o1.rd cR_len).ext hxx).ext x4
    have hb1 := built_r t4 vo (l.take n).reverse (by simp; omega) (fun r hr => wL r (List.mem_reverse.1 hr)) ro
    rw [List.take_of_length_le (by simp; omega), hrev] at hb1
    have r4 := b2.rd cR_len
    have hlen4 : (l.take n ++ S).length = (l.take n).length + S.length := List.length_append
    have hw4 : Wf (l.take n ++ S) := fun r hr => (List.mem_append.1 hr).elim (wL r) (wS r)
    have hsame : ∀ (t : St) (v w : AV), Rd 4 cR t v S → Rd 4 cR t w S → RunD T f_w03_same [v, w] t (.bool true) t := fun t v w hv hw => by
      have := same_r t v w S S (by omega) hv hw
      rwa [dec_t rfl] at this
    by_cases hgt : (l.take n).length + S.length > 200
    · obtain ⟨v7, hs7, r7⟩ := rd_take r4 cR_len (n := n) (by omega)
      rw [List.take_append_of_le_length (by omega), List.take_of_length_le (by omega)] at r7
      have hb2 := fun t (h : Ext t4 t) => built_r t v7 (l.take n) (by omega) wL (r7.ext h)
      rw [List.take_of_length_le (by omega), hSL] at hb2
      simp only [XX, CC, Nat.reduceAdd, Nat.reduceSub, Nat.reduceLeDiff, Nat.reduceLT, Nat.reduceEqDiff, reduceIte, ↓reduceIte, Nat.reduceBEq, g0, g3, g4, g5, hs2, a1, b1, l4, dec_t (show (((l.take n).length + S.length : Nat) : Int) > 200 by omega), hs7]
      refine Run.mono _ _ _ _ _ ?_ hb1
      intro w1 t5 p1
      (try simp only [XX, CC, Nat.reduceAdd, Nat.reduceSub, Nat.reduceLeDiff, Nat.reduceLT, Nat.reduceEqDiff, reduceIte, ↓reduceIte, Nat.reduceBEq])
      refine (hsame _ _ _ (rs.ext p1.ext) (p1.rd cR_len)).use ?_
      (try simp only [XX, CC, Nat.reduceAdd, Nat.reduceSub, Nat.reduceLeDiff, Nat.reduceLT, Nat.reduceEqDiff, reduceIte, ↓reduceIte, Nat.reduceBEq, g4])
      refine Run.mono _ _ _ _ _ ?_ (hb2 _ p1.ext)
      intro w2 t6 p2
      (try simp only [XX, CC, Nat.reduceAdd, Nat.reduceSub, Nat.reduceLeDiff, Nat.reduceLT, Nat.reduceEqDiff, reduceIte, ↓reduceIte, Nat.reduceBEq])
      refine (hsame _ _ _ (rs.ext (p1.ext.trans p2.ext)) (p2.rd cR_len)).use ?_
      (try simp only [XX, CC, Nat.reduceAdd, Nat.reduceSub, Nat.reduceLeDiff, Nat.reduceLT, Nat.reduceEqDiff, reduceIte, ↓reduceIte, Nat.reduceBEq])
      exact ret_drop (k := fun r _ => r = AV.bool true) (x1.trans (hxx.trans (x4.trans (p1.ext.trans p2.ext)))) rfl rfl
    · have hb2 := fun t (h : Ext t4 t) => built_r t v4 (l.take n ++ S) (by omega) hw4 (r4.ext h)
      rw [List.take_of_length_le (by omega), happ] at hb2
      simp only [XX, CC, Nat.reduceAdd, Nat.reduceSub, Nat.reduceLeDiff, Nat.reduceLT, Nat.reduceEqDiff, reduceIte, ↓reduceIte, Nat.reduceBEq, g0, g3, g4, g5, hs2, a1, b1, l4, dec_f (show ¬ (((l.take n).length + S.length : Nat) : Int) > 200 by omega)]
      refine Run.mono _ _ _ _ _ ?_ hb1
      intro w1 t5 p1
      (try simp only [XX, CC, Nat.reduceAdd, Nat.reduceSub, Nat.reduceLeDiff, Nat.reduceLT, Nat.reduceEqDiff, reduceIte, ↓reduceIte, Nat.reduceBEq])
      refine (hsame _ _ _ (rs.ext p1.ext) (p1.rd cR_len)).use ?_
      (try simp only [XX, CC, Nat.reduceAdd, Nat.reduceSub, Nat.reduceLeDiff, Nat.reduceLT, Nat.reduceEqDiff, reduceIte, ↓reduceIte, Nat.reduceBEq, g4])
      refine Run.mono _ _ _ _ _ ?_ (hb2 _ p1.ext)
      intro w2 t6 p2
      (try simp only [XX, CC, Nat.reduceAdd, Nat.reduceSub, Nat.reduceLeDiff, Nat.reduceLT, Nat.reduceEqDiff, reduceIte, ↓reduceIte, Nat.reduceBEq])
      refine (hsame _ _ _ (rs.ext (p1.ext.trans p2.ext)) (p2.rd cR_len)).use ?_
      (try simp only [XX, CC, Nat.reduceAdd, Nat.reduceSub, Nat.reduceLeDiff, Nat.reduceLT, Nat.reduceEqDiff, reduceIte, ↓reduceIte, Nat.reduceBEq])
      exact ret_drop (k := fun r _ => r = AV.bool true) (x1.trans (hxx.trans (x4.trans (p1.ext.trans p2.ext)))) rfl rfl

set_option maxHeartbeats 4000000 in
theorem order_r (s : St) (v : AV) (l : List (Nat × Nat)) (hl : l.length < 4611686018427387904) (hw : Wf l) (hv : Rd 4 cR s v l) :
    Run T f_w03_SpanOrder [v] s (fun r _ => r = .bool true) := by
  refine run_body (F := r_w03_SpanOrder) rfl (by simp [r_w03_SpanOrder]) ?_
  obtain ⟨TAIL, hT⟩ : ∃ c, c = r_w03_SpanOrder.body.snd.snd.snd.snd := ⟨_, rfl⟩
  have hbody : r_w03_SpanOrder.body = .seq r_w03_SpanOrder.body.fst (.seq r_w03_SpanOrder.body.snd.fst (.seq r_w03_SpanOrder.body.snd.snd.fst (.seq r_w03_SpanOrder.body.snd.snd.snd.fst TAIL))) := by rw [hT]; rfl
  have htail := fun n e => order_tail s s v l n e (.refl s) hl hw hv
  rw [← hT] at htail
  rw [hbody]
  by_cases h : l.length > 200
  · simp only [r_w03_SpanOrder, RC.fst, RC.snd, XX, CC, Nat.reduceAdd, Nat.reduceSub, Nat.reduceLeDiff, Nat.reduceLT, Nat.reduceEqDiff, reduceIte, ↓reduceIte, Nat.reduceBEq]
    refine (awake_r _).use ?_
    simp only [XX, CC, Nat.reduceAdd, Nat.reduceSub, Nat.reduceLeDiff, Nat.reduceLT, Nat.reduceEqDiff, reduceIte, ↓reduceIte, Nat.reduceBEq, Bool.not_true, hv.len, dec_t (show (l.length : Int) > 200 by omega)]
    refine htail 200 _ (by omega) (by omega) ?_ ?_ <;> simp only [XX, CC, Nat.reduceAdd, Nat.reduceSub, Nat.reduceLeDiff, Nat.reduceLT, Nat.reduceEqDiff, reduceIte, ↓reduceIte, Nat.reduceBEq]
    rfl
  · simp only [r_w03_SpanOrder, RC.fst, RC.snd, XX, CC, Nat.reduceAdd, Nat.reduceSub, Nat.reduceLeDiff, Nat.reduceLT, Nat.reduceEqDiff, reduceIte, ↓reduceIte, Nat.reduceBEq]
    refine (awake_r _).use ?_
    simp only [XX, CC, Nat.reduceAdd, Nat.reduceSub, Nat.reduceLeDiff, Nat.reduceLT, Nat.reduceEqDiff, reduceIte, ↓reduceIte, Nat.reduceBEq, Bool.not_true, hv.len, dec_f (show ¬ (l.length : Int) > 200 by omega)]
    refine htail l.length _ (by omega) (by omega) ?_ ?_ <;> simp only [XX, CC, Nat.reduceAdd, Nat.reduceSub, Nat.reduceLeDiff, Nat.reduceLT, Nat.reduceEqDiff, reduceIte, ↓reduceIte, Nat.reduceBEq]
end Go.Ev
