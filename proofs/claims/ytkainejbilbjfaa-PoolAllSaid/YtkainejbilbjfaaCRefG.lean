import Derived.Test.YtkainejbilbjfaaCRefF
/-! The reference's made. -/
namespace Go.Ev
set_option linter.unusedVariables false
set_option linter.unusedSimpArgs false
open Go.Ev.Sp

theorem dr_appX {X : Oracle} {n0 : Nat} {bs : List Blk} {i : Nat} {H : List (Nat × St × St)} {L : List (Nat × Nat)} {e : Env} {s : St} {next : DrK} {d : Option Nat} {g : Option (Nat × Bool)} {es by_ : Nat} {x y : RX} {cl fr : List Nat} :
    drStep X n0 bs ⟨⟨d, g, .app es by_ x y⟩, .eff, cl, fr⟩ i H L e s next = ob (appA s es by_ (x.ev e) (y.ev e)) fun r => frOk n0 fr s r.2 ∧ clOk cl L s r.2 ∧ next ((i, s, r.2) :: H) L (putO e d r.1) r.2 := by
  apply propext
  simp only [drStep, opA, ob]
  constructor
  · rintro ⟨v, s', ⟨s1, h1, rfl, rfl⟩, h2, h3, h4⟩; exact ⟨s1, h1, h2, h3, h4⟩
  · rintro ⟨s1, h1, h2, h3, h4⟩; exact ⟨s1.1, s1.2, ⟨s1, h1, rfl, rfl⟩, h2, h3, h4⟩

def two (l : List (Nat × Nat)) : List Nat := l.flatMap fun r => [r.1, r.2]
theorem flat2 : ∀ l : List (Nat × Nat), l.flatMap cR = (two l).flatMap cA
  | [] => rfl
  | r :: l => by simp only [List.flatMap_cons, two]; rw [flat2 l]; simp [cR, cA, two]
theorem two_len : ∀ l : List (Nat × Nat), (two l).length = 2 * l.length
  | [] => rfl
  | r :: l => by
    have := two_len l
    simp only [two, List.flatMap_cons, List.length_append, List.length_cons, List.length_nil] at this ⊢
    omega
theorem set_last (o : List (Nat × Nat)) (q : Nat × Nat) (z : Nat) (cs : List AV) : setL ((o ++ [q]).flatMap cR ++ cs) (o.length * 4 + 2) (cA z) = (o ++ [(q.1, z)]).flatMap cR ++ cs := by
  have hl := two_len (o ++ [q])
  have e1 : (two (o ++ [q])).set (2 * o.length + 1) z = two (o ++ [(q.1, z)]) := by
    have h0 := two_len o
    simp only [two, List.flatMap_append, List.flatMap_cons, List.flatMap_nil, List.append_nil] at h0 ⊢
    rw [List.set_append_right _ _ (by omega), h0, show 2 * o.length + 1 - 2 * o.length = 1 by omega]
    rfl
  have := set_flat cA_len z cs (two (o ++ [q])) (2 * o.length + 1) (by rw [hl]; simp; omega)
  rw [← flat2, e1, ← flat2, show (2 * o.length + 1) * 2 = o.length * 4 + 2 by omega] at this
  exact this

/-- An own slice's last element. -/
theorem own_last {n : Nat} {t : St} {vo : AV} {o : List (Nat × Nat)} {q : Nat × Nat} (h : Own n 4 cR t vo (o ++ [q])) :
    ∃ b, n ≤ b ∧ (∀ k : IntKind, ixaA 4 vo (.int k (o.length : Int)) = some (.ptr b (o.length * 4))) ∧ (∀ l, ldA (t ++ l) (some 2) (.ptr b (o.length * 4 + 2)) = some (aA q.2)) ∧
      ∀ z : Nat, ∃ x : Blk, (∀ l, stA (t ++ l) (some 2) (.ptr b (o.length * 4 + 2)) (aA z) = some (t.set b x ++ l)) ∧ Own n 4 cR (t.set b x) vo (o ++ [(q.1, z)]) := by
  have hr := h.rd cR_len
  obtain ⟨b2, o2, h1, h2⟩ := hr.get cR_len (i := o.length) (x := q) (by simp)
  rcases h with ⟨_, h⟩ | ⟨b, c, cs, h3, h4, rfl, h5, h6⟩
  · simp at h
  · have hb := (List.getElem?_eq_some_iff.1 h5).1
    have hix : ∀ k : IntKind, ixaA 4 (.sl b 0 4 (o ++ [q]).length c) (.int k (o.length : Int)) = some (.ptr b (o.length * 4)) := fun k => by rw [ixa_nat (by simp), Nat.zero_add]
    have hbo := (h1 .i64).symm.trans (hix .i64)
    simp only [Option.some.injEq, AV.ptr.injEq] at hbo
    rw [hbo.1, hbo.2] at h2
    refine ⟨b, h3, hix, ldA_ext (h2 (some 2) 2 (aA q.2) rfl), fun z => ⟨.cells true ((o ++ [(q.1, z)]).flatMap cR ++ cs), fun l => ?_, ?_⟩⟩
    · rw [st_in h5 (cA_len z) (cA_cell z) (by rw [List.length_append, flat_len cR_len]; simp; omega), set_last]
    · exact .inr ⟨b, c, cs, h3, by simpa using h4, by simp, key_set hb, h6⟩

def RC.inn : RC → RC
  | .block _ c => c
  | .loop c => c
  | c => c
/-- What a round of made leaves. -/
def stepP (cur : Option (Nat × Nat)) (q z : Nat) (o o' : List (Nat × Nat)) (c' : Nat × Nat) : Prop := match cur with
  | none => o' = o ∧ c' = (q, z)
  | some p => if p.2 + 1 < 340282366920938463463374607431768211456 ∧ p.2 + 1 = q then o' = o ∧ c' = (p.1, z) else o' = o ++ [p] ∧ c' = (q, z)
def MadeK (n : Nat) (base : St) (e : Env) (q z : Nat) (o : List (Nat × Nat)) (cur : Option (Nat × Nat)) (Q : XE → Env → St → Prop) : Prop :=
  ∀ e' t' o' c', e'.get 0 = e.get 0 → e'.get 1 = e.get 1 → e'.get 6 = e.get 6 → e'.get 8 = e.get 8 → Own n 4 cR t' (e'.get 7) (o' ++ [c']) → Ext base t' → stepP cur q z o o' c' → Q .nrm e' t' ∧ Q (.exit 1) e' t'
def madeC : RC := r_r03_made.body.snd.snd.snd.snd.snd.snd.fst.snd.inn.inn.snd.fst.inn.snd.snd
theorem stepP_len {cur : Option (Nat × Nat)} {q z : Nat} {o o' : List (Nat × Nat)} {c' : Nat × Nat} (h : stepP cur q z o o' c') : o'.length ≤ o.length + cur.toList.length := by
  unfold stepP at h
  split at h
  · rw [h.1]; simp
  · split at h <;> rw [h.1] <;> simp
theorem stepP_snd {cur : Option (Nat × Nat)} {q z : Nat} {o o' : List (Nat × Nat)} {c' : Nat × Nat} (h : stepP cur q z o o' c') : c'.2 = z := by
  unfold stepP at h
  split at h
  · rw [h.2]
  · split at h <;> rw [h.2]
theorem stepP_go {P : Nat → Bool} {cur : Option (Nat × Nat)} {q : Nat} {es : List Nat} {o o' : List (Nat × Nat)} {c' : Nat × Nat} (h : stepP cur q (nxt 340282366920938463463374607431768211456 es) o o' c') (hp : P q = true) : o ++ go 340282366920938463463374607431768211456 P cur (q :: es) = o' ++ go 340282366920938463463374607431768211456 P (some c') es := by
  unfold stepP at h
  split at h
  · rw [h.1, h.2, go_none, if_pos hp]
  · next p =>
    obtain ⟨a, b⟩ := p
    rw [go_some, if_pos hp]
    split at h
    · next hc => rw [h.1, h.2, if_pos hc]
    · next hc => rw [h.1, h.2, if_neg hc]; simp

set_option maxHeartbeats 4000000 in
theorem made_app {n : Nat} {base t : St} {vo v3 : AV} {o : List (Nat × Nat)} {cur : Option (Nat × Nat)} {q z i c2 o2 : Nat} {e : Env} {Q : XE → Env → St → Prop} (e0 : Env) (r : St) (hol : o.length + cur.toList.length < 1000000000000)
    (ho : Own n 4 cR t vo (o ++ cur.toList)) (hn : n ≤ t.length) (hx : Ext base t) (hb : base.length ≤ n) (g6 : e.get 6 = v3) (g7 : e.get 7 = vo) (g8 : e.get 8 = .int .i64 i) (g9 : e.get 9 = .ptr t.length 0)
    (h1 : ∀ k : IntKind, ixaA 2 v3 (.int k (i : Int)) = some (.ptr c2 o2)) (h2 : ∀ l, ldA (t ++ l) (some 2) (.ptr c2 o2) = some (aA q)) (h3 : (t ++ r)[t.length]? = some (.cells true (cA z)))
    (e0' : e0.get 0 = e.get 0) (e1' : e0.get 1 = e.get 1) (e6' : e0.get 6 = e.get 6) (e8' : e0.get 8 = e.get 8)
    (hs : stepP cur q z o (o ++ cur.toList) (q, z))
    (hK : MadeK n base e0 q z o cur Q) : awp (Run T) madeC.snd.snd.snd Q e (t ++ r) := by
  obtain ⟨v', t', a1, a2, a3, _⟩ := app_R (q, z) r ho hn hx hb (by simp; simpa using hol)
  have h4 := (blkA h3).2
  have h4' := fun l => by have := h4 l; rw [List.append_assoc] at this; exact this
  simp only [madeC, r_r03_made, RC.fst, RC.snd, RC.inn, XX, CC, Nat.reduceAdd, Nat.reduceSub, Nat.reduceLeDiff, Nat.reduceLT, Nat.reduceEqDiff, reduceIte, ↓reduceIte, Nat.reduceBEq]
  refine drw_in [.cells true (cR (q, z))] rfl ?_
  simp only [DD, CC, Nat.reduceAdd, Nat.reduceSub, Nat.reduceLeDiff, Nat.reduceLT, Nat.reduceEqDiff, reduceIte, ↓reduceIte, Nat.reduceBEq, g6, g7, g8, g9, h1, List.append_assoc, h2, h4', List.length_append, dr_appX, a1]
  refine (hK _ t' (o ++ cur.toList) (q, z) ?_ ?_ ?_ ?_ ?_ a3 hs).1 <;> simp only [XX, CC, Nat.reduceAdd, Nat.reduceSub, Nat.reduceLeDiff, Nat.reduceLT, Nat.reduceEqDiff, reduceIte, ↓reduceIte, Nat.reduceBEq, e0', e1', e6', e8', g6, g8]
  rw [← List.append_assoc]; exact a2

set_option maxHeartbeats 4000000 in
theorem made_k {n : Nat} {base t : St} {vo v3 : AV} {o : List (Nat × Nat)} {cur : Option (Nat × Nat)} {q z i c2 o2 : Nat} {e : Env} {Q : XE → Env → St → Prop} (hol : o.length + cur.toList.length < 1000000000000)
    (ho : Own n 4 cR t vo (o ++ cur.toList)) (hn : n ≤ t.length) (hx : Ext base t) (hb : base.length ≤ n) (g6 : e.get 6 = v3) (g7 : e.get 7 = vo) (g8 : e.get 8 = .int .i64 i) (g9 : e.get 9 = .ptr t.length 0)
    (hcn : cur = none → o = []) (hcq : ∀ p, cur = some p → p.2 < 340282366920938463463374607431768211456)
    (h1 : ∀ k : IntKind, ixaA 2 v3 (.int k (i : Int)) = some (.ptr c2 o2)) (h2 : ∀ l, ldA (t ++ l) (some 2) (.ptr c2 o2) = some (aA q))
    (hK : MadeK n base e q z o cur Q) : awp (Run T) (.seq madeC.snd.fst (.seq madeC.snd.snd.fst madeC.snd.snd.snd)) Q e (t ++ [.cells true (cA z)]) := by
  obtain ⟨TAIL, hT⟩ : ∃ c, c = madeC.snd.snd.snd := ⟨_, rfl⟩
  have happ := fun e' r a b c d f g h k l m => made_app (n := n) (base := base) (t := t) (vo := vo) (v3 := v3) (o := o) (cur := cur) (q := q) (z := z) (i := i) (e := e') (c2 := c2) (o2 := o2) (Q := Q) e r hol ho hn hx hb a b c d h1 h2 f g h k l m hK
  rw [← hT] at happ ⊢
  rcases cur with _ | ⟨a, b⟩
  · have h0 := hcn rfl
    subst h0
    have hl := (ho.rd cR_len).len
    simp only [madeC, r_r03_made, RC.fst, RC.snd, RC.inn, XX, CC, Nat.reduceAdd, Nat.reduceSub, Nat.reduceLeDiff, Nat.reduceLT, Nat.reduceEqDiff, reduceIte, ↓reduceIte, Nat.reduceBEq, g7, hl, List.append_nil, List.length_nil, Option.toList_none, show IntKind.i64.wrap (((0 : Nat) : Int) - 1) = -1 by decide, dec_f (show ¬ (-1 : Int) ≥ 0 by decide)]
    refine happ _ _ ?_ ?_ ?_ ?_ get_last ?_ ?_ ?_ ?_ ⟨rfl, rfl⟩ <;> simp only [XX, CC, Nat.reduceAdd, Nat.reduceSub, Nat.reduceLeDiff, Nat.reduceLT, Nat.reduceEqDiff, reduceIte, ↓reduceIte, Nat.reduceBEq, g6, g7, g8, g9]
  · have hbw := hcq _ rfl
    have hr := ho.rd cR_len
    have hl := hr.len
    obtain ⟨bb, b1, b2, b3, b4⟩ := own_last ho
    by_cases hov : 340282366920938463463374607431768211456 ≤ b + 1
    · simp only [madeC, r_r03_made, RC.fst, RC.snd, RC.inn, XX, CC, Nat.reduceAdd, Nat.reduceSub, Nat.reduceLeDiff, Nat.reduceLT, Nat.reduceEqDiff, reduceIte, ↓reduceIte, Nat.reduceBEq, g7, hl, Option.toList_some, List.length_append, List.length_singleton, w64_pred (show o.length < 4611686018427387904 by omega), dec_t (show (o.length : Int) ≥ 0 by omega), b2, b3]
      refine (next_r _ b hbw).use ?_
      simp only [XX, CC, Nat.reduceAdd, Nat.reduceSub, Nat.reduceLeDiff, Nat.reduceLT, Nat.reduceEqDiff, reduceIte, ↓reduceIte, Nat.reduceBEq, set_AA, ovr_t hov, Bool.not_true]
      refine drw_in [] rfl ?_
      simp only [List.append_nil, DD, CC, Nat.reduceAdd, Nat.reduceSub, Nat.reduceLeDiff, Nat.reduceLT, Nat.reduceEqDiff, reduceIte, ↓reduceIte, Nat.reduceBEq]
      refine happ _ [_, _] ?_ ?_ ?_ ?_ (by simp) ?_ ?_ ?_ ?_ ?_ <;> (try simp only [XX, CC, Nat.reduceAdd, Nat.reduceSub, Nat.reduceLeDiff, Nat.reduceLT, Nat.reduceEqDiff, reduceIte, ↓reduceIte, Nat.reduceBEq, g6, g7, g8, g9])
      exact (if_neg (by omega)).mpr ⟨rfl, rfl⟩
    have hm : (b + 1) % 340282366920938463463374607431768211456 = b + 1 := Nat.mod_eq_of_lt (by omega)
    by_cases hc : b + 1 = q
    · obtain ⟨x, b5, b6⟩ := b4 z
      have h4 := fun y => ldA_ext (blkA (t := t ++ [.cells true (cA z)]) get_last).1 [y]
      simp only [List.append_assoc, List.cons_append, List.nil_append] at h4
      simp only [madeC, r_r03_made, RC.fst, RC.snd, RC.inn, XX, CC, Nat.reduceAdd, Nat.reduceSub, Nat.reduceLeDiff, Nat.reduceLT, Nat.reduceEqDiff, reduceIte, ↓reduceIte, Nat.reduceBEq, g7, hl, Option.toList_some, List.length_append, List.length_singleton, w64_pred (show o.length < 4611686018427387904 by omega), dec_t (show (o.length : Int) ≥ 0 by omega), b2, b3]
      refine (next_r _ b hbw).use ?_
      simp only [XX, CC, Nat.reduceAdd, Nat.reduceSub, Nat.reduceLeDiff, Nat.reduceLT, Nat.reduceEqDiff, reduceIte, ↓reduceIte, Nat.reduceBEq, set_AA, ovr_f hov, Bool.not_false]
      refine drw_in [] rfl ?_
      simp only [List.append_nil, DD, CC, Nat.reduceAdd, Nat.reduceSub, Nat.reduceLeDiff, Nat.reduceLT, Nat.reduceEqDiff, reduceIte, ↓reduceIte, Nat.reduceBEq, g6, g7, g8, g9, h1, h2, h4, b2, b5, eq_A, hm, dec_t hc]
      refine (hK _ _ o (a, z) ?_ ?_ ?_ ?_ ?_ (hx.trans_set (by omega) _ _) ((if_pos ⟨by omega, hc⟩).mpr ⟨rfl, rfl⟩)).2 <;> (try simp only [XX, CC, Nat.reduceAdd, Nat.reduceSub, Nat.reduceLeDiff, Nat.reduceLT, Nat.reduceEqDiff, reduceIte, ↓reduceIte, Nat.reduceBEq, g6, g7, g8, g9])
      exact b6.app _
    · simp only [madeC, r_r03_made, RC.fst, RC.snd, RC.inn, XX, CC, Nat.reduceAdd, Nat.reduceSub, Nat.reduceLeDiff, Nat.reduceLT, Nat.reduceEqDiff, reduceIte, ↓reduceIte, Nat.reduceBEq, g7, hl, Option.toList_some, List.length_append, List.length_singleton, w64_pred (show o.length < 4611686018427387904 by omega), dec_t (show (o.length : Int) ≥ 0 by omega), b2, b3]
      refine (next_r _ b hbw).use ?_
      simp only [XX, CC, Nat.reduceAdd, Nat.reduceSub, Nat.reduceLeDiff, Nat.reduceLT, Nat.reduceEqDiff, reduceIte, ↓reduceIte, Nat.reduceBEq, set_AA, ovr_f hov, Bool.not_false]
      refine drw_in [] rfl ?_
      simp only [List.append_nil, DD, CC, Nat.reduceAdd, Nat.reduceSub, Nat.reduceLeDiff, Nat.reduceLT, Nat.reduceEqDiff, reduceIte, ↓reduceIte, Nat.reduceBEq, g6, g7, g8, g9, h1, h2, eq_A, hm, dec_f hc]
      refine happ _ [_, _] ?_ ?_ ?_ ?_ (by simp) ?_ ?_ ?_ ?_ ?_ <;> (try simp only [XX, CC, Nat.reduceAdd, Nat.reduceSub, Nat.reduceLeDiff, Nat.reduceLT, Nat.reduceEqDiff, reduceIte, ↓reduceIte, Nat.reduceBEq, g6, g7, g8, g9])
      exact (if_neg (by omega)).mpr ⟨rfl, rfl⟩

set_option maxHeartbeats 4000000 in
/-- The last of a segment, then what made does with it. -/
theorem made_c {n : Nat} {base t : St} {vo v3 : AV} {o : List (Nat × Nat)} {cur : Option (Nat × Nat)} {q z i c2 o2 : Nat} {e : Env} {E : List Nat} {Q : XE → Env → St → Prop} (hol : o.length + cur.toList.length < 1000000000000)
    (ho : Own n 4 cR t vo (o ++ cur.toList)) (hn : n ≤ t.length) (hx : Ext base t) (hb : base.length ≤ n) (g6 : e.get 6 = v3) (g7 : e.get 7 = vo) (g8 : e.get 8 = .int .i64 i) (g9 : e.get 9 = .ptr t.length 0)
    (hcn : cur = none → o = []) (hcq : ∀ p, cur = some p → p.2 < 340282366920938463463374607431768211456) (hi : i < 4611686018427387904)
    (h1 : ∀ k : IntKind, ixaA 2 v3 (.int k (i : Int)) = some (.ptr c2 o2)) (h2 : ∀ l, ldA (t ++ l) (some 2) (.ptr c2 o2) = some (aA q))
    (hE : Rd 2 cA t v3 E) (hlt : ∀ x ∈ E, x < 340282366920938463463374607431768211456) (hasc : Asc (q + 1) (E.drop (i + 1))) (hz : z = nxt 340282366920938463463374607431768211456 (E.drop (i + 1)))
    (hK : MadeK n base e q z o cur Q) : awp (Run T) madeC Q e (t ++ [.cells true (cA (340282366920938463463374607431768211456 - 1))]) := by
  obtain ⟨TAIL, hT⟩ : ∃ c, c = RC.seq madeC.snd.fst (.seq madeC.snd.snd.fst madeC.snd.snd.snd) := ⟨_, rfl⟩
  have hC : madeC = .seq madeC.fst TAIL := by rw [hT]; rfl
  have hk := fun e' a b c d f g h k => made_k (n := n) (base := base) (t := t) (vo := vo) (v3 := v3) (o := o) (cur := cur) (q := q) (z := z) (i := i) (e := e') (c2 := c2) (o2 := o2) (Q := Q) hol ho hn hx hb a b c d hcn hcq h1 h2
    (fun e'' t' o' c' h0 h1 h6 h8 => hK e'' t' o' c' (h0.trans f) (h1.trans g) (h6.trans h) (h8.trans k))
  rw [← hT] at hk
  rw [hC]
  have hEl := hE.len
  by_cases h' : i + 1 < E.length
  · obtain ⟨q2, hq2, hd2⟩ := drop_get h'
    obtain ⟨c3, o3, h3, h4, h5⟩ := rdA hE hq2
    rw [hd2] at hasc hz
    have hq2w := hlt q2 (List.mem_of_getElem? hq2)
    have hm : (q2 + 340282366920938463463374607431768211456 - 1) % 340282366920938463463374607431768211456 = z := by have := hasc.1; rw [hz]; show _ = q2 - 1; omega
    simp only [madeC, r_r03_made, RC.fst, RC.snd, RC.inn, XX, CC, Nat.reduceAdd, Nat.reduceSub, Nat.reduceLeDiff, Nat.reduceLT, Nat.reduceEqDiff, reduceIte, ↓reduceIte, Nat.reduceBEq, g6, g8, hEl, w64_nat hi, dec_t (show ((i + 1 : Nat) : Int) < E.length by omega), h3, h5]
    refine (ahead_r _ q2 hq2w).use ?_
    simp only [XX, CC, Nat.reduceAdd, Nat.reduceSub, Nat.reduceLeDiff, Nat.reduceLT, Nat.reduceEqDiff, reduceIte, ↓reduceIte, Nat.reduceBEq, g9, set_AA, hm]
    refine hk _ ?_ ?_ ?_ ?_ ?_ ?_ ?_ ?_ <;> simp only [XX, CC, Nat.reduceAdd, Nat.reduceSub, Nat.reduceLeDiff, Nat.reduceLT, Nat.reduceEqDiff, reduceIte, ↓reduceIte, Nat.reduceBEq, g6, g7, g8, g9]
  · rw [List.drop_of_length_le (by omega)] at hz
    have hz' : z = 340282366920938463463374607431768211456 - 1 := hz
    rw [hz'] at hk
    simp only [madeC, r_r03_made, RC.fst, RC.snd, RC.inn, XX, CC, Nat.reduceAdd, Nat.reduceSub, Nat.reduceLeDiff, Nat.reduceLT, Nat.reduceEqDiff, reduceIte, ↓reduceIte, Nat.reduceBEq, g6, g8, hEl, w64_nat hi, dec_f (show ¬ ((i + 1 : Nat) : Int) < E.length by omega)]
    refine hk _ ?_ ?_ ?_ ?_ ?_ ?_ ?_ ?_ <;> simp only [XX, CC, Nat.reduceAdd, Nat.reduceSub, Nat.reduceLeDiff, Nat.reduceLT, Nat.reduceEqDiff, reduceIte, ↓reduceIte, Nat.reduceBEq, g6, g7, g8, g9]

def madeB (TAIL : RC) : RC :=
  let b := r_r03_made.body
  let w := b.snd.snd.snd.snd.snd.snd
  let l := w.fst.snd.inn.inn
  .seq b.fst (.seq b.snd.fst (.seq b.snd.snd.fst (.seq b.snd.snd.snd.fst (.seq b.snd.snd.snd.snd.fst (.seq b.snd.snd.snd.snd.snd.fst (.seq (.seq w.fst.fst (.block 0 (.loop (.seq l.fst (.seq (.block 1 (.seq l.snd.fst.inn.fst (.seq l.snd.fst.inn.snd.fst TAIL))) l.snd.snd))))) w.snd))))))
set_option maxHeartbeats 8000000 in
/-- tenancyref03.made -/
theorem made_r (s : St) (v w : AV) (yes no : List (Nat × Nat)) (hl : yes.length + no.length < 10000000) (hy : Wf yes) (hn : Wf no) (hv : Rd 4 cR s v yes) (hw : Rd 4 cR s w no) : Run T f_r03_made [v, w] s (Out 4 cR s (madeL 340282366920938463463374607431768211456 yes no)) := by
  have hwf : Wf (yes ++ no) := fun r hr => (List.mem_append.1 hr).elim (hy r) (hn r)
  refine run_body (F := r_r03_made) rfl (by simp [r_r03_made]) ?_
  obtain ⟨v1, t1, a1, a2, a3, a4, a5, a6⟩ := own_app (by_ := 32) (n := s.length) (t := s ++ [.cells true []]) (v := .sl s.length 0 4 0 (some 0)) (l := []) (.inr ⟨s.length, some 0, [], Nat.le_refl _, .inr rfl, rfl, get_last, rfl⟩) (by simp) (hv.ext ⟨_, rfl⟩) cR_len cR_cell (by simp; omega)
  have hx1 := a5 s (Nat.le_refl _) ⟨_, rfl⟩
  obtain ⟨v2, t2, b1, b2, b3, b4, b5, b6⟩ := own_app (by_ := 32) (y := w) a2 hx1.len (hw.ext hx1) cR_len cR_cell (by simp; omega)
  have hx2 := b5 s (Nat.le_refl _) hx1
  simp only [List.nil_append] at b2
  obtain ⟨TAIL, hT⟩ : ∃ c, c = madeC := ⟨_, rfl⟩
  have hb1 : r_r03_made.body = madeB TAIL := by rw [hT]; rfl
  have hc := fun n base t vo v3 o cur q z i c2 o2 e E Q => made_c (n := n) (base := base) (t := t) (vo := vo) (v3 := v3) (o := o) (cur := cur) (q := q) (z := z) (i := i) (c2 := c2) (o2 := o2) (e := e) (E := E) (Q := Q)
  rw [← hT] at hc
  rw [hb1]
  simp only [madeB, r_r03_made, RC.fst, RC.snd, RC.inn, XX, CC, Nat.reduceAdd, Nat.reduceSub, Nat.reduceLeDiff, Nat.reduceLT, Nat.reduceEqDiff, reduceIte, ↓reduceIte, Nat.reduceBEq, a1, b1]
  refine Run.mono _ _ _ _ _ ?_ (edges_r t2 v2 (yes ++ no) (by simp; omega) hwf (b2.rd cR_len))
  intro v3 t3 ho3
  have hx3 := hx2.trans ho3.ext
  have hE := ho3.rd cA_len
  have hElt := edges_lt (M := 340282366920938463463374607431768211456) hwf (by decide)
  have hEl := edgesL_length 340282366920938463463374607431768211456 (yes ++ no) [0]
  have hA : Asc 0 (edgesL 340282366920938463463374607431768211456 (yes ++ no) [0]) := edgesL_asc _ ⟨Nat.le_refl _, trivial⟩
  have hmd : madeL 340282366920938463463374607431768211456 yes no = go 340282366920938463463374607431768211456 (refP yes no) none (edgesL 340282366920938463463374607431768211456 (yes ++ no) [0]) := rfl
  generalize edgesL 340282366920938463463374607431768211456 (yes ++ no) [0] = E at hE hElt hEl hA hmd
  simp only [List.length_append, List.length_singleton] at hEl
  refine awp_loop (fun d e t => Ext t3 t ∧ ∃ (i : Nat) (vo : AV) (o : List (Nat × Nat)) (cur : Option (Nat × Nat)) (lo : Nat), i + d = E.length ∧ e.get 0 = v ∧ e.get 1 = w ∧ e.get 6 = v3 ∧ e.get 7 = vo ∧ e.get 8 = .int .i64 i ∧
    Own t3.length 4 cR t vo (o ++ cur.toList) ∧ (cur = none → o = []) ∧ (∀ q, cur = some q → q.2 < 340282366920938463463374607431768211456) ∧ o.length + cur.toList.length ≤ i ∧ Asc lo (E.drop i) ∧ madeL 340282366920938463463374607431768211456 yes no = o ++ go 340282366920938463463374607431768211456 (refP yes no) cur (E.drop i)) E.length ?_ ?_
  · refine ⟨⟨_, rfl⟩, 0, _, [], none, 0, by omega, ?_, ?_, ?_, ?_, ?_, .inr ⟨t3.length, some 0, [], Nat.le_refl _, .inr rfl, rfl, by simp, rfl⟩, fun _ => rfl, by simp, by simp, hA, hmd⟩ <;> (try simp only [XX, CC, Nat.reduceAdd, Nat.reduceSub, Nat.reduceLeDiff, Nat.reduceLT, Nat.reduceEqDiff, reduceIte, ↓reduceIte, Nat.reduceBEq]) <;> rfl
  rintro d e t ⟨hx, i, vo, o, cur, lo, hi, g0, g1, g6, g7, g8, ho, hcn, hcq, hol, hasc, hd0⟩
  have hxs := hx3.trans hx
  have hEt := hE.ext hx
  simp only [XX, CC, Nat.reduceAdd, Nat.reduceSub, Nat.reduceLeDiff, Nat.reduceLT, Nat.reduceEqDiff, reduceIte, ↓reduceIte, Nat.reduceBEq, g0, g1, g6, g7, g8, hEt.len]
  by_cases h : i < E.length
  · obtain ⟨q, hq, hd⟩ := drop_get h
    obtain ⟨c2, o2, h1, h2, h2'⟩ := rdA hEt hq
    have hqw := hElt q (List.mem_of_getElem? hq)
    rw [hd] at hasc hd0
    have hnx : nxt 340282366920938463463374607431768211456 (E.drop (i + 1)) < 340282366920938463463374607431768211456 := nxt_lt (fun x hx => hElt x (List.mem_of_mem_drop hx)) (by decide)
    have skip : refP yes no q = false → madeL 340282366920938463463374607431768211456 yes no = o ++ go 340282366920938463463374607431768211456 (refP yes no) cur (E.drop (i + 1)) := fun hp => by
      rcases cur with _ | ⟨a, b⟩
      · rw [hd0, go_none, if_neg (by rw [hp]; decide)]
      · rw [hd0, go_some, if_neg (by rw [hp]; decide)]
    have hM : [AV.int .u64 18446744073709551615, AV.int .u64 18446744073709551615] = cA (340282366920938463463374607431768211456 - 1) := rfl
    simp only [dec_t (show (i : Int) < E.length by omega), XX, CC, Nat.reduceAdd, Nat.reduceSub, Nat.reduceLeDiff, Nat.reduceLT, Nat.reduceEqDiff, reduceIte, ↓reduceIte, Nat.reduceBEq, g0, g1, g6, g7, g8, h1, h2]
    refine (in_r _ v yes q hqw (by omega) hy (hv.ext hxs)).use ?_
    cases c1 : inL yes q
    · simp only [XX, CC, Nat.reduceAdd, Nat.reduceSub, Nat.reduceLeDiff, Nat.reduceLT, Nat.reduceEqDiff, reduceIte, ↓reduceIte, Nat.reduceBEq, g0, g1, g6, g7, g8, Bool.not_false]
      refine loop_again ⟨d - 1, by omega, hx, i + 1, vo, o, cur, q + 1, by omega, ?_, ?_, ?_, ?_, ?_, ho, hcn, hcq, by omega, hasc.2, skip (by unfold refP; rw [c1]; rfl)⟩ <;> (try simp only [XX, CC, Nat.reduceAdd, Nat.reduceSub, Nat.reduceLeDiff, Nat.reduceLT, Nat.reduceEqDiff, reduceIte, ↓reduceIte, Nat.reduceBEq, g0, g1, g6, g7, g8])
      rw [w64_nat (by omega)]
    simp only [XX, CC, Nat.reduceAdd, Nat.reduceSub, Nat.reduceLeDiff, Nat.reduceLT, Nat.reduceEqDiff, reduceIte, ↓reduceIte, Nat.reduceBEq, g0, g1, g6, g7, g8, Bool.not_true, h1, h2]
    refine (in_r _ w no q hqw (by omega) hn (hw.ext hxs)).use ?_
    cases c2' : inL no q
    · have hp : refP yes no q = true := by unfold refP; rw [c1, c2']; rfl
      simp only [XX, CC, Nat.reduceAdd, Nat.reduceSub, Nat.reduceLeDiff, Nat.reduceLT, Nat.reduceEqDiff, reduceIte, ↓reduceIte, Nat.reduceBEq, g0, g1, g6, g7, g8, hM]
      refine hc t3.length t3 t vo v3 o cur q _ i c2 o2 _ E _ (by omega) ho hx.len hx (Nat.le_refl _) ?_ ?_ ?_ ?_ hcn hcq (by omega) h1 h2' hEt hElt hasc.2 rfl ?_
      rotate_left 4
      · intro e' t' o' c' k0 k1 k6 k8 hoo hxx hst
        simp only [XX, CC, Nat.reduceAdd, Nat.reduceSub, Nat.reduceLeDiff, Nat.reduceLT, Nat.reduceEqDiff, reduceIte, ↓reduceIte, Nat.reduceBEq, g0, g1, g6, g7, g8] at k0 k1 k6 k8
        have hlen := stepP_len hst
        have hsnd := stepP_snd hst
        have hgo := stepP_go hst hp
        simp only [XX, CC, Nat.reduceAdd, Nat.reduceSub, Nat.reduceLeDiff, Nat.reduceLT, Nat.reduceEqDiff, reduceIte, ↓reduceIte, Nat.reduceBEq, k8]
        have hend : ∀ e'' : Env, e''.get 0 = v → e''.get 1 = w → e''.get 6 = v3 → e''.get 7 = e'.get 7 → e''.get 8 = .int .i64 (i + 1 : Nat) → ∃ d', d' < d ∧ Ext t3 t' ∧ ∃ (i : Nat) (vo : AV) (o : List (Nat × Nat)) (cur : Option (Nat × Nat)) (lo : Nat), i + d' = E.length ∧ e''.get 0 = v ∧ e''.get 1 = w ∧ e''.get 6 = v3 ∧ e''.get 7 = vo ∧ e''.get 8 = .int .i64 i ∧
            Own t3.length 4 cR t' vo (o ++ cur.toList) ∧ (cur = none → o = []) ∧ (∀ q, cur = some q → q.2 < 340282366920938463463374607431768211456) ∧ o.length + cur.toList.length ≤ i ∧ Asc lo (E.drop i) ∧ madeL 340282366920938463463374607431768211456 yes no = o ++ go 340282366920938463463374607431768211456 (refP yes no) cur (E.drop i) := fun e'' j0 j1 j6 j7 j8 =>
          ⟨d - 1, by omega, hxx, i + 1, _, o', some c', q + 1, by omega, j0, j1, j6, j7, j8, hoo, (fun h => nomatch h), fun p hp' => by cases hp'; rw [hsnd]; exact hnx, by simp; omega, hasc.2, hd0.trans hgo⟩
        refine hend _ ?_ ?_ ?_ ?_ ?_ <;> simp only [XX, CC, Nat.reduceAdd, Nat.reduceSub, Nat.reduceLeDiff, Nat.reduceLT, Nat.reduceEqDiff, reduceIte, ↓reduceIte, Nat.reduceBEq, k0, k1, k6, w64_nat (show i < 4611686018427387904 by omega)]
      all_goals simp only [XX, CC, Nat.reduceAdd, Nat.reduceSub, Nat.reduceLeDiff, Nat.reduceLT, Nat.reduceEqDiff, reduceIte, ↓reduceIte, Nat.reduceBEq, g6, g7, g8]
    · simp only [XX, CC, Nat.reduceAdd, Nat.reduceSub, Nat.reduceLeDiff, Nat.reduceLT, Nat.reduceEqDiff, reduceIte, ↓reduceIte, Nat.reduceBEq, g0, g1, g6, g7, g8]
      refine loop_again ⟨d - 1, by omega, hx, i + 1, vo, o, cur, q + 1, by omega, ?_, ?_, ?_, ?_, ?_, ho, hcn, hcq, by omega, hasc.2, skip (by unfold refP; rw [c1, c2']; rfl)⟩ <;> (try simp only [XX, CC, Nat.reduceAdd, Nat.reduceSub, Nat.reduceLeDiff, Nat.reduceLT, Nat.reduceEqDiff, reduceIte, ↓reduceIte, Nat.reduceBEq, g0, g1, g6, g7, g8])
      rw [w64_nat (by omega)]
  · simp only [dec_f (show ¬ (i : Int) < E.length by omega), XX, CC, Nat.reduceAdd, Nat.reduceSub, Nat.reduceLeDiff, Nat.reduceLT, Nat.reduceEqDiff, reduceIte, ↓reduceIte, Nat.reduceBEq, g7]
    rw [List.drop_of_length_le (by omega)] at hd0
    refine ret_own1 ho hx3.len hxs cR_un fun v' s' h => ?_
    rw [hd0]; exact h
end Go.Ev
