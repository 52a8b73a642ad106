import Derived.Test.YtkainejbilbjfaaCRefD
/-! The reference's list of edges: with. -/
namespace Go.Ev
set_option linter.unusedVariables false
set_option linter.unusedSimpArgs false
open Go.Ev.Sp

/-- The end of a function that answers with one block of its own, some blocks of the caller's being used up. -/
theorem ret_used {s s1 : St} {r r0 : AV} {k : AV → St → Prop} {j : Nat} {own : Bool} {cs : List AV} (hlen : s.length ≤ s1.length) (hd : ∀ i b, i < s.length → s1[i]? = some b → s[i]? = some b ∨ b = .dead) (hj : s.length ≤ j) (hs : s1[j]? = some (.cells own cs))
    (hf : r.ren (fun i => if i = s.length then j else i) = r0) (hrb : r.under (s.length + 1) = true) (hb : unders s.length cs = true) (hk : k r (s1.take s.length ++ [.cells own cs])) : Ret s r0 s1 k := by
  have hfj : ∀ i, i < s.length + 1 → keepF s.length [j] s1.length i = if i = s.length then j else i := by
    intro i hi
    unfold keepF
    by_cases h : i < s.length
    · rw [if_pos h, if_neg (by omega)]
    · have : i = s.length := by omega
      subst this; simp
  refine .inr ⟨r, s1.take s.length ++ [.cells own cs], ⟨[j], [.cells own cs], rfl, rfl, by simp, by simpa using hj, hlen, ?_, ?_, ?_⟩, hk⟩
  · intro i b hi h
    rcases hd i b hi h with h | rfl
    · exact .inl h
    · exact .inr rfl
  · rw [← hf]
    exact ren_congr hfj r hrb
  · intro i b x hb' hx'
    cases i with
    | zero =>
      simp at hb' hx'
      subst hb'; subst hx'
      rw [hs]
      simp only [Blk.ren]
      rw [unders_ren (n := s.length) (fun i hi => by unfold keepF; rw [if_pos hi]) cs hb]
    | succ i => simp at hb'

theorem setL_nth {α : Type} : ∀ (vs cs : List α) (o i : Nat), o + vs.length ≤ cs.length → (setL cs o vs)[i]? = if o ≤ i ∧ i < o + vs.length then vs[i - o]? else cs[i]?
  | [], cs, o, i, h => by simp [setL]; intro h1 h2; omega
  | v :: vs, cs, o, i, h => by
    simp only [List.length_cons] at h
    rw [setL, setL_nth vs (cs.set o v) (o + 1) i (by simp; omega)]
    by_cases h1 : o + 1 ≤ i ∧ i < o + 1 + vs.length
    · rw [if_pos h1, if_pos (by simp; omega), show i - o = i - (o + 1) + 1 by omega, List.getElem?_cons_succ]
    · rw [if_neg h1]
      by_cases h2 : i = o
      · subst h2; rw [if_pos (by simp), List.getElem?_set_self (by omega), Nat.sub_self]; rfl
      · rw [if_neg (by simp; omega), List.getElem?_set, if_neg (by omega)]
theorem set_flat {α : Type} {e : Nat} {enc : α → List AV} (he : ∀ x, (enc x).length = e) (z : α) (cs : List AV) : ∀ (L : List α) (i : Nat), i < L.length → setL (L.flatMap enc ++ cs) (i * e) (enc z) = (L.set i z).flatMap enc ++ cs
  | [], i, h => by simp at h
  | x :: L, 0, h => by
    apply List.ext_getElem?
    intro k
    rw [setL_nth _ _ _ _ (by simp [he])]
    simp only [Nat.zero_mul, Nat.zero_le, true_and, Nat.zero_add, Nat.sub_zero, List.set_cons_zero, List.flatMap_cons, List.append_assoc]
    by_cases hk : k < (enc z).length
    · rw [if_pos hk, List.getElem?_append_left hk]
    · rw [if_neg hk, List.getElem?_append_right (l₁ := enc x) (by rw [he] at *; omega), List.getElem?_append_right (l₁ := enc z) (by omega), he, he]
  | x :: L, i + 1, h => by
    have ih := set_flat he z cs L i (by simpa using h)
    have hb : (i + 1) * e ≤ L.length * e := Nat.mul_le_mul_right _ (by simp at h; omega)
    rw [Nat.succ_mul] at hb
    have hfl := flat_len he L
    apply List.ext_getElem?
    intro k
    simp only [List.set_cons_succ, List.flatMap_cons, List.append_assoc]
    rw [setL_nth _ _ _ _ (by simp [he] at hfl ⊢; rw [Nat.succ_mul]; omega)]
    by_cases hk : k < e
    · rw [if_neg (by rw [Nat.succ_mul]; omega), List.getElem?_append_left (by rw [he]; exact hk), List.getElem?_append_left (by rw [he]; exact hk)]
    · rw [List.getElem?_append_right (l₁ := enc x) (by rw [he]; omega), List.getElem?_append_right (l₁ := enc x) (by rw [he]; omega), ← ih, setL_nth _ _ _ _ (by rw [List.length_append, hfl, he]; omega), he, he, Nat.succ_mul]
      by_cases h1 : i * e + e ≤ k ∧ k < i * e + e + e
      · rw [if_pos h1, if_pos (by omega), show k - (i * e + e) = k - e - i * e by omega]
      · rw [if_neg h1, if_neg (by omega)]

theorem insL_skip (a : Nat) : ∀ (l : List Nat) (n : Nat), (∀ x ∈ l.take n, x < a) → insL a l = l.take n ++ insL a (l.drop n)
  | [], n, _ => by simp
  | x :: l, 0, _ => rfl
  | x :: l, n + 1, h => by
    rw [insL, if_pos (h x (by simp)), List.take_succ_cons, List.drop_succ_cons, List.cons_append, ← insL_skip a l n (fun y hy => h y (by simp [hy]))]

theorem at_le (l : List Nat) (i : Nat) (y : Nat) (hi : i ≤ l.length) : (l.take i ++ y :: l.drop i).length = l.length + 1 := by simp; omega
theorem at_set (l : List Nat) (i : Nat) (y z : Nat) (hi : i ≤ l.length) : (l.take i ++ y :: l.drop i).set i z = l.take i ++ z :: l.drop i := by
  rw [List.set_append_right _ _ (by simp; omega)]
  simp [Nat.min_eq_left hi]
theorem at_prev (l : List Nat) (i : Nat) (y z : Nat) (hi : i < l.length) (hz : l[i]? = some z) : l.take (i + 1) ++ y :: l.drop (i + 1) = l.take i ++ z :: y :: l.drop (i + 1) ∧ l.take i ++ z :: z :: l.drop (i + 1) = l.take i ++ z :: l.drop i := by
  have hd : l.drop i = z :: l.drop (i + 1) := by
    rw [List.drop_eq_getElem_cons hi]; rw [List.getElem?_eq_getElem hi] at hz; simp at hz; rw [hz]
  constructor
  · rw [List.take_add_one, hz]; simp
  · rw [hd]

def RC.snd : RC → RC
  | .seq _ b => b
  | c => c
theorem appA_dead {s s' : St} {e by_ : Nat} {x y v' : AV} (h : appA s e by_ x y = some (v', s')) (i : Nat) (hi : i < s.length) : s'[i]? = s[i]? ∨ s'[i]? = some .dead := by
  unfold appA at h
  split at h <;> try (simp at h; done)
  split at h <;> try (simp at h; done)
  split at h
  · split at h <;> simp at h
    · obtain ⟨_, rfl⟩ := h; exact .inl rfl
    · obtain ⟨_, rfl⟩ := h; exact .inl (List.getElem?_append_left hi)
  · split at h
    · simp at h; obtain ⟨_, rfl⟩ := h; exact .inl rfl
    · split at h
      · split at h <;> simp at h
        obtain ⟨_, rfl⟩ := h; exact .inl (List.getElem?_append_left hi)
      · split at h <;> simp at h
        obtain ⟨_, rfl⟩ := h
        rw [List.getElem?_append_left (by simpa using hi), List.getElem?_set]
        split
        · rw [if_pos (by omega)]; exact .inr rfl
        · exact .inl rfl
  · simp at h
def RC.fst : RC → RC
  | .seq a _ => a
  | c => c
/-- What with leaves. -/
def WithK (n0 : Nat) (s : St) (v : AV) (l' : List Nat) : AV → St → Prop := fun r s' => Own n0 2 cA s' r l' ∧ s.length ≤ s'.length ∧ (∀ base : St, base.length ≤ n0 → Ext base s → Ext base s') ∧ ∀ i b, (∀ o e k c, v ≠ .sl i o e k c) → s[i]? = some b → s'[i]? = some b
set_option maxHeartbeats 4000000 in
theorem with3_tail (n0 : Nat) (s : St) (v : AV) (l : List Nat) (a i : Nat) (ha : a < 340282366920938463463374607431768211456) (hl : l.length < 1000000000) (hn0 : n0 ≤ s.length) (ho : Own n0 2 cA s v l) (hi : i ≤ l.length) (hins : insL a l = l.take i ++ a :: l.drop i)
    (e : Env) (g0 : e.get 0 = v) (g3 : e.get 3 = .ptr s.length 0) (g5 : e.get 5 = .int .i64 i) :
    awp (Run T) r_r03_with.body.snd.snd.snd.snd (endK r_r03_with.res s (WithK n0 s v (insL a l))) e (s ++ [.cells true (cA a)]) := by
  obtain ⟨v', t', e1, e2, e3, e4, e5, e6⟩ := own_app (by_ := 16) (y := .sl (s.length + 1) 0 2 1 (some 1)) (l2 := [a]) (ho.app [.cells true (cA a), .cells true (cA a)]) (by simp; omega) (rd_lit (by simp) cA_len rfl) cA_len cA_cell (by simp; omega)
  have hv2 := e2.rd cA_len
  have hvb : ∀ j o e' k c, v = .sl j o e' k c → k = l.length := by
    rintro j o e' k c rfl
    rcases ho with ⟨h, _⟩ | ⟨_, _, _, _, _, h, _⟩
    · simp at h
    · simp at h; omega
  have hvd : ∀ j o e' k c, v = .sl j o e' k c → j < s.length := by
    rintro j o e' k c rfl
    rcases ho with ⟨h, _⟩ | ⟨_, _, _, _, _, h, h', _⟩
    · simp at h
    · simp at h; obtain ⟨rfl, _⟩ := h; exact (List.getElem?_eq_some_iff.1 h').1
  obtain ⟨j, c, cs, hj, hcc, hbj, hcs, rfl⟩ : ∃ j c cs, s.length + 2 ≤ j ∧ (c = none ∨ c = some (l.length + 1)) ∧ t'[j]? = some (.cells true ((l ++ [a]).flatMap cA ++ cs)) ∧ unders 0 cs = true ∧ v' = .sl j 0 2 (l.length + 1) c := by
    rcases e2 with ⟨_, h⟩ | ⟨j, c, cs, h1, h2, h3, h4, h5⟩
    · simp at h
    · refine ⟨j, c, cs, ?_, by simpa using h2, h4, h5, by rw [h3]; simp⟩
      rcases e6 _ _ _ _ _ h3 with h | h
      · have := hvb _ _ _ _ _ h; simp at this
      · simpa using h
  have box0 : t'[s.length]? = some (.cells true (cA a)) := by
    rw [e4 _ (by simp) (fun o e' k c h => by have := hvd _ _ _ _ _ h; omega)]; simp
  have hlt' : s.length + 2 ≤ t'.length := by simpa using e3
  have hjt : j < t'.length := (List.getElem?_eq_some_iff.1 hbj).1
  have ixk : ∀ k : Nat, k ≤ l.length → ixaA 2 (.sl j 0 2 (l.length + 1) c) (.int .i64 (k : Int)) = some (.ptr j (0 + k * 2)) := fun k hk => ixa_nat (by omega)
  simp only [r_r03_with, RC.snd, XX, CC, Nat.reduceAdd, Nat.reduceSub, Nat.reduceLeDiff, Nat.reduceLT, Nat.reduceEqDiff, reduceIte, ↓reduceIte, Nat.reduceBEq, g0, g3, g5, e1, hv2.len]
  rw [show IntKind.i64.wrap (((l.length + 1 : Nat) : Int) - 1) = (l.length : Int) from w64_pred (by omega)]
  refine awp_loop (fun d e t => ∃ (k y : Nat), k = i + d ∧ k ≤ l.length ∧ e.get 0 = .sl j 0 2 (l.length + 1) c ∧ e.get 3 = .ptr s.length 0 ∧ e.get 5 = .int .i64 i ∧ e.get 6 = .int .i64 k ∧
    t.length = t'.length ∧ t[j]? = some (.cells true ((l.take k ++ y :: l.drop k).flatMap cA ++ cs)) ∧ ∀ x, x ≠ j → t[x]? = t'[x]?) (l.length - i) ?_ ?_
  · refine ⟨l.length, a, by omega, Nat.le_refl _, ?_, ?_, ?_, ?_, rfl, by rw [hbj]; simp, fun _ _ => rfl⟩ <;> (try simp only [XX, CC, Nat.reduceAdd, Nat.reduceSub, Nat.reduceLeDiff, Nat.reduceLT, Nat.reduceEqDiff, reduceIte, ↓reduceIte, Nat.reduceBEq, g0, g3, g5])
  · rintro d e t ⟨k, y, hk, hkl, g0, g3, g5, g6, htl, htj, hto⟩
    have hL := at_le l k y hkl
    have hRd : Rd 2 cA t (.sl j 0 2 (l.length + 1) c) (l.take k ++ y :: l.drop k) := rd_pre htj cA_len hL
    have hbox : t[s.length]? = some (.cells true (cA a)) := by rw [hto _ (by omega)]; exact box0
    obtain ⟨z, b2, o2, hz⟩ : ∃ (z b o : Nat), i < k → l[k - 1]? = some z ∧ (∀ kd : IntKind, ixaA 2 (.sl j 0 2 (l.length + 1) c) (.int kd ((k - 1 : Nat) : Int)) = some (.ptr b o)) ∧ ldA t (some 2) (.ptr b o) = some (aA z) := by
      by_cases h : i < k
      · obtain ⟨z, hz, _⟩ := drop_get (l := l) (i := k - 1) (by omega)
        obtain ⟨b2, o2, h1, h2⟩ := rdA hRd (i := k - 1) (q := z) (by rw [List.getElem?_append_left (by simp; omega), List.getElem?_take, if_pos (by omega)]; exact hz)
        exact ⟨z, b2, o2, fun _ => ⟨hz, h1, h2.1⟩⟩
      · exact ⟨0, 0, 0, fun h' => absurd h' h⟩
    have stk : ∀ z : Nat, stA t (some 2) (.ptr j (0 + k * 2)) (aA z) = some (t.set j (.cells true ((l.take k ++ z :: l.drop k).flatMap cA ++ cs))) := by
      intro z
      rw [st_in0 htj (cA_len z) (cA_cell z) (by rw [List.length_append, flat_len cA_len, hL]; omega), Nat.zero_add, set_flat cA_len z cs _ _ (by rw [hL]; omega), at_set l k y z hkl]
    have stk' : ∀ z : Nat, wrA t j (0 + k * 2) (cA z) = some (t.set j (.cells true ((l.take k ++ z :: l.drop k).flatMap cA ++ cs))) := by
      intro z; have := stk z; rw [st_agg (cA_len z)] at this; exact this
    simp only [XX, CC, Nat.reduceAdd, Nat.reduceSub, Nat.reduceLeDiff, Nat.reduceLT, Nat.reduceEqDiff, reduceIte, ↓reduceIte, Nat.reduceBEq, g0, g3, g5, g6]
    by_cases h : i < k
    · have hz1 := (hz h).1
      have hz2 := (hz h).2.1
      have hz3 := (hz h).2.2
      have ixk := ixk k hkl
      have hp := at_prev l (k - 1) z z (by omega) hz1
      rw [show k - 1 + 1 = k by omega] at hp
      rw [Nat.zero_add] at ixk stk'
      simp only [dec_t (show (k : Int) > i by omega), XX, CC, Nat.reduceAdd, Nat.reduceSub, Nat.reduceLeDiff, Nat.reduceLT, Nat.reduceEqDiff, reduceIte, ↓reduceIte, Nat.reduceBEq, g0, g3, g5, g6, w64_sub (show 0 < k by omega) (by omega), hz2, hz3, ixk, stk']
      refine loop_again ⟨d - 1, by omega, k - 1, z, by omega, by omega, ?_, ?_, ?_, ?_, ?_, ?_, ?_⟩ <;> (try simp only [XX, CC, Nat.reduceAdd, Nat.reduceSub, Nat.reduceLeDiff, Nat.reduceLT, Nat.reduceEqDiff, reduceIte, ↓reduceIte, Nat.reduceBEq, g0, g3, g5, g6])
      · simpa using htl
      · rw [key_set (by omega), hp.1, hp.2]
      · intro x hx; rw [set_at (hto x hx) (fun h => hx h.symm)]
    · have hki : k = i := by omega
      subst hki
      have ixk := ixk k hkl
      rw [Nat.zero_add] at ixk stk'
      simp only [dec_f (show ¬ (k : Int) > k by omega), XX, CC, Nat.reduceAdd, Nat.reduceSub, Nat.reduceLeDiff, Nat.reduceLT, Nat.reduceEqDiff, reduceIte, ↓reduceIte, Nat.reduceBEq, g0, g3, g5, g6, blkA hbox, ixk, stk']
      rw [← hins]
      have hsame : ∀ x, x < s.length → (t.set j (.cells true ((insL a l).flatMap cA ++ cs)))[x]? = t'[x]? := fun x hx => by rw [List.getElem?_set, if_neg (by omega)]; exact hto x (by omega)
      have htake : (t.set j (.cells true ((insL a l).flatMap cA ++ cs))).take s.length = t'.take s.length := by
        apply List.ext_getElem?
        intro x
        rw [List.getElem?_take, List.getElem?_take]
        by_cases hx : x < s.length
        · rw [if_pos hx, if_pos hx, hsame x hx]
        · rw [if_neg hx, if_neg hx]
      have hil : (insL a l).length = l.length + 1 := by rw [hins]; exact at_le l k a hkl
      refine ret_used (r := .sl s.length 0 2 (l.length + 1) c) (j := j) (by simp; omega) ?_ (by omega) (key_set (by omega)) (by simp [AV.ren]) (by simp [AV.under]) (by rw [unders_app, unders_flat cA_un, unders_mono (Nat.zero_le _) _ hcs]; rfl) ?_
      · intro x b hx hb
        rw [hsame x hx] at hb
        rcases appA_dead e1 x (by simp; omega) with h | h
        · rw [h, List.getElem?_append_left hx] at hb; exact .inl hb
        · rw [h] at hb; simp at hb; exact .inr hb.symm
      · rw [htake]
        have htl2 : (t'.take s.length).length = s.length := by simp; omega
        refine ⟨.inr ⟨s.length, c, cs, hn0, by rw [hil]; exact hcc, by rw [hil], ?_, hcs⟩, by simp; omega, ?_, ?_⟩
        · rw [List.getElem?_append_right (by omega), htl2, Nat.sub_self]; rfl
        · intro base hb hx
          obtain ⟨r, hr⟩ := e5 base hb (hx.app _)
          have := hx.len
          refine ⟨r.take (s.length - base.length) ++ [.cells true ((insL a l).flatMap cA ++ cs)], ?_⟩
          rw [← List.append_assoc]
          congr 1
          rw [hr, List.take_append, List.take_of_length_le (by omega)]
        · intro x b hvx hb
          have hxs := (List.getElem?_eq_some_iff.1 hb).1
          rw [List.getElem?_append_left (by omega), List.getElem?_take, if_pos hxs, e4 x (by simp; omega) hvx, List.getElem?_append_left hxs]
          exact hb

set_option maxHeartbeats 4000000 in
/-- tenancyref03.with -/
theorem with3_r (n0 : Nat) (s : St) (v : AV) (l : List Nat) (a : Nat) (ha : a < 340282366920938463463374607431768211456) (hl : l.length < 1000000000) (hw : ∀ x ∈ l, x < 340282366920938463463374607431768211456) (hn0 : n0 ≤ s.length) (ho : Own n0 2 cA s v l) :
    Run T f_r03_with [v, aA a] s (WithK n0 s v (insL a l)) := by
  have hv := ho.rd cA_len
  refine run_body (F := r_r03_with) rfl (by simp [r_r03_with]) ?_
  obtain ⟨TAIL, hT⟩ : ∃ c, c = r_r03_with.body.snd.snd.snd.snd := ⟨_, rfl⟩
  have hbody : r_r03_with.body = .seq r_r03_with.body.fst (.seq r_r03_with.body.snd.fst (.seq r_r03_with.body.snd.snd.fst (.seq r_r03_with.body.snd.snd.snd.fst TAIL))) := by rw [hT]; rfl
  have htail := fun i e hi hins g0 g3 g5 => with3_tail n0 s v l a i ha hl hn0 ho hi hins e g0 g3 g5
  rw [← hT] at htail
  obtain ⟨RES, hR⟩ : ∃ c, c = r_r03_with.res := ⟨_, rfl⟩
  rw [← hR] at htail ⊢
  rw [hbody]
  simp only [r_r03_with, RC.fst, RC.snd, XX, CC, Nat.reduceAdd, Nat.reduceSub, Nat.reduceLeDiff, Nat.reduceLT, Nat.reduceEqDiff, reduceIte, ↓reduceIte, Nat.reduceBEq]
  refine awp_loop (fun d e t => t = s ++ [.cells true (cA a)] ∧ ∃ i : Nat, i + d = l.length ∧ e.get 0 = v ∧ e.get 3 = .ptr s.length 0 ∧ e.get 5 = .int .i64 i ∧ ∀ x ∈ l.take i, x < a) l.length ?_ ?_
  · refine ⟨rfl, 0, by omega, ?_, ?_, ?_, by simp⟩ <;> (try simp only [XX, CC, Nat.reduceAdd, Nat.reduceSub, Nat.reduceLeDiff, Nat.reduceLT, Nat.reduceEqDiff, reduceIte, ↓reduceIte, Nat.reduceBEq]) <;> rfl
  rintro d e t ⟨rfl, i, hi, g0, g3, g5, hlt⟩
  have hv1 := hv.ext (t := s ++ [.cells true (cA a)]) ⟨_, rfl⟩
  obtain ⟨q, b2, o2, hqq⟩ : ∃ (q b o : Nat), i < l.length → l[i]? = some q ∧ l.drop i = q :: l.drop (i + 1) ∧ (∀ k : IntKind, ixaA 2 v (.int k (i : Int)) = some (.ptr b o)) ∧ ldA (s ++ [.cells true (cA a)]) (some 2) (.ptr b o) = some (aA q) := by
    by_cases h : i < l.length
    · obtain ⟨q, hq, hd⟩ := drop_get h
      obtain ⟨b2, o2, h1, h2⟩ := rdA hv1 hq
      exact ⟨q, b2, o2, fun _ => ⟨hq, hd, h1, h2.1⟩⟩
    · exact ⟨0, 0, 0, fun h' => absurd h' h⟩
  have hins := insL_skip a l i hlt
  simp only [XX, CC, Nat.reduceAdd, Nat.reduceSub, Nat.reduceLeDiff, Nat.reduceLT, Nat.reduceEqDiff, reduceIte, ↓reduceIte, Nat.reduceBEq]
  refine drw_in [] rfl ?_
  simp only [List.append_nil, DD, CC, Nat.reduceAdd, Nat.reduceSub, Nat.reduceLeDiff, Nat.reduceLT, Nat.reduceEqDiff, reduceIte, ↓reduceIte, Nat.reduceBEq, g0, g3, g5, hv1.len]
  by_cases h : i < l.length
  · have hq := (hqq h).1
    have hd := (hqq h).2.1
    have h1 := (hqq h).2.2.1
    have h2 := (hqq h).2.2.2
    have hqw := hw q (List.mem_of_getElem? hq)
    rw [hd] at hins
    simp only [dec_t (show (i : Int) < l.length by omega), DD, CC, Nat.reduceAdd, Nat.reduceSub, Nat.reduceLeDiff, Nat.reduceLT, Nat.reduceEqDiff, reduceIte, ↓reduceIte, Nat.reduceBEq, g0, g3, g5, h1, h2]
    refine dr_call (rcmp_r _ q a hqw ha) ?_
    simp only [DD, CC, Nat.reduceAdd, Nat.reduceSub, Nat.reduceLeDiff, Nat.reduceLT, Nat.reduceEqDiff, reduceIte, ↓reduceIte, Nat.reduceBEq, cmpN_dlt]
    cases c : decide (q < a)
    · simp only [DD, CC, Nat.reduceAdd, Nat.reduceSub, Nat.reduceLeDiff, Nat.reduceLT, Nat.reduceEqDiff, reduceIte, ↓reduceIte, Nat.reduceBEq, g0, g3, g5]
      simp at c
      refine drw_in [] rfl ?_
      simp only [List.append_nil, DD, CC, Nat.reduceAdd, Nat.reduceSub, Nat.reduceLeDiff, Nat.reduceLT, Nat.reduceEqDiff, reduceIte, ↓reduceIte, Nat.reduceBEq, g0, g3, g5, hv1.len, dec_t (show (i : Int) < l.length by omega), h1, h2, eq_A]
      cases c2 : decide (q = a)
      · simp only [DD, CC, Nat.reduceAdd, Nat.reduceSub, Nat.reduceLeDiff, Nat.reduceLT, Nat.reduceEqDiff, reduceIte, ↓reduceIte, Nat.reduceBEq]
        simp at c2
        refine htail i _ (by omega) (by rw [hins, insL, if_neg (by omega), if_neg c2, ← hd]) ?_ ?_ ?_ <;> simp only [XX, CC, Nat.reduceAdd, Nat.reduceSub, Nat.reduceLeDiff, Nat.reduceLT, Nat.reduceEqDiff, reduceIte, ↓reduceIte, Nat.reduceBEq, g0, g3, g5]
      · simp at c2
        subst hR
        simp only [DD, CC, Nat.reduceAdd, Nat.reduceSub, Nat.reduceLeDiff, Nat.reduceLT, Nat.reduceEqDiff, reduceIte, ↓reduceIte, Nat.reduceBEq, g0, r_r03_with]
        refine ret_drop ⟨_, rfl⟩ hv.under ?_
        have : insL a l = l := by rw [hins, insL, if_neg (by omega), if_pos c2, ← hd, List.take_append_drop]
        rw [this]
        exact ⟨ho, Nat.le_refl _, fun _ _ h => h, fun _ _ _ h => h⟩
    · simp only [DD, CC, Nat.reduceAdd, Nat.reduceSub, Nat.reduceLeDiff, Nat.reduceLT, Nat.reduceEqDiff, reduceIte, ↓reduceIte, Nat.reduceBEq, g0, g3, g5]
      simp at c
      refine loop_again ⟨d - 1, by omega, rfl, i + 1, by omega, ?_, ?_, ?_, ?_⟩ <;> (try simp only [XX, CC, Nat.reduceAdd, Nat.reduceSub, Nat.reduceLeDiff, Nat.reduceLT, Nat.reduceEqDiff, reduceIte, ↓reduceIte, Nat.reduceBEq, g0, g3, g5])
      · rw [w64_nat (by omega)]
      · intro x hx
        rw [List.take_add_one, hq] at hx
        simp at hx
        rcases hx with hx | rfl
        · exact hlt x hx
        · exact c
  · simp only [dec_f (show ¬ (i : Int) < l.length by omega), DD, CC, Nat.reduceAdd, Nat.reduceSub, Nat.reduceLeDiff, Nat.reduceLT, Nat.reduceEqDiff, reduceIte, ↓reduceIte, Nat.reduceBEq, g0, g3, g5]
    refine drw_in [] rfl ?_
    simp only [List.append_nil, DD, CC, Nat.reduceAdd, Nat.reduceSub, Nat.reduceLeDiff, Nat.reduceLT, Nat.reduceEqDiff, reduceIte, ↓reduceIte, Nat.reduceBEq, g0, g3, g5, hv1.len, dec_f (show ¬ (i : Int) < l.length by omega)]
    have hle : i = l.length := by omega
    refine htail i _ (by omega) (by rw [hins, hle, List.drop_length]; rfl) ?_ ?_ ?_ <;> simp only [XX, CC, Nat.reduceAdd, Nat.reduceSub, Nat.reduceLeDiff, Nat.reduceLT, Nat.reduceEqDiff, reduceIte, ↓reduceIte, Nat.reduceBEq, g0, g3, g5]
end Go.Ev
