import Derived.Test.YtmkhnefjklfpnaaCLawE
/-! SpanLess: what is left, and what both have. -/
namespace Go.Ev
set_option linter.unusedVariables false
set_option linter.unusedSimpArgs false
open Go.Ev.Sp

theorem countP_split (p q : Nat → Bool) : ∀ l : List Nat, l.countP p = l.countP (fun x => p x && q x) + l.countP (fun x => p x && !q x)
  | [] => rfl
  | x :: l => by
    rw [List.countP_cons, List.countP_cons, List.countP_cons, countP_split p q l]
    cases p x <;> cases q x <;> simp <;> omega
theorem countP_seg (a b : Nat) : ∀ k : Nat, (List.range k).countP (fun x => decide (a ≤ x) && decide (x ≤ b)) = min (b + 1) k - a
  | 0 => by simp
  | k + 1 => by
    rw [List.range_succ, List.countP_append, countP_seg a b k]
    simp only [List.countP_cons, List.countP_nil]
    by_cases h1 : a ≤ k <;> by_cases h2 : k ≤ b <;> simp [h1, h2] <;> omega
theorem inL_cons (q : Nat × Nat) (s : List (Nat × Nat)) (x : Nat) : inL (q :: s) x = ((decide (q.1 ≤ x) && decide (x ≤ q.2)) || inL s x) := rfl
theorem cnt_count {M : Nat} : ∀ {s : List (Nat × Nat)} {lo : Nat}, Snd M lo s → cnt s = (List.range M).countP (inL s)
  | [], _, _ => by
    have : inL [] = fun _ => false := by funext x; rfl
    rw [this]; simp [cnt]
  | q :: s, lo, h => by
    have h2 := h.2.1
    have h3 := h.2.2.1
    rw [cnt_cons, countP_split (inL (q :: s)) (fun x => decide (q.1 ≤ x) && decide (x ≤ q.2)), cnt_count h.2.2.2]
    have e1 : (fun x => inL (q :: s) x && (decide (q.1 ≤ x) && decide (x ≤ q.2))) = fun x => decide (q.1 ≤ x) && decide (x ≤ q.2) := by
      funext x
      rw [inL_cons]
      cases decide (q.1 ≤ x) <;> cases decide (x ≤ q.2) <;> simp
    have e2 : (fun x => inL (q :: s) x && !(decide (q.1 ≤ x) && decide (x ≤ q.2))) = inL s := by
      funext x
      rw [inL_cons]
      cases c : inL s x
      · cases decide (q.1 ≤ x) <;> cases decide (x ≤ q.2) <;> simp
      · have hm := Snd.ge h.2.2.2 ((inL_iff s x).1 c)
        rw [decide_eq_false (show ¬ x ≤ q.2 by omega)]; simp
    rw [e1, e2, countP_seg, Nat.min_eq_left (by omega)]
    omega
theorem inL_less {M : Nat} {s t : List (Nat × Nat)} {lo lo' : Nat} (h : Snd M lo s) (k : Snd M lo' t) (x : Nat) : inL (lessL s t) x = (inL s x && !inL t x) := by
  rw [Bool.eq_iff_iff, inL_iff, lessL_mem x h k, Bool.and_eq_true, inL_iff, Bool.not_eq_true', ← Bool.not_eq_true, inL_iff]
theorem cnt_less {M : Nat} {s t : List (Nat × Nat)} (h : Snd M 0 s) (k : Snd M 0 t) : cnt (lessL s t) + cnt (lessL s (lessL s t)) = cnt s := by
  have hl := lessL_snd h k
  rw [cnt_count h, cnt_count hl, cnt_count (lessL_snd h hl), countP_split (inL s) (inL (lessL s t))]
  have e1 : (fun x => inL s x && inL (lessL s t) x) = inL (lessL s t) := by
    funext x; rw [inL_less h k]; cases inL s x <;> simp
  have e2 : (fun x => inL s x && !inL (lessL s t) x) = inL (lessL s (lessL s t)) := by
    funext x; rw [inL_less h hl]
  rw [e1, e2]
theorem less_self {M : Nat} {s : List (Nat × Nat)} (h : Snd M 0 s) : lessL s s = [] :=
  Snd.uniq (lessL_snd h h) (show Snd M 0 [] from trivial) fun x => by rw [lessL_mem x h h, mem_nil]; exact ⟨fun h => h.2 h.1, False.elim⟩

set_option maxHeartbeats 4000000 in
theorem spless_r (s : St) (v w : AV) (lx ly : List (Nat × Nat)) (a : Nat) (hl : lx.length < 4611686018427387904) (hx : Wf lx) (hv : Rd 4 cR s v lx) (hl' : ly.length < 4611686018427387904) (hy : Wf ly) (hw : Rd 4 cR s w ly) (ha : a < 340282366920938463463374607431768211456) :
    Run T f_w03_SpanLess [v, w, aA a] s (fun r _ => r = .bool true) := by
  have hB : ∀ {l : List (Nat × Nat)}, Wf l → Snd 340282366920938463463374607431768211456 0 (builtL [] (l.take 200)) ∧ (builtL [] (l.take 200)).length ≤ 200 := fun hw => ⟨builtL_snd trivial fun r hr => hw r (List.mem_of_mem_take hr), by
    have := builtL_len (List.take 200 ‹List (Nat × Nat)›) []
    simp at this; omega⟩
  have hX := hB hx
  have hY := hB hy
  have bx := fun t (h : Ext s t) => built_r t v lx hl hx (hv.ext h)
  have by' := fun t (h : Ext s t) => built_r t w ly hl' hy (hw.ext h)
  generalize builtL [] (lx.take 200) = X at hX bx
  generalize builtL [] (ly.take 200) = Y at hY by'
  obtain ⟨hX, lenX⟩ := hX
  obtain ⟨hY, lenY⟩ := hY
  have wX := Snd.toWf hX
  have wY := Snd.toWf hY
  have oX := (sndB_iff wX).2 hX
  have oY := (sndB_iff wY).2 hY
  have hL := lessL_snd hX hY
  have lenL := lessL_len hX hY
  have hBo := lessL_snd hX hL
  have lenB := lessL_len hX hL
  have hcl := cnt_less hX hY
  have hself := less_self hX
  have iL := inL_less hX hY a
  have iB := inL_less hX hL a
  have l1 := fun t vx vy => less_r t vx vy X Y (by omega) wX wY
  have l2 := fun t vx => less_r t vx vx X X (by omega) wX wX
  rw [hself] at l2
  generalize lessL X Y = L at hL lenL hBo lenB hcl iL iB l1
  have wL := Snd.toWf hL
  have oL := (sndB_iff wL).2 hL
  have l3 := fun t vx vl => less_r t vx vl X L (by omega) wX wL
  generalize lessL X L = B at hBo lenB hcl iB l3
  have wB := Snd.toWf hBo
  have oB := (sndB_iff wB).2 hBo
  have cV : ∀ {S : List (Nat × Nat)}, sndB 0 S = true → cntV S = .tup [aA (cnt S % 340282366920938463463374607431768211456), .bool (decide (0 < S.length ∧ cnt S % 340282366920938463463374607431768211456 = 0))] := fun h => by unfold cntV; rw [if_pos h]
  have hsum : (cnt L % 340282366920938463463374607431768211456 + cnt B % 340282366920938463463374607431768211456) % 340282366920938463463374607431768211456 = cnt X % 340282366920938463463374607431768211456 := by rw [← hcl]; omega
  have hq : ∀ x : Nat, eqA (.st (.one 0 .i (.one 1 .i .nil))) (aA x) (aA x) = some true := fun x => by rw [eq_A, dec_t rfl]
  have bz : ((0 : Int) == 0) = true := rfl
  have btt : (true == true) = true := rfl
  have bff : (false == false) = true := rfl
  refine run_body (F := r_w03_SpanLess) rfl (by simp [r_w03_SpanLess]) ?_
  obtain ⟨TAIL, hT⟩ : ∃ c, c = r_w03_SpanLess.body.snd.snd.snd.snd.snd.snd.snd.snd.snd.snd.snd.snd := ⟨_, rfl⟩
  have hbody : r_w03_SpanLess.body = (let b := r_w03_SpanLess.body; .seq b.fst (.seq b.snd.fst (.seq b.snd.snd.fst (.seq b.snd.snd.snd.fst (.seq b.snd.snd.snd.snd.fst (.seq b.snd.snd.snd.snd.snd.fst (.seq b.snd.snd.snd.snd.snd.snd.fst
    (.seq b.snd.snd.snd.snd.snd.snd.snd.fst (.seq b.snd.snd.snd.snd.snd.snd.snd.snd.fst (.seq b.snd.snd.snd.snd.snd.snd.snd.snd.snd.fst (.seq b.snd.snd.snd.snd.snd.snd.snd.snd.snd.snd.fst (.seq b.snd.snd.snd.snd.snd.snd.snd.snd.snd.snd.snd.fst TAIL)))))))))))) := by rw [hT]; rfl
  have htail : ∀ (e : Env) (t : St) (vx vy vl vb : AV) (z b5 b15 b21 : Nat), Ext s t → Rd 4 cR t vx X → Rd 4 cR t vy Y → Rd 4 cR t vl L → Rd 4 cR t vb B → e.get 5 = .ptr b5 0 → ldA t (some 2) (.ptr b5 0) = some (aA a) → e.get 7 = vx → e.get 8 = vy → e.get 9 = vl → e.get 13 = vb →
      e.get 15 = .ptr b15 0 → e.get 21 = .ptr b21 0 → ldA t (some 2) (.ptr b15 0) = some (aA z) → ldA t (some 2) (.ptr b21 0) = some (aA z) → awp (Run T) TAIL (endK [.tmp 6] s fun r _ => r = .bool true) e t := by
    intro e t vx vy vl vb z b5 b15 b21 hx rx ry rl rb g5 k5 g7 g8 g9 g13 g15 g21 k15 k21
    rw [hT]
    have kx := has_r t vx X a (by omega) wX rx
    have ky := has_r t vy Y a (by omega) wY ry
    have kl := has_r t vl L a (by omega) wL rl
    have kb := has_r t vb B a (by omega) wB rb
    rw [oX, Bool.true_and] at kx
    rw [oY, Bool.true_and] at ky
    rw [oL, Bool.true_and, iL] at kl
    rw [oB, Bool.true_and, iB, iL] at kb
    cases c1 : inL X a
    · rw [c1] at kx kl kb
      simp only [r_w03_SpanLess, RC.snd, XX, CC, Nat.reduceAdd, Nat.reduceSub, Nat.reduceLeDiff, Nat.reduceLT, Nat.reduceEqDiff, reduceIte, ↓reduceIte, Nat.reduceBEq]
      refine drw_in [] rfl ?_
      simp only [List.append_nil, DD, CC, Nat.reduceAdd, Nat.reduceSub, Nat.reduceLeDiff, Nat.reduceLT, Nat.reduceEqDiff, reduceIte, ↓reduceIte, Nat.reduceBEq, g15, g21, k15, k21, hq, g5, k5, g7, g8, g9, g13]
      refine dr_call kl ?_
      simp only [DD, CC, Nat.reduceAdd, Nat.reduceSub, Nat.reduceLeDiff, Nat.reduceLT, Nat.reduceEqDiff, reduceIte, ↓reduceIte, Nat.reduceBEq, g5, k5, g7]
      refine dr_call kx ?_
      simp only [DD, CC, Nat.reduceAdd, Nat.reduceSub, Nat.reduceLeDiff, Nat.reduceLT, Nat.reduceEqDiff, reduceIte, ↓reduceIte, Nat.reduceBEq, Bool.false_and, bff, g13, g5, k5]
      refine dr_call kb ?_
      simp only [DD, CC, Nat.reduceAdd, Nat.reduceSub, Nat.reduceLeDiff, Nat.reduceLT, Nat.reduceEqDiff, reduceIte, ↓reduceIte, Nat.reduceBEq, g5, k5, g7]
      refine dr_call kx ?_
      simp only [DD, CC, Nat.reduceAdd, Nat.reduceSub, Nat.reduceLeDiff, Nat.reduceLT, Nat.reduceEqDiff, reduceIte, ↓reduceIte, Nat.reduceBEq, Bool.false_and, bff]
      exact ret_drop (k := fun r _ => r = AV.bool true) hx rfl rfl
    · cases c2 : inL Y a
      · rw [c1, c2] at kl kb
        rw [c1] at kx
        rw [c2] at ky
        simp only [r_w03_SpanLess, RC.snd, XX, CC, Nat.reduceAdd, Nat.reduceSub, Nat.reduceLeDiff, Nat.reduceLT, Nat.reduceEqDiff, reduceIte, ↓reduceIte, Nat.reduceBEq]
        refine drw_in [] rfl ?_
        simp only [List.append_nil, DD, CC, Nat.reduceAdd, Nat.reduceSub, Nat.reduceLeDiff, Nat.reduceLT, Nat.reduceEqDiff, reduceIte, ↓reduceIte, Nat.reduceBEq, g15, g21, k15, k21, hq, g5, k5, g7, g8, g9, g13]
        refine dr_call kl ?_
        simp only [DD, CC, Nat.reduceAdd, Nat.reduceSub, Nat.reduceLeDiff, Nat.reduceLT, Nat.reduceEqDiff, reduceIte, ↓reduceIte, Nat.reduceBEq, g5, k5, g7]
        refine dr_call kx ?_
        simp only [DD, CC, Nat.reduceAdd, Nat.reduceSub, Nat.reduceLeDiff, Nat.reduceLT, Nat.reduceEqDiff, reduceIte, ↓reduceIte, Nat.reduceBEq, g5, k5, g8]
        refine dr_call ky ?_
        simp only [DD, CC, Nat.reduceAdd, Nat.reduceSub, Nat.reduceLeDiff, Nat.reduceLT, Nat.reduceEqDiff, reduceIte, ↓reduceIte, Nat.reduceBEq, Bool.true_and, Bool.not_false, btt, g13, g5, k5]
        refine dr_call kb ?_
        simp only [DD, CC, Nat.reduceAdd, Nat.reduceSub, Nat.reduceLeDiff, Nat.reduceLT, Nat.reduceEqDiff, reduceIte, ↓reduceIte, Nat.reduceBEq, g5, k5, g7]
        refine dr_call kx ?_
        simp only [DD, CC, Nat.reduceAdd, Nat.reduceSub, Nat.reduceLeDiff, Nat.reduceLT, Nat.reduceEqDiff, reduceIte, ↓reduceIte, Nat.reduceBEq, g5, k5, g8]
        refine dr_call ky ?_
        simp only [DD, CC, Nat.reduceAdd, Nat.reduceSub, Nat.reduceLeDiff, Nat.reduceLT, Nat.reduceEqDiff, reduceIte, ↓reduceIte, Nat.reduceBEq, Bool.true_and, Bool.not_true, Bool.not_false, bff]
        exact ret_drop (k := fun r _ => r = AV.bool true) hx rfl rfl
      · rw [c1, c2] at kl kb
        rw [c1] at kx
        rw [c2] at ky
        simp only [r_w03_SpanLess, RC.snd, XX, CC, Nat.reduceAdd, Nat.reduceSub, Nat.reduceLeDiff, Nat.reduceLT, Nat.reduceEqDiff, reduceIte, ↓reduceIte, Nat.reduceBEq]
        refine drw_in [] rfl ?_
        simp only [List.append_nil, DD, CC, Nat.reduceAdd, Nat.reduceSub, Nat.reduceLeDiff, Nat.reduceLT, Nat.reduceEqDiff, reduceIte, ↓reduceIte, Nat.reduceBEq, g15, g21, k15, k21, hq, g5, k5, g7, g8, g9, g13]
        refine dr_call kl ?_
        simp only [DD, CC, Nat.reduceAdd, Nat.reduceSub, Nat.reduceLeDiff, Nat.reduceLT, Nat.reduceEqDiff, reduceIte, ↓reduceIte, Nat.reduceBEq, g5, k5, g7]
        refine dr_call kx ?_
        simp only [DD, CC, Nat.reduceAdd, Nat.reduceSub, Nat.reduceLeDiff, Nat.reduceLT, Nat.reduceEqDiff, reduceIte, ↓reduceIte, Nat.reduceBEq, g5, k5, g8]
        refine dr_call ky ?_
        simp only [DD, CC, Nat.reduceAdd, Nat.reduceSub, Nat.reduceLeDiff, Nat.reduceLT, Nat.reduceEqDiff, reduceIte, ↓reduceIte, Nat.reduceBEq, Bool.true_and, Bool.not_true, bff, g13, g5, k5]
        refine dr_call kb ?_
        simp only [DD, CC, Nat.reduceAdd, Nat.reduceSub, Nat.reduceLeDiff, Nat.reduceLT, Nat.reduceEqDiff, reduceIte, ↓reduceIte, Nat.reduceBEq, g5, k5, g7]
        refine dr_call kx ?_
        simp only [DD, CC, Nat.reduceAdd, Nat.reduceSub, Nat.reduceLeDiff, Nat.reduceLT, Nat.reduceEqDiff, reduceIte, ↓reduceIte, Nat.reduceBEq, g5, k5, g8]
        refine dr_call ky ?_
        simp only [DD, CC, Nat.reduceAdd, Nat.reduceSub, Nat.reduceLeDiff, Nat.reduceLT, Nat.reduceEqDiff, reduceIte, ↓reduceIte, Nat.reduceBEq, Bool.true_and, Bool.not_true, Bool.not_false, btt]
        exact ret_drop (k := fun r _ => r = AV.bool true) hx rfl rfl
  rw [hbody]
  simp only [r_w03_SpanLess, RC.fst, RC.snd, XX, CC, Nat.reduceAdd, Nat.reduceSub, Nat.reduceLeDiff, Nat.reduceLT, Nat.reduceEqDiff, reduceIte, ↓reduceIte, Nat.reduceBEq]
  refine (awake_r _).use ?_
  simp only [XX, CC, Nat.reduceAdd, Nat.reduceSub, Nat.reduceLeDiff, Nat.reduceLT, Nat.reduceEqDiff, reduceIte, ↓reduceIte, Nat.reduceBEq, Bool.not_true]
  refine Run.mono _ _ _ _ _ ?_ (bx _ ⟨_, rfl⟩)
  intro vx t1 o1
  have x1 : Ext s t1 := Ext.trans ⟨_, rfl⟩ o1.ext
  have a1 : t1[s.length]? = some (.cells true (cA a)) := o1.ext.get_some (by simp)
  (try simp only [XX, CC, Nat.reduceAdd, Nat.reduceSub, Nat.reduceLeDiff, Nat.reduceLT, Nat.reduceEqDiff, reduceIte, ↓reduceIte, Nat.reduceBEq])
  refine Run.mono _ _ _ _ _ ?_ (by' _ x1)
  intro vy t2 o2
  have x2 := x1.trans o2.ext
  have rx := (o1.rd cR_len).ext o2.ext
  have ry := o2.rd cR_len
  (try simp only [XX, CC, Nat.reduceAdd, Nat.reduceSub, Nat.reduceLeDiff, Nat.reduceLT, Nat.reduceEqDiff, reduceIte, ↓reduceIte, Nat.reduceBEq])
  refine Run.mono _ _ _ _ _ ?_ (l1 _ vx vy rx ry)
  intro r t3 h
  obtain ⟨vl, rfl, o3⟩ := h.yes (by rw [oX, oY]; rfl) rfl
  have x3 := x2.trans o3.ext
  have rl := o3.rd cR_len
  (try simp only [XX, CC, Nat.reduceAdd, Nat.reduceSub, Nat.reduceLeDiff, Nat.reduceLT, Nat.reduceEqDiff, reduceIte, ↓reduceIte, Nat.reduceBEq])
  refine Run.mono _ _ _ _ _ ?_ (l2 _ vx (rx.ext o3.ext) (rx.ext o3.ext))
  intro r t4 h
  obtain ⟨vn, rfl, o4⟩ := h.yes (by rw [oX]; rfl) rfl
  have x4 := x3.trans o4.ext
  have rn := o4.rd cR_len
  (try simp only [XX, CC, Nat.reduceAdd, Nat.reduceSub, Nat.reduceLeDiff, Nat.reduceLT, Nat.reduceEqDiff, reduceIte, ↓reduceIte, Nat.reduceBEq])
  refine Run.mono _ _ _ _ _ ?_ (l3 _ vx vl (rx.ext (o3.ext.trans o4.ext)) (rl.ext o4.ext))
  intro r t5 h
  obtain ⟨vb, rfl, o5⟩ := h.yes (by rw [oX, oL]; rfl) rfl
  have x5 := x4.trans o5.ext
  have rb := o5.rd cR_len
  have rx := rx.ext (o3.ext.trans (o4.ext.trans o5.ext))
  have ry := ry.ext (o3.ext.trans (o4.ext.trans o5.ext))
  have rl := rl.ext (o4.ext.trans o5.ext)
  have hnl := rn.len
  have ba := blkA (t := t5) (b := s.length) (q := a) ((o2.ext.trans (o3.ext.trans (o4.ext.trans o5.ext))).get_some a1)
  simp only [XX, CC, Nat.reduceAdd, Nat.reduceSub, Nat.reduceLeDiff, Nat.reduceLT, Nat.reduceEqDiff, reduceIte, ↓reduceIte, Nat.reduceBEq, bz, Bool.not_true, hnl, List.length_nil, show (((0 : Nat) : Int) == 0) = true from rfl]
  refine (sound_r _ vl L (by omega) wL rl).use ?_
  rw [oL]
  simp only [XX, CC, Nat.reduceAdd, Nat.reduceSub, Nat.reduceLeDiff, Nat.reduceLT, Nat.reduceEqDiff, reduceIte, ↓reduceIte, Nat.reduceBEq, Bool.not_true]
  refine (sound_r _ vb B (by omega) wB rb).use ?_
  rw [oB]
  simp only [XX, CC, Nat.reduceAdd, Nat.reduceSub, Nat.reduceLeDiff, Nat.reduceLT, Nat.reduceEqDiff, reduceIte, ↓reduceIte, Nat.reduceBEq, Bool.not_true]
  refine (count_r _ vx X (by omega) wX rx).use ?_
  rw [cV oX]
  simp only [XX, CC, Nat.reduceAdd, Nat.reduceSub, Nat.reduceLeDiff, Nat.reduceLT, Nat.reduceEqDiff, reduceIte, ↓reduceIte, Nat.reduceBEq]
  refine (count_r _ vl L (by omega) wL (rl.ext ⟨_, rfl⟩)).use ?_
  rw [cV oL]
  simp only [XX, CC, Nat.reduceAdd, Nat.reduceSub, Nat.reduceLeDiff, Nat.reduceLT, Nat.reduceEqDiff, reduceIte, ↓reduceIte, Nat.reduceBEq]
  refine (count_r _ vb B (by omega) wB (rb.ext ⟨_, rfl⟩)).use ?_
  rw [cV oB]
  have hA : ∀ (t : St) (x : Nat) (b : Blk) (c : List Blk), ldA (t ++ (b :: .cells true (cA x) :: c)) (some 2) (.ptr (t.length + 1) 0) = some (aA x) := fun t x b c => (blkA (by simp)).1
  have hA2 : ∀ (t : St) (x : Nat) (a b : Blk) (c : List Blk), ldA (t ++ (a :: b :: .cells true (cA x) :: c)) (some 2) (.ptr (t.length + 2) 0) = some (aA x) := fun t x a b c => (blkA (by simp)).1
  simp only [hA, hA2, XX, CC, Nat.reduceAdd, Nat.reduceSub, Nat.reduceLeDiff, Nat.reduceLT, Nat.reduceEqDiff, reduceIte, ↓reduceIte, Nat.reduceBEq]
  refine (add_r _ _ _ (Nat.mod_lt _ (by decide)) (Nat.mod_lt _ (by decide))).use ?_
  rw [hsum]
  simp only [XX, CC, Nat.reduceAdd, Nat.reduceSub, Nat.reduceLeDiff, Nat.reduceLT, Nat.reduceEqDiff, reduceIte, ↓reduceIte, Nat.reduceBEq]
  refine htail _ _ vx vy vl vb (cnt X % 340282366920938463463374607431768211456) s.length t5.length (t5.length + 3) (x5.app _) (rx.ext ⟨_, rfl⟩) (ry.ext ⟨_, rfl⟩) (rl.ext ⟨_, rfl⟩) (rb.ext ⟨_, rfl⟩) ?_ (ba.2 _) ?_ ?_ ?_ ?_ ?_ ?_ (blkA (by simp)).1 (blkA (by simp)).1 <;> simp only [XX, CC, Nat.reduceAdd, Nat.reduceSub, Nat.reduceLeDiff, Nat.reduceLT, Nat.reduceEqDiff, reduceIte, ↓reduceIte, Nat.reduceBEq]
end Go.Ev
