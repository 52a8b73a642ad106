import Derived.Test.YtmkhnefjklfpnaaCLawF
/-! SpanMembers. -/
namespace Go.Ev
set_option linter.unusedVariables false
set_option linter.unusedSimpArgs false
open Go.Ev.Sp

theorem inL_put {M : Nat} {s : List (Nat × Nat)} {a b : Nat} (h : Snd M 0 s) (hab : a ≤ b) (x : Nat) : inL (putS a b s) x = (inL s x || (decide (a ≤ x) && decide (x ≤ b))) := by
  rw [Bool.eq_iff_iff, inL_iff, putS_mem x hab fun r hr => (Snd.wf h r hr).1, Bool.or_eq_true, inL_iff, Bool.and_eq_true, decide_eq_true_iff, decide_eq_true_iff]
theorem inL_drop {M : Nat} {s : List (Nat × Nat)} {a b : Nat} (h : Snd M 0 s) (hab : a ≤ b) (x : Nat) : inL (dropL a b s) x = (inL s x && !(decide (a ≤ x) && decide (x ≤ b))) := by
  rw [Bool.eq_iff_iff, inL_iff, dropL_mem hab x fun r hr => (Snd.wf h r hr).1, Bool.and_eq_true, inL_iff, Bool.not_eq_true', ← Bool.not_eq_true, Bool.and_eq_true, decide_eq_true_iff, decide_eq_true_iff]
theorem put_drop {s : List (Nat × Nat)} {a b : Nat} (h : Snd 340282366920938463463374607431768211456 0 s) (hab : a ≤ b) (hb : b < 340282366920938463463374607431768211456) : putS a b (dropL a b s) = putS a b s := by
  have hd := dropL_snd hab h
  refine Snd.uniq (putS_snd hab hb (Nat.zero_le _) hd) (putS_snd hab hb (Nat.zero_le _) h) fun x => ?_
  rw [putS_mem x hab fun r hr => (Snd.wf hd r hr).1, putS_mem x hab fun r hr => (Snd.wf h r hr).1, dropL_mem hab x fun r hr => (Snd.wf h r hr).1]
  constructor
  · rintro (h | h)
    · exact .inl h.1
    · exact .inr h
  · rintro (h | h)
    · by_cases c : a ≤ x ∧ x ≤ b
      · exact .inr c
      · exact .inl ⟨h, c⟩
    · exact .inr h

theorem op_ixp5 {X : Oracle} {e : Env} {s : St} {k : AV → St → Prop} {x i : RX} {p j : Nat} (hx : x.ev e = .ptr p 0) (hi : i.ev e = .int .i64 (j : Int)) (hj : j < 5) : opA X (.ixp 2 5 x i) e s k = k (.ptr p (j * 2)) s := by
  have h : pureA (.ixp 2 5 x i) e = some (.ptr p (j * 2)) := by simp [pureA, hx, hi]; omega
  apply propext
  show (∃ v, pureA (.ixp 2 5 x i) e = some v ∧ k v s) ↔ _
  rw [h]
  constructor
  · rintro ⟨v, e, hk⟩; cases e; exact hk
  · exact fun hk => ⟨_, rfl, hk⟩
theorem Ans.nope {s t : St} {l : List (Nat × Nat)} {r : AV} (h : Ans s false l r t) : ∃ v, r = .tup [v, .int .i64 1] ∧ Out 4 cR s [] v t := h
def membC : RC := r_w03_SpanMembers.body.snd.snd.snd.snd.snd.snd.snd.snd.snd.snd.snd.fst.snd.inn.inn
def membB (LOOP : RC) : RC :=
  let b := r_w03_SpanMembers.body
  let c := b.snd.snd.snd.snd.snd.snd
  let d := c.snd.snd.snd.snd.snd
  .seq b.fst (.seq b.snd.fst (.seq b.snd.snd.fst (.seq b.snd.snd.snd.fst (.seq b.snd.snd.snd.snd.fst (.seq b.snd.snd.snd.snd.snd.fst
    (.seq c.fst (.seq c.snd.fst (.seq c.snd.snd.fst (.seq c.snd.snd.snd.fst (.seq c.snd.snd.snd.snd.fst (.seq (.seq d.fst.fst (.block 0 (.loop LOOP))) d.snd)))))))))))
set_option maxHeartbeats 4000000 in
theorem memb_round (s t : St) (r : Nat × Nat) (S X Y : List (Nat × Nat)) (vs vx vy : AV) (p : Nat) (q : List Nat) (e : Env) (i : Nat) (Q : XE → Env → St → Prop) (h1 : r.1 < 340282366920938463463374607431768211456) (h2 : r.2 < 340282366920938463463374607431768211456)
    (hq : q.length = 5) (hqw : ∀ x ∈ q, x < 340282366920938463463374607431768211456) (hp : t[p]? = some (.cells true (q.flatMap cA))) (lS : S.length < 10000) (lX : X.length < 10000) (lY : Y.length < 10000) (wS : Wf S) (wX : Wf X) (wY : Wf Y)
    (kS : ∀ x, (sndB 0 S && inL S x) = inL S x) (kX : ∀ x, (sndB 0 X && inL X x) = (inL S x || (decide (r.1 ≤ x) && decide (x ≤ r.2)))) (kY : ∀ x, (sndB 0 Y && inL Y x) = (inL S x && !(decide (r.1 ≤ x) && decide (x ≤ r.2))))
    (rS : Rd 4 cR t vs S) (rX : Rd 4 cR t vx X) (rY : Rd 4 cR t vy Y) (g4 : e.get 4 = .ptr s.length 0) (hr : t[s.length]? = some (.cells true (cR r))) (g7 : e.get 7 = vs) (g8 : e.get 8 = vx) (g10 : e.get 10 = vy) (g16 : e.get 16 = .ptr p 0) (g17 : e.get 17 = .int .i64 i)
    (hi : i < 5)
    (hK : ∀ e' l, e'.get 4 = e.get 4 → e'.get 7 = e.get 7 → e'.get 8 = e.get 8 → e'.get 9 = e.get 9 → e'.get 10 = e.get 10 → e'.get 16 = e.get 16 → e'.get 17 = .int .i64 (i + 1 : Nat) → Q .nrm e' (t ++ l)) :
    awp (Run T) membC Q e t := by
  obtain ⟨b, hb, _⟩ := drop_get (l := q) (i := i) (by omega)
  have hbw := hqw b (List.mem_of_getElem? hb)
  have hld : ldA t (some 2) (.ptr p (i * 2)) = some (aA b) := by
    obtain ⟨b2, o2, k1, k2, _⟩ := rdA (v := .sl p 0 2 5 none) (rd_lit hp cA_len hq) hb
    have := k1 .i64
    rw [ixa_nat hi] at this
    simp only [Option.some.injEq, AV.ptr.injEq, Nat.zero_add] at this
    rw [this.1, this.2]; exact k2
  have kr := fun l => (blkR (t := t ++ l) (b := s.length) (q := r) (by rw [List.getElem?_append_left (List.getElem?_eq_some_iff.1 hr).1]; exact hr)).1
  have kb := fun l => (blkA (t := t ++ (.cells true (cA b) :: l)) (b := t.length) (q := b) (by simp)).1
  have hs := has_r (t ++ [.cells true (cA b)]) vs S b (by omega) wS (rS.ext ⟨_, rfl⟩)
  have hx := has_r (t ++ [.cells true (cA b)]) vx X b (by omega) wX (rX.ext ⟨_, rfl⟩)
  have hy := has_r (t ++ [.cells true (cA b)]) vy Y b (by omega) wY (rY.ext ⟨_, rfl⟩)
  have hin := win_r (t ++ [.cells true (cA b)]) r b h1 h2 hbw
  rw [kS] at hs
  rw [kX] at hx
  rw [kY] at hy
  generalize (decide (r.1 ≤ b) && decide (b ≤ r.2)) = c at hx hy hin
  cases c1 : inL S b
  all_goals rw [c1] at hs hx hy
  all_goals simp only [membC, r_w03_SpanMembers, RC.fst, RC.snd, RC.inn, XX, CC, Nat.reduceAdd, Nat.reduceSub, Nat.reduceLeDiff, Nat.reduceLT, Nat.reduceEqDiff, reduceIte, ↓reduceIte, Nat.reduceBEq, g4, g7, g8, g10, g16, g17, dec_t (show (i : Int) < 5 by omega)]
  all_goals rw [op_ixp5 (p := p) (j := i) (by simp only [XX, CC, Nat.reduceAdd, Nat.reduceSub, Nat.reduceLeDiff, Nat.reduceLT, Nat.reduceEqDiff, reduceIte, ↓reduceIte, Nat.reduceBEq, g16]) (by simp only [XX, CC, Nat.reduceAdd, Nat.reduceSub, Nat.reduceLeDiff, Nat.reduceLT, Nat.reduceEqDiff, reduceIte, ↓reduceIte, Nat.reduceBEq]) hi]
  all_goals simp only [hld, XX, CC, Nat.reduceAdd, Nat.reduceSub, Nat.reduceLeDiff, Nat.reduceLT, Nat.reduceEqDiff, reduceIte, ↓reduceIte, Nat.reduceBEq, kb]
  all_goals refine hs.use ?_
  all_goals simp only [XX, CC, Nat.reduceAdd, Nat.reduceSub, Nat.reduceLeDiff, Nat.reduceLT, Nat.reduceEqDiff, reduceIte, ↓reduceIte, Nat.reduceBEq, kb]
  all_goals refine hx.use ?_
  · simp only [XX, CC, Nat.reduceAdd, Nat.reduceSub, Nat.reduceLeDiff, Nat.reduceLT, Nat.reduceEqDiff, reduceIte, ↓reduceIte, Nat.reduceBEq, g4, kr, kb]
    refine hin.use ?_
    simp only [Bool.false_or, XX, CC, Nat.reduceAdd, Nat.reduceSub, Nat.reduceLeDiff, Nat.reduceLT, Nat.reduceEqDiff, reduceIte, ↓reduceIte, Nat.reduceBEq, beq_self_eq_true, Bool.not_true, g10, kb]
    refine hy.use ?_
    simp only [Bool.false_and, XX, CC, Nat.reduceAdd, Nat.reduceSub, Nat.reduceLeDiff, Nat.reduceLT, Nat.reduceEqDiff, reduceIte, ↓reduceIte, Nat.reduceBEq, show (false == false) = true from rfl, Bool.not_true, g17]
    refine hK _ [_] ?_ ?_ ?_ ?_ ?_ ?_ ?_ <;> (try simp only [XX, CC, Nat.reduceAdd, Nat.reduceSub, Nat.reduceLeDiff, Nat.reduceLT, Nat.reduceEqDiff, reduceIte, ↓reduceIte, Nat.reduceBEq])
    rw [w64_nat (by omega)]
  · simp only [Bool.true_or, XX, CC, Nat.reduceAdd, Nat.reduceSub, Nat.reduceLeDiff, Nat.reduceLT, Nat.reduceEqDiff, reduceIte, ↓reduceIte, Nat.reduceBEq, show (true == true) = true from rfl, Bool.not_true, g10, kb]
    refine hy.use ?_
    simp only [Bool.true_and, XX, CC, Nat.reduceAdd, Nat.reduceSub, Nat.reduceLeDiff, Nat.reduceLT, Nat.reduceEqDiff, reduceIte, ↓reduceIte, Nat.reduceBEq, g4, kr, kb]
    refine hin.use ?_
    simp only [XX, CC, Nat.reduceAdd, Nat.reduceSub, Nat.reduceLeDiff, Nat.reduceLT, Nat.reduceEqDiff, reduceIte, ↓reduceIte, Nat.reduceBEq, beq_self_eq_true, Bool.not_true, g17]
    refine hK _ [_] ?_ ?_ ?_ ?_ ?_ ?_ ?_ <;> (try simp only [XX, CC, Nat.reduceAdd, Nat.reduceSub, Nat.reduceLeDiff, Nat.reduceLT, Nat.reduceEqDiff, reduceIte, ↓reduceIte, Nat.reduceBEq])
    rw [w64_nat (by omega)]
theorem memb_exit (t : St) (e : Env) (Q : XE → Env → St → Prop) (g17 : e.get 17 = .int .i64 (5 : Nat)) (hK : ∀ e', e'.get 4 = e.get 4 → e'.get 7 = e.get 7 → e'.get 8 = e.get 8 → e'.get 10 = e.get 10 → Q (.exit 0) e' t) : awp (Run T) membC Q e t := by
  simp only [membC, r_w03_SpanMembers, RC.fst, RC.snd, RC.inn, XX, CC, Nat.reduceAdd, Nat.reduceSub, Nat.reduceLeDiff, Nat.reduceLT, Nat.reduceEqDiff, reduceIte, ↓reduceIte, Nat.reduceBEq, g17, dec_f (show ¬ ((5 : Nat) : Int) < 5 by omega)]
  refine hK _ ?_ ?_ ?_ ?_ <;> simp only [XX, CC, Nat.reduceAdd, Nat.reduceSub, Nat.reduceLeDiff, Nat.reduceLT, Nat.reduceEqDiff, reduceIte, ↓reduceIte, Nat.reduceBEq]

set_option maxHeartbeats 4000000 in
theorem members_r (s : St) (v : AV) (l : List (Nat × Nat)) (r1 r2 a : Nat) (hl : l.length < 4611686018427387904) (hw : Wf l) (hv : Rd 4 cR s v l) (h1 : r1 < 340282366920938463463374607431768211456) (h2 : r2 < 340282366920938463463374607431768211456) (ha : a < 340282366920938463463374607431768211456) :
    Run T f_w03_SpanMembers [v, aR (r1, r2), aA a] s (fun r _ => r = .bool true) := by
  have hS : Snd 340282366920938463463374607431768211456 0 (builtL [] (l.take 200)) := builtL_snd trivial fun r hr => hw r (List.mem_of_mem_take hr)
  have hlen : (builtL [] (l.take 200)).length ≤ 200 := by
    have := builtL_len (l.take 200) []
    simp at this; omega
  have hb := built_r (s ++ [.cells true (cR (r1, r2)), .cells true (cA a)]) v l hl hw (hv.ext ⟨_, rfl⟩)
  generalize builtL [] (l.take 200) = S at hS hlen hb
  have wS := Snd.toWf hS
  have oS := (sndB_iff wS).2 hS
  have hput := fun t vs => put_r t vs S r1 r2 (by omega) wS h1 h2
  have hdrop := fun t vs => drop_r t vs S r1 r2 (by omega) wS h1 h2
  rw [oS, Bool.true_and] at hput hdrop
  have b00 : ((0 : Int) == 0) = true := rfl
  have b11 : ((1 : Int) == 1) = true := rfl
  refine run_body (F := r_w03_SpanMembers) rfl (by simp [r_w03_SpanMembers]) ?_
  by_cases hc : r1 ≤ r2
  · rw [dec_t hc] at hput hdrop
    rw [putL_eq hc hS, List.nil_append] at hput
    have hX := putS_snd hc h2 (Nat.zero_le _) hS
    have hY := dropL_snd hc hS
    have lX := putS_length S r1 r2
    have lY := dropL_length r1 r2 S
    have iX := inL_put hS hc
    have iY := inL_drop hS hc
    have hpd := put_drop hS hc h2
    generalize putS r1 r2 S = X at hX lX iX hpd hput
    generalize dropL r1 r2 S = Y at hY lY iY hpd hdrop
    have wX := Snd.toWf hX
    have wY := Snd.toWf hY
    have oX := (sndB_iff wX).2 hX
    have oY := (sndB_iff wY).2 hY
    have hback := fun t vs => put_r t vs Y r1 r2 (by omega) wY h1 h2
    rw [oY, Bool.true_and, dec_t hc, putL_eq hc hY, List.nil_append, hpd] at hback
    obtain ⟨LOOP, hT⟩ : ∃ c, c = membC := ⟨_, rfl⟩
    have hround := fun s t r S X Y vs vx vy p q e i Q => memb_round s t r S X Y vs vx vy p q e i Q
    have hexit := memb_exit
    rw [← hT] at hround hexit
    have hbody : r_w03_SpanMembers.body = membB LOOP := by rw [hT]; rfl
    rw [hbody]
    simp only [membB, r_w03_SpanMembers, RC.fst, RC.snd, RC.inn, XX, CC, Nat.reduceAdd, Nat.reduceSub, Nat.reduceLeDiff, Nat.reduceLT, Nat.reduceEqDiff, reduceIte, ↓reduceIte, Nat.reduceBEq]
    refine (awake_r _).use ?_
    simp only [XX, CC, Nat.reduceAdd, Nat.reduceSub, Nat.reduceLeDiff, Nat.reduceLT, Nat.reduceEqDiff, reduceIte, ↓reduceIte, Nat.reduceBEq, Bool.not_true]
    refine Run.mono _ _ _ _ _ ?_ hb
    intro vs t1 o1
    have x1 : Ext s t1 := Ext.trans ⟨_, rfl⟩ o1.ext
    have q1 : t1[s.length]? = some (.cells true (cR (r1, r2))) := o1.ext.get_some (by simp)
    have q2 : t1[s.length + 1]? = some (.cells true (cA a)) := o1.ext.get_some (by simp)
    (try simp only [XX, CC, Nat.reduceAdd, Nat.reduceSub, Nat.reduceLeDiff, Nat.reduceLT, Nat.reduceEqDiff, reduceIte, ↓reduceIte, Nat.reduceBEq])
    refine (sound_r _ vs S (by omega) wS (o1.rd cR_len)).use ?_
    rw [oS]
    simp only [XX, CC, Nat.reduceAdd, Nat.reduceSub, Nat.reduceLeDiff, Nat.reduceLT, Nat.reduceEqDiff, reduceIte, ↓reduceIte, Nat.reduceBEq, Bool.not_true, blkR q1]
    refine Run.mono _ _ _ _ _ ?_ (hput _ vs (o1.rd cR_len))
    intro r t2 h
    obtain ⟨vx, rfl, o2⟩ := h.yes rfl rfl
    have x2 := x1.trans o2.ext
    (try simp only [XX, CC, Nat.reduceAdd, Nat.reduceSub, Nat.reduceLeDiff, Nat.reduceLT, Nat.reduceEqDiff, reduceIte, ↓reduceIte, Nat.reduceBEq, blkR (o2.ext.get_some q1)])
    refine Run.mono _ _ _ _ _ ?_ (hdrop _ vs ((o1.rd cR_len).ext o2.ext))
    intro r t3 h
    obtain ⟨vy, rfl, o3⟩ := h.yes rfl rfl
    have x3 := x2.trans o3.ext
    have rS := (o1.rd cR_len).ext (o2.ext.trans o3.ext)
    have rX := (o2.rd cR_len).ext o3.ext
    have rY := o3.rd cR_len
    have q1 := (o2.ext.trans o3.ext).get_some q1
    have q2 := (o2.ext.trans o3.ext).get_some q2
    have k1 := blkR q1
    have k2 := blkA q2
    simp only [XX, CC, Nat.reduceAdd, Nat.reduceSub, Nat.reduceLeDiff, Nat.reduceLT, Nat.reduceEqDiff, reduceIte, ↓reduceIte, Nat.reduceBEq, k1]
    refine (cmp_r _ r1 r2).use ?_
    simp only [gt_dec, dec_f (show ¬ r2 < r1 by omega), XX, CC, Nat.reduceAdd, Nat.reduceSub, Nat.reduceLeDiff, Nat.reduceLT, Nat.reduceEqDiff, reduceIte, ↓reduceIte, Nat.reduceBEq, b00, Bool.not_true]
    refine (sound_r _ vx X (by omega) wX rX).use ?_
    rw [oX]
    simp only [XX, CC, Nat.reduceAdd, Nat.reduceSub, Nat.reduceLeDiff, Nat.reduceLT, Nat.reduceEqDiff, reduceIte, ↓reduceIte, Nat.reduceBEq, Bool.not_true]
    refine (sound_r _ vy Y (by omega) wY rY).use ?_
    rw [oY]
    simp only [XX, CC, Nat.reduceAdd, Nat.reduceSub, Nat.reduceLeDiff, Nat.reduceLT, Nat.reduceEqDiff, reduceIte, ↓reduceIte, Nat.reduceBEq, Bool.not_true, k1, one_cells]
    refine (add_r _ r2 1 h2 (by decide)).use ?_
    simp only [XX, CC, Nat.reduceAdd, Nat.reduceSub, Nat.reduceLeDiff, Nat.reduceLT, Nat.reduceEqDiff, reduceIte, ↓reduceIte, Nat.reduceBEq, k1, one_cells]
    refine (sub_r _ r1 1 h1 (by decide)).use ?_
    simp only [XX, CC, Nat.reduceAdd, Nat.reduceSub, Nat.reduceLeDiff, Nat.reduceLT, Nat.reduceEqDiff, reduceIte, ↓reduceIte, Nat.reduceBEq, k1, k2]
    have l5 : ∀ x0 x1 x2 x3 x4 : Nat, setL (setL (setL (setL (setL [AV.int .u64 0, AV.int .u64 0, AV.int .u64 0, AV.int .u64 0, AV.int .u64 0, AV.int .u64 0, AV.int .u64 0, AV.int .u64 0, AV.int .u64 0, AV.int .u64 0] 0 (cA x0)) 2 (cA x1)) 4 (cA x2)) 6 (cA x3)) 8 (cA x4) = [x0, x1, x2, x3, x4].flatMap cA := fun _ _ _ _ _ => rfl
    have w5 : ∀ x0 x1 x2 x3 x4 : Nat, wrA [Blk.cells true [AV.int .u64 0, AV.int .u64 0, AV.int .u64 0, AV.int .u64 0, AV.int .u64 0, AV.int .u64 0, AV.int .u64 0, AV.int .u64 0, AV.int .u64 0, AV.int .u64 0]] 0 0 ([x0, x1, x2, x3, x4].flatMap cA) = some [Blk.cells true ([x0, x1, x2, x3, x4].flatMap cA)] := fun _ _ _ _ _ => rfl
    simp only [l5, w5, XX, CC, Nat.reduceAdd, Nat.reduceSub, Nat.reduceLeDiff, Nat.reduceLT, Nat.reduceEqDiff, reduceIte, ↓reduceIte, Nat.reduceBEq]
    have hupw : (r2 + 1) % 340282366920938463463374607431768211456 < 340282366920938463463374607431768211456 := Nat.mod_lt _ (by decide)
    have hdnw : (r1 + 340282366920938463463374607431768211456 - 1) % 340282366920938463463374607431768211456 < 340282366920938463463374607431768211456 := Nat.mod_lt _ (by decide)
    generalize (r2 + 1) % 340282366920938463463374607431768211456 = up at hupw ⊢
    generalize (r1 + 340282366920938463463374607431768211456 - 1) % 340282366920938463463374607431768211456 = dn at hdnw ⊢
    have hqw : ∀ x ∈ [a, r1, r2, up, dn], x < 340282366920938463463374607431768211456 := by
      intro x hx
      simp only [List.mem_cons, List.not_mem_nil, or_false] at hx
      rcases hx with h | h | h | h | h <;> subst h <;> assumption
    have hq5 : [a, r1, r2, up, dn].length = 5 := rfl
    generalize [a, r1, r2, up, dn] = q at hqw hq5 ⊢
    obtain ⟨t4, ht4⟩ : ∃ t4, t4 = t3 ++ [Blk.cells true (cA up), Blk.cells true (cA dn), Blk.cells true (q.flatMap cA)] := ⟨_, rfl⟩
    rw [← ht4]
    have x34 : Ext t3 t4 := ⟨_, ht4⟩
    have hp4 : t4[t3.length + 2]? = some (.cells true (q.flatMap cA)) := by rw [ht4]; simp
    refine awp_rounds (fun d e t => Ext t4 t ∧ ∃ i : Nat, i + d = 5 ∧ e.get 4 = .ptr s.length 0 ∧ e.get 7 = vs ∧ e.get 8 = vx ∧ e.get 10 = vy ∧ e.get 16 = .ptr (t3.length + 2) 0 ∧ e.get 17 = .int .i64 i) 5 ?_ ?_
    · refine ⟨.refl _, 0, by omega, ?_, ?_, ?_, ?_, ?_, ?_⟩ <;> (try simp only [XX, CC, Nat.reduceAdd, Nat.reduceSub, Nat.reduceLeDiff, Nat.reduceLT, Nat.reduceEqDiff, reduceIte, ↓reduceIte, Nat.reduceBEq]) <;> rfl
    intro J d e t hJ ⟨hx, i, hi, g4, g7, g8, g10, g16, g17⟩
    have x3t := x34.trans hx
    have q1t := x3t.get_some q1
    rcases Nat.lt_or_ge i 5 with hi5 | hi5
    · refine hround s t (r1, r2) S X Y vs vx vy (t3.length + 2) q e i _ h1 h2 hq5 hqw (hx.get_some hp4) (by omega) (by omega) (by omega) wS wX wY (fun x => by rw [oS, Bool.true_and]) (fun x => by rw [oX, Bool.true_and, iX]) (fun x => by rw [oY, Bool.true_and, iY])
        (rS.ext x3t) (rX.ext x3t) (rY.ext x3t) g4 q1t g7 g8 g10 g16 g17 hi5 ?_
      intro e' l k4 k7 k8 k9 k10 k16 k17
      exact hJ (d - 1) _ _ (by omega) ⟨hx.app _, i + 1, by omega, k4.trans g4, k7.trans g7, k8.trans g8, k10.trans g10, k16.trans g16, k17⟩
    · have : i = 5 := by omega
      subst this
      refine hexit t e _ g17 ?_
      intro e' k4 k7 k8 k10
      have k1t := blkR q1t
      simp only [XX, CC, Nat.reduceAdd, Nat.reduceSub, Nat.reduceLeDiff, Nat.reduceLT, Nat.reduceEqDiff, reduceIte, ↓reduceIte, Nat.reduceBEq, k4.trans g4, k7.trans g7, k8.trans g8, k10.trans g10, k1t]
      refine Run.mono _ _ _ _ _ ?_ (hback _ vy (rY.ext x3t))
      intro r t6 h
      obtain ⟨vb, rfl, o6⟩ := h.yes rfl rfl
      (try simp only [XX, CC, Nat.reduceAdd, Nat.reduceSub, Nat.reduceLeDiff, Nat.reduceLT, Nat.reduceEqDiff, reduceIte, ↓reduceIte, Nat.reduceBEq, k8.trans g8, b00])
      have hsame := same_r t6 vb vx X X (by omega) (o6.rd cR_len) ((rX.ext x3t).ext o6.ext)
      rw [dec_t rfl] at hsame
      refine hsame.use ?_
      (try simp only [XX, CC, Nat.reduceAdd, Nat.reduceSub, Nat.reduceLeDiff, Nat.reduceLT, Nat.reduceEqDiff, reduceIte, ↓reduceIte, Nat.reduceBEq])
      exact ret_drop (k := fun r _ => r = AV.bool true) (x3.trans (x3t.trans o6.ext)) rfl rfl
  · rw [dec_f hc] at hput hdrop
    simp only [r_w03_SpanMembers, XX, CC, Nat.reduceAdd, Nat.reduceSub, Nat.reduceLeDiff, Nat.reduceLT, Nat.reduceEqDiff, reduceIte, ↓reduceIte, Nat.reduceBEq]
    refine (awake_r _).use ?_
    simp only [XX, CC, Nat.reduceAdd, Nat.reduceSub, Nat.reduceLeDiff, Nat.reduceLT, Nat.reduceEqDiff, reduceIte, ↓reduceIte, Nat.reduceBEq, Bool.not_true]
    refine Run.mono _ _ _ _ _ ?_ hb
    intro vs t1 o1
    have x1 : Ext s t1 := Ext.trans ⟨_, rfl⟩ o1.ext
    have q1 : t1[s.length]? = some (.cells true (cR (r1, r2))) := o1.ext.get_some (by simp)
    (try simp only [XX, CC, Nat.reduceAdd, Nat.reduceSub, Nat.reduceLeDiff, Nat.reduceLT, Nat.reduceEqDiff, reduceIte, ↓reduceIte, Nat.reduceBEq])
    refine (sound_r _ vs S (by omega) wS (o1.rd cR_len)).use ?_
    rw [oS]
    simp only [XX, CC, Nat.reduceAdd, Nat.reduceSub, Nat.reduceLeDiff, Nat.reduceLT, Nat.reduceEqDiff, reduceIte, ↓reduceIte, Nat.reduceBEq, Bool.not_true, blkR q1]
    refine Run.mono _ _ _ _ _ ?_ (hput _ vs (o1.rd cR_len))
    intro r t2 h
    obtain ⟨vx, rfl, o2⟩ := h.nope
    have x2 := x1.trans o2.ext
    (try simp only [XX, CC, Nat.reduceAdd, Nat.reduceSub, Nat.reduceLeDiff, Nat.reduceLT, Nat.reduceEqDiff, reduceIte, ↓reduceIte, Nat.reduceBEq, blkR (o2.ext.get_some q1)])
    refine Run.mono _ _ _ _ _ ?_ (hdrop _ vs ((o1.rd cR_len).ext o2.ext))
    intro r t3 h
    obtain ⟨vy, rfl, o3⟩ := h.nope
    have x3 := x2.trans o3.ext
    have q1 := (o2.ext.trans o3.ext).get_some q1
    have k1 := blkR q1
    have e1 := (o2.rd cR_len).len
    have e2 := (o3.rd cR_len).len
    simp only [XX, CC, Nat.reduceAdd, Nat.reduceSub, Nat.reduceLeDiff, Nat.reduceLT, Nat.reduceEqDiff, reduceIte, ↓reduceIte, Nat.reduceBEq, k1]
    refine (cmp_r _ r1 r2).use ?_
    simp only [gt_dec, dec_t (show r2 < r1 by omega), XX, CC, Nat.reduceAdd, Nat.reduceSub, Nat.reduceLeDiff, Nat.reduceLT, Nat.reduceEqDiff, reduceIte, ↓reduceIte, Nat.reduceBEq, b11, e1, e2, List.length_nil, show (((0 : Nat) : Int) == 0) = true from rfl]
    exact ret_drop (k := fun r _ => r = AV.bool true) x3 rfl rfl
end Go.Ev
