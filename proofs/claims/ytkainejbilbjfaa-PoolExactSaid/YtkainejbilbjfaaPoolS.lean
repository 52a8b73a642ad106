import Derived.Test.YtkainejbilbjfaaPoolR
/-! The reference's pool, and PoolExact. -/
namespace Go.Ev
set_option linter.unusedVariables false
set_option linter.unusedSimpArgs false
open Go.Ev.Sp

theorem lessR_snd : ∀ {L S : List (Nat × Nat)}, Snd 340282366920938463463374607431768211456 0 S → (∀ r ∈ L, r.1 ≤ r.2) → Snd 340282366920938463463374607431768211456 0 (lessL S L)
  | [], _, h, _ => h
  | r :: L, S, h, hL => lessR_snd (L := L) (dropL_snd (hL r (by simp)) h) fun q hq => hL q (List.mem_cons_of_mem _ hq)
theorem lessR_mem (x : Nat) : ∀ {L S : List (Nat × Nat)}, Snd 340282366920938463463374607431768211456 0 S → (∀ r ∈ L, r.1 ≤ r.2) → (mem (lessL S L) x ↔ mem S x ∧ ¬ mem L x)
  | [], S, _, _ => by simp [lessL, mem_nil]
  | r :: L, S, h, hL => by
    have hr := hL r (by simp)
    show mem (lessL (dropL r.1 r.2 S) L) x ↔ _
    rw [lessR_mem x (dropL_snd hr h) fun q hq => hL q (List.mem_cons_of_mem _ hq), dropL_mem hr x fun q hq => (Snd.wf h q hq).1, mem_cons]
    constructor
    · rintro ⟨⟨h1, h2⟩, h3⟩; exact ⟨h1, fun h => h.elim h2 h3⟩
    · rintro ⟨h1, h2⟩; exact ⟨⟨h1, fun h => h2 (.inl h)⟩, fun h => h2 (.inr h)⟩
theorem pts_le (l : List Nat) : ∀ r ∈ pts l, r.1 ≤ r.2 := fun r hr => by
  obtain ⟨a, _, rfl⟩ := List.mem_map.1 hr
  exact Nat.le_refl _
theorem less_pts {S : List (Nat × Nat)} (hS : Snd 340282366920938463463374607431768211456 0 S) {l : List Nat} (hl : ∀ a ∈ l, a < 340282366920938463463374607431768211456) : lessL S (pts l) = lessL S (builtL [] (pts l)) := by
  have hP := builtL_snd (set := []) (l := pts l) trivial (pts_wf hl)
  refine Snd.uniq (M := 340282366920938463463374607431768211456) (lo := 0) (lo' := 0) (lessR_snd hS (pts_le l)) (lessL_snd hS hP) fun x => ?_
  rw [lessR_mem x hS (pts_le l), lessL_mem x hS hP, builtL_mem (show Snd 340282366920938463463374607431768211456 0 [] from trivial) (pts_wf hl), mem_nil, false_or]
def AnsR (s : St) (ok : Bool) (l : List (Nat × Nat)) : AV → St → Prop := fun r t => ∃ v', r = .tup [v', .int .i64 (if ok then 0 else 1)] ∧ Ext s t ∧ Rd 4 cR t v' (if ok then l else [])

theorem one12_r (s : St) (a : Nat) : RunD T f_r12_one [aA a] s (aR (a, a)) s := by
  refine run_body (F := r_r12_one) rfl (by simp [r_r12_one]) ?_
  simp only [r_r12_one, XX, CC, Nat.reduceAdd, Nat.reduceSub, Nat.reduceLeDiff, Nat.reduceLT, Nat.reduceEqDiff, reduceIte, ↓reduceIte, Nat.reduceBEq, one_fill]
  exact ret_drop ⟨_, rfl⟩ rfl ⟨rfl, rfl⟩

set_option maxHeartbeats 4000000 in
theorem less12_r (s : St) (v w : AV) (set : List (Nat × Nat)) (tk : List Nat) (hl : set.length < 1000000) (hS : Snd 340282366920938463463374607431768211456 0 set) (hv : Rd 4 cR s v set) (hl' : tk.length < 1000000) (hT : ∀ a ∈ tk, a < 340282366920938463463374607431768211456) (hw : Rd 2 cA s w tk) :
    Run T f_r12_less [v, w] s fun r t => Ext s t ∧ Rd 4 cR t r (lessL set (pts tk)) := by
  refine run_body (F := r_r12_less) rfl (by simp [r_r12_less]) ?_
  simp only [r_r12_less, XX, CC, Nat.reduceAdd, Nat.reduceSub, Nat.reduceLeDiff, Nat.reduceLT, Nat.reduceEqDiff, reduceIte, ↓reduceIte, Nat.reduceBEq]
  refine awp_rounds (fun d e t => Ext s t ∧ ∃ (i : Nat) (vo : AV) (O : List (Nat × Nat)), i + d = tk.length ∧ e.get 0 = vo ∧ e.get 1 = w ∧ e.get 5 = .int .i64 i ∧ Rd 4 cR t vo O ∧ Snd 340282366920938463463374607431768211456 0 O ∧ O.length ≤ set.length + i ∧
    lessL set (pts tk) = lessL O (pts (tk.drop i))) tk.length ?_ ?_
  · refine ⟨.refl s, 0, v, set, by omega, ?_, ?_, ?_, hv, hS, by omega, rfl⟩ <;> (try simp only [XX, CC, Nat.reduceAdd, Nat.reduceSub, Nat.reduceLeDiff, Nat.reduceLT, Nat.reduceEqDiff, reduceIte, ↓reduceIte, Nat.reduceBEq]) <;> rfl
  rintro J d e t hJ ⟨hx, i, vo, O, hi, g0, g1, g5, ho, hs, hsl, hd0⟩
  have hwt := hw.ext hx
  simp only [XX, CC, Nat.reduceAdd, Nat.reduceSub, Nat.reduceLeDiff, Nat.reduceLT, Nat.reduceEqDiff, reduceIte, ↓reduceIte, Nat.reduceBEq, g0, g1, g5, hwt.len]
  by_cases h : i < tk.length
  · obtain ⟨a, ha, hd⟩ := drop_get h
    have haw := hT a (List.mem_of_getElem? ha)
    obtain ⟨b2, o2, h3, h4⟩ := rdA hwt ha
    rw [hd] at hd0
    have hdrop := rdrop_r t vo O a a (by omega) (Snd.toWf hs) haw haw ho
    rw [(sndB_iff (Snd.toWf hs)).2 hs, dec_t (Nat.le_refl a)] at hdrop
    have hdl := (dropL_length1 (Nat.le_refl a) hs).1
    simp only [dec_t (show (i : Int) < tk.length by omega), XX, CC, Nat.reduceAdd, Nat.reduceSub, Nat.reduceLeDiff, Nat.reduceLT, Nat.reduceEqDiff, reduceIte, ↓reduceIte, Nat.reduceBEq, g0, g1, g5, h3, h4]
    refine (one12_r _ a).use ?_
    (try simp only [XX, CC, Nat.reduceAdd, Nat.reduceSub, Nat.reduceLeDiff, Nat.reduceLT, Nat.reduceEqDiff, reduceIte, ↓reduceIte, Nat.reduceBEq])
    refine Run.mono _ _ _ _ _ ?_ hdrop
    intro r t' hh
    obtain ⟨v', rfl, o⟩ := hh.yes rfl rfl
    simp only [XX, CC, Nat.reduceAdd, Nat.reduceSub, Nat.reduceLeDiff, Nat.reduceLT, Nat.reduceEqDiff, reduceIte, ↓reduceIte, Nat.reduceBEq, g5]
    refine hJ (d - 1) _ _ (by omega) ⟨hx.trans o.ext, i + 1, v', dropL a a O, by omega, ?_, ?_, ?_, o.rd cR_len, dropL_snd (Nat.le_refl a) hs, by omega, hd0⟩ <;> (try simp only [XX, CC, Nat.reduceAdd, Nat.reduceSub, Nat.reduceLeDiff, Nat.reduceLT, Nat.reduceEqDiff, reduceIte, ↓reduceIte, Nat.reduceBEq, g0, g1, g5])
    rw [w64_nat (by omega)]
  · rw [List.drop_of_length_le (by omega)] at hd0
    have hd1 : lessL set (pts tk) = O := hd0
    simp only [dec_f (show ¬ (i : Int) < tk.length by omega), XX, CC, Nat.reduceAdd, Nat.reduceSub, Nat.reduceLeDiff, Nat.reduceLT, Nat.reduceEqDiff, reduceIte, ↓reduceIte, Nat.reduceBEq, g0]
    rw [hd1]
    exact .inl ⟨hx, ho⟩

set_option maxHeartbeats 4000000 in
theorem rfree_r (s : St) (v w : AV) (set : List (Nat × Nat)) (tk : List Nat) (hl : set.length < 1000000) (hS : Wf set) (hv : Rd 4 cR s v set) (hl' : tk.length < 1000000) (hT : ∀ a ∈ tk, a < 340282366920938463463374607431768211456) (hw : Rd 2 cA s w tk) :
    Run T f_r12_Free [v, w] s (AnsR s (sndB 0 set) (lessL set (pts tk))) := by
  refine run_body (F := r_r12_Free) rfl (by simp [r_r12_Free]) ?_
  simp only [r_r12_Free, XX, CC, Nat.reduceAdd, Nat.reduceSub, Nat.reduceLeDiff, Nat.reduceLT, Nat.reduceEqDiff, reduceIte, ↓reduceIte, Nat.reduceBEq]
  refine (rsound_r _ v set (by omega) hS hv).use ?_
  cases hs : sndB 0 set
  · simp only [XX, CC, Nat.reduceAdd, Nat.reduceSub, Nat.reduceLeDiff, Nat.reduceLT, Nat.reduceEqDiff, reduceIte, ↓reduceIte, Nat.reduceBEq, Bool.not_false]
    exact .inl ⟨_, rfl, .refl s, Rd.nil⟩
  · simp only [XX, CC, Nat.reduceAdd, Nat.reduceSub, Nat.reduceLeDiff, Nat.reduceLT, Nat.reduceEqDiff, reduceIte, ↓reduceIte, Nat.reduceBEq, Bool.not_true]
    refine Run.mono _ _ _ _ _ ?_ (less12_r _ v w set tk hl ((sndB_iff hS).1 hs) hv hl' hT hw)
    rintro r t ⟨h1, h2⟩
    (try simp only [XX, CC, Nat.reduceAdd, Nat.reduceSub, Nat.reduceLeDiff, Nat.reduceLT, Nat.reduceEqDiff, reduceIte, ↓reduceIte, Nat.reduceBEq])
    exact .inl ⟨_, rfl, h1, h2⟩

set_option maxHeartbeats 4000000 in
theorem rbuild_r (s : St) (v w : AV) (ps : List (Nat × Nat)) (tk : List Nat) (hl : ps.length < 1000000) (hS : Wf ps) (hv : Rd 4 cR s v ps) (hl' : tk.length < 1000000) (hT : ∀ a ∈ tk, a < 340282366920938463463374607431768211456) (hw : Rd 2 cA s w tk) :
    Run T f_r12_Build [v, w] s (AnsR s (ps.all fun r => decide (r.1 ≤ r.2)) (lessL (builtL [] ps) (pts tk))) := by
  refine run_body (F := r_r12_Build) rfl (by simp [r_r12_Build]) ?_
  simp only [r_r12_Build, XX, CC, Nat.reduceAdd, Nat.reduceSub, Nat.reduceLeDiff, Nat.reduceLT, Nat.reduceEqDiff, reduceIte, ↓reduceIte, Nat.reduceBEq]
  refine awp_rounds (fun d e t => Ext s t ∧ ∃ (i : Nat) (vo : AV) (O : List (Nat × Nat)), i + d = ps.length ∧ e.get 0 = v ∧ e.get 1 = w ∧ e.get 6 = vo ∧ e.get 7 = .int .i64 i ∧ Rd 4 cR t vo O ∧ Snd 340282366920938463463374607431768211456 0 O ∧ O.length ≤ i ∧
    (ps.all fun r => decide (r.1 ≤ r.2)) = ((ps.drop i).all fun r => decide (r.1 ≤ r.2)) ∧ builtL [] ps = builtL O (ps.drop i)) ps.length ?_ ?_
  · refine ⟨⟨_, rfl⟩, 0, .sl s.length 0 4 0 (some 0), [], by omega, ?_, ?_, ?_, ?_, rd_lit get_last cR_len rfl, trivial, by simp, rfl, rfl⟩ <;> (try simp only [XX, CC, Nat.reduceAdd, Nat.reduceSub, Nat.reduceLeDiff, Nat.reduceLT, Nat.reduceEqDiff, reduceIte, ↓reduceIte, Nat.reduceBEq]) <;> rfl
  rintro J d e t hJ ⟨hx, i, vo, O, hi, g0, g1, g6, g7, ho, hs, hsl, hall, hd0⟩
  have hvt := hv.ext hx
  simp only [XX, CC, Nat.reduceAdd, Nat.reduceSub, Nat.reduceLeDiff, Nat.reduceLT, Nat.reduceEqDiff, reduceIte, ↓reduceIte, Nat.reduceBEq, g0, g1, g6, g7, hvt.len]
  by_cases h : i < ps.length
  · obtain ⟨⟨a, b⟩, hq, hd⟩ := drop_get h
    have hqw := hS.get hq
    obtain ⟨b2, o2, h3, h4⟩ := rdR hvt hq
    have hwO := Snd.toWf hs
    rw [hd] at hd0 hall
    rw [List.all_cons] at hall
    have hput := rput_r t vo O a b (by omega) hwO hqw.1 hqw.2 ho
    rw [(sndB_iff hwO).2 hs, Bool.true_and] at hput
    have hor : decide (a ≤ b) = true ∨ decide (a ≤ b) = false := by cases decide (a ≤ b) <;> simp
    rcases hor with hdc | hdc
    all_goals rw [hdc] at hput
    all_goals rw [show decide ((a, b).1 ≤ (a, b).2) = decide (a ≤ b) from rfl, hdc] at hall
    all_goals simp only [dec_t (show (i : Int) < ps.length by omega), XX, CC, Nat.reduceAdd, Nat.reduceSub, Nat.reduceLeDiff, Nat.reduceLT, Nat.reduceEqDiff, reduceIte, ↓reduceIte, Nat.reduceBEq, g0, g1, g6, g7, h3, h4]
    all_goals refine Run.mono _ _ _ _ _ ?_ hput
    all_goals intro r t' hh
    · have hc : a ≤ b := by simpa using hdc
      obtain ⟨v', rfl, o⟩ := hh.yes rfl (by rw [putL_eq hc hs, List.nil_append])
      have hpl := putS_length O a b
      simp only [XX, CC, Nat.reduceAdd, Nat.reduceSub, Nat.reduceLeDiff, Nat.reduceLT, Nat.reduceEqDiff, reduceIte, ↓reduceIte, Nat.reduceBEq, g7, show ((0 : Int) == 0) = true from rfl, Bool.not_true]
      refine hJ (d - 1) _ _ (by omega) ⟨hx.trans o.ext, i + 1, v', putS a b O, by omega, ?_, ?_, ?_, ?_, o.rd cR_len, putS_snd hc hqw.2 (Nat.zero_le _) hs, by omega, ?_, ?_⟩ <;> (try simp only [XX, CC, Nat.reduceAdd, Nat.reduceSub, Nat.reduceLeDiff, Nat.reduceLT, Nat.reduceEqDiff, reduceIte, ↓reduceIte, Nat.reduceBEq, g0, g1, g6, g7])
      · rw [w64_nat (by omega)]
      · rw [hall, Bool.true_and]
      · rw [hd0, builtL_cons, if_pos hc]
    · obtain ⟨v', rfl, o⟩ := hh.nope
      simp only [XX, CC, Nat.reduceAdd, Nat.reduceSub, Nat.reduceLeDiff, Nat.reduceLT, Nat.reduceEqDiff, reduceIte, ↓reduceIte, Nat.reduceBEq, show ((1 : Int) == 0) = false from rfl, Bool.not_false]
      rw [hall, Bool.false_and]
      exact .inl ⟨_, rfl, hx.trans o.ext, Rd.nil⟩
  · rw [List.drop_of_length_le (by omega)] at hd0 hall
    have hd1 : builtL [] ps = O := hd0
    have hall1 : (ps.all fun r => decide (r.1 ≤ r.2)) = true := hall
    simp only [dec_f (show ¬ (i : Int) < ps.length by omega), XX, CC, Nat.reduceAdd, Nat.reduceSub, Nat.reduceLeDiff, Nat.reduceLT, Nat.reduceEqDiff, reduceIte, ↓reduceIte, Nat.reduceBEq, g1, g6]
    refine Run.mono _ _ _ _ _ ?_ (less12_r _ vo w O tk (by omega) hs ho hl' hT (hw.ext hx))
    rintro r t' ⟨h1, h2⟩
    (try simp only [XX, CC, Nat.reduceAdd, Nat.reduceSub, Nat.reduceLeDiff, Nat.reduceLT, Nat.reduceEqDiff, reduceIte, ↓reduceIte, Nat.reduceBEq])
    rw [hall1, hd1]
    exact .inl ⟨_, rfl, hx.trans h1, h2⟩

set_option maxHeartbeats 4000000 in
theorem rpick_r (s : St) (v : AV) (set : List (Nat × Nat)) (d : Nat) (hd : d < 18446744073709551616) (hl : set.length < 1000000) (hw : Wf set) (hv : Rd 4 cR s v set) : RunD T f_r12_Pick [v, .int .u64 d] s (pickV set d) s := by
  have hcm : cnt set % 340282366920938463463374607431768211456 < 340282366920938463463374607431768211456 := Nat.mod_lt _ (by decide)
  have hdM : d < 340282366920938463463374607431768211456 := by omega
  have kd := fun (x y : Blk) l => (blkA (t := s ++ (x :: y :: .cells true (cA d) :: l)) (b := s.length + 2) (q := d) (by simp)).1
  have nthat : ∀ n, ∃ (x : Nat) (b : Bool), nthV set n = .tup [aA x, .bool b] := nthV_at set
  have hrc := cnt_same hw
  refine run_body (F := r_r12_Pick) rfl (by simp [r_r12_Pick]) ?_
  have key : ∀ (c : Nat) (all : Bool), rcntV set = .tup [aA c, .bool all] → c < 340282366920938463463374607431768211456 → (∃ n : Nat, n < 340282366920938463463374607431768211456 ∧ ((all = true ∧ n = d) ∨ (all = false ∧ c ≠ 0 ∧ n = d % c)) ∧ pickV set d = nthV set n) ∨ (all = false ∧ c = 0 ∧ pickV set d = .tup [aA 0, .bool false]) →
      awp (Run T) r_r12_Pick.body (endK r_r12_Pick.res s fun a t => a = pickV set d ∧ t = s) [v, .int .u64 d] s := by
    intro c all hcv hc hcase
    have kc := fun (x : Blk) l => (blkA (t := s ++ (x :: .cells true (cA c) :: l)) (b := s.length + 1) (q := c) (by simp)).1
    rcases hcase with ⟨n, hn, ⟨ha, hnd⟩ | ⟨ha, hc0, hnd⟩, hp⟩ | ⟨ha, hc0, hp⟩
    · subst ha; subst hnd
      obtain ⟨x, b, hx⟩ := nthat n
      simp only [r_r12_Pick, XX, CC, Nat.reduceAdd, Nat.reduceSub, Nat.reduceLeDiff, Nat.reduceLT, Nat.reduceEqDiff, reduceIte, ↓reduceIte, Nat.reduceBEq]
      refine (rcount_r _ v set (by omega) hw (hv.ext ⟨_, rfl⟩)).use ?_
      rw [hcv]
      simp only [XX, CC, Nat.reduceAdd, Nat.reduceSub, Nat.reduceLeDiff, Nat.reduceLT, Nat.reduceEqDiff, reduceIte, ↓reduceIte, Nat.reduceBEq, cA_small hd, Bool.not_true, kd]
      refine (rnth_r _ v set n hn (by omega) hw (hv.ext ⟨_, rfl⟩)).use ?_
      rw [hp, hx]
      simp only [XX, CC, Nat.reduceAdd, Nat.reduceSub, Nat.reduceLeDiff, Nat.reduceLT, Nat.reduceEqDiff, reduceIte, ↓reduceIte, Nat.reduceBEq]
      exact ret_drop ⟨_, rfl⟩ rfl ⟨rfl, rfl⟩
    · subst ha
      obtain ⟨x, b, hx⟩ := nthat n
      have kn := fun (x y : Blk) l => (blkA (t := s ++ (x :: y :: .cells true (cA n) :: l)) (b := s.length + 2) (q := n) (by simp)).1
      have kn3 := fun (x y z : Blk) l => (blkA (t := s ++ (x :: y :: z :: .cells true (cA n) :: l)) (b := s.length + 3) (q := n) (by simp)).1
      simp only [r_r12_Pick, XX, CC, Nat.reduceAdd, Nat.reduceSub, Nat.reduceLeDiff, Nat.reduceLT, Nat.reduceEqDiff, reduceIte, ↓reduceIte, Nat.reduceBEq]
      refine (rcount_r _ v set (by omega) hw (hv.ext ⟨_, rfl⟩)).use ?_
      rw [hcv]
      simp only [XX, CC, Nat.reduceAdd, Nat.reduceSub, Nat.reduceLeDiff, Nat.reduceLT, Nat.reduceEqDiff, reduceIte, ↓reduceIte, Nat.reduceBEq, cA_small hd, Bool.not_false, kd, kc]
      refine (rmod_r _ d c hdM hc).use ?_
      rw [if_neg hc0, ← hnd]
      simp only [XX, CC, Nat.reduceAdd, Nat.reduceSub, Nat.reduceLeDiff, Nat.reduceLT, Nat.reduceEqDiff, reduceIte, ↓reduceIte, Nat.reduceBEq, Bool.not_true, kn3, kn]
      refine (rnth_r _ v set n hn (by omega) hw (hv.ext ⟨_, rfl⟩)).use ?_
      rw [hp, hx]
      simp only [XX, CC, Nat.reduceAdd, Nat.reduceSub, Nat.reduceLeDiff, Nat.reduceLT, Nat.reduceEqDiff, reduceIte, ↓reduceIte, Nat.reduceBEq]
      exact ret_drop ⟨_, rfl⟩ rfl ⟨rfl, rfl⟩
    · subst ha; subst hc0
      simp only [r_r12_Pick, XX, CC, Nat.reduceAdd, Nat.reduceSub, Nat.reduceLeDiff, Nat.reduceLT, Nat.reduceEqDiff, reduceIte, ↓reduceIte, Nat.reduceBEq]
      refine (rcount_r _ v set (by omega) hw (hv.ext ⟨_, rfl⟩)).use ?_
      rw [hcv]
      simp only [XX, CC, Nat.reduceAdd, Nat.reduceSub, Nat.reduceLeDiff, Nat.reduceLT, Nat.reduceEqDiff, reduceIte, ↓reduceIte, Nat.reduceBEq, cA_small hd, Bool.not_false, kd, kc]
      refine (rmod_r _ d 0 hdM hc).use ?_
      rw [if_pos rfl, hp]
      simp only [XX, CC, Nat.reduceAdd, Nat.reduceSub, Nat.reduceLeDiff, Nat.reduceLT, Nat.reduceEqDiff, reduceIte, ↓reduceIte, Nat.reduceBEq, Bool.not_false]
      exact ret_drop ⟨_, rfl⟩ rfl ⟨rfl, rfl⟩
  by_cases hs : sndB 0 set = true
  · have hcv : rcntV set = .tup [aA (cnt set % 340282366920938463463374607431768211456), .bool (decide (0 < set.length ∧ cnt set % 340282366920938463463374607431768211456 = 0))] := by rw [← hrc]; unfold cntV; rw [if_pos hs]
    by_cases hall : 0 < set.length ∧ cnt set % 340282366920938463463374607431768211456 = 0
    · rw [dec_t hall] at hcv
      exact key _ _ hcv hcm (.inl ⟨d, hdM, .inl ⟨rfl, rfl⟩, by unfold pickV; rw [if_pos hs, if_pos hall]⟩)
    · rw [dec_f hall] at hcv
      by_cases h0 : cnt set % 340282366920938463463374607431768211456 = 0
      · exact key _ _ hcv hcm (.inr ⟨rfl, h0, by unfold pickV; rw [if_pos hs, if_neg hall, if_pos h0]⟩)
      · exact key _ _ hcv hcm (.inl ⟨d % (cnt set % 340282366920938463463374607431768211456), Nat.lt_of_lt_of_le (Nat.mod_lt _ (by omega)) (by omega), .inr ⟨rfl, h0, rfl⟩, by unfold pickV; rw [if_pos hs, if_neg hall, if_neg h0]⟩)
  · have hcv : rcntV set = .tup [aA 0, .bool false] := by rw [← hrc]; unfold cntV; rw [if_neg hs]
    exact key _ _ hcv (by decide) (.inr ⟨rfl, rfl, by unfold pickV; rw [if_neg hs]⟩)
end Go.Ev
