import Derived.Test.YtljbogpfgeiipaaZBuddyRow5
import Derived.Test.YtljbogpfgeiipaaZBuddyRow2
import Derived.Test.YtljbogpfgeiipaaZBuddyRow3
/-! buddy: Take. -/
namespace Go.Ev
set_option linter.unusedVariables false
set_option linter.unusedSimpArgs false
open Go.Ev.So Go.Ev.Bu

/-- What Take answers. -/
def AnsT (s : St) (x : List Pfx × Pfx × Int) (a : AV) (t : St) : Prop := ∃ r, a = .tup [r, aP x.2.1, .int .i64 x.2.2] ∧ Out 3 cP s x.1 r t
theorem rett_no {s t : St} {c : Int} {x : List Pfx × Pfx × Int} (hx : Ext s t) (e : x = ([], (0, 0), c)) : Ret s (.tup [.nils, aP (0, 0), .int .i64 c]) t (AnsT s x) :=
  ret_ownL (n := s.length) .nil (Nat.le_refl _) hx cP_un rfl fun v' s' h => ⟨v', by rw [e], by rw [e]; exact h⟩
def bcode : Option (Nat × Pfx) → Int
  | none => -1
  | some q => q.1
theorem snd_mem_Pf {w : Pfx} {l : List Pfx} (hp : ∀ p ∈ l, Pf p) {j : Nat} {q : Pfx} (h : l[j]? = some q) : Pf q := hp q (List.mem_of_getElem? h)

def takeC : RC := r_buddy_Take.body.snd.snd.snd.snd
set_option maxHeartbeats 2000000 in
theorem take_tail (s t : St) (e : Env) (v : AV) (w : Pfx) (l : List Pfx) (bits : Int) (bo : Option (Nat × Pfx)) (hw : Pf w) (hl : l.length < 1000000) (hp : ∀ p ∈ l, Pf p) (hv : Rd 3 cP s v l)
    (hc : sndB w none l = true) (hb1 : w.2 ≤ bits) (hb2 : bits ≤ 128) (hbo : best l bits = bo)
    (hx : Ext (s ++ [.cells true (cP w), .cells true (cP (0, 0))]) t) (g1 : e.get 1 = v) (g2 : e.get 2 = .int .i64 bits) (g7 : e.get 7 = .ptr (s.length + 1) 0) (g9 : e.get 9 = .int .i64 (bcode bo)) :
    awp (Run T) takeC (endK [.tmp 6, .cell (some 3) 7, .tmp 8] s (AnsT s (takeT w l bits))) e t := by
  have htl := hx.len
  simp at htl
  have hxs : Ext s t := by obtain ⟨r, rfl⟩ := hx; exact ⟨_, by rw [List.append_assoc]⟩
  have hT : takeT w l bits = match best l bits with
    | none => ([], (0, 0), 110)
    | some q => (subL w l [(q.2.1, bits)], (q.2.1, bits), 0) := by
    unfold takeT
    rw [if_pos ⟨hc, hb1, hb2⟩]
    cases best l bits <;> rfl
  rw [hbo] at hT
  have h7 := hx.at (b := s.length + 1) (B := .cells true (cP (0, 0))) (by simp)
  cases bo with
  | none =>
    have hst := stP (y := (0, 0)) h7 []
    simp only [List.append_nil] at hst
    have kz := (blkP (key_set (t := t) (b := s.length + 1) (x := .cells true (cP (0, 0))) (by omega))).1
    simp only [takeC, RC.snd, r_buddy_Take, XX, CC, YY, Nat.reduceAdd, Nat.reduceSub, Nat.reduceLeDiff, Nat.reduceLT, Nat.reduceEqDiff, reduceIte, ↓reduceIte, Nat.reduceBEq, PP, g9, g7, bcode, show decide ((-1 : Int) < 0) = true from rfl, cP_0, hst, kz]
    exact rett_no (hxs.set (by omega) _) hT
  | some q =>
    obtain ⟨j, q⟩ := q
    obtain ⟨hj1, hj2, hj3⟩ := best_at hbo
    simp only at hj1 hj2 hj3 hT
    have hS := (snd_iff hp).1 hc
    have hqs := hS.2.1.so q (List.mem_of_getElem? hj2)
    have hqp := hp q (List.mem_of_getElem? hj2)
    obtain ⟨hps, hpc⟩ := part_so (bits := bits) hqs hj3 hb2
    have hpp : Pf (q.1, bits) := Pf_of hps hqp.1
    obtain ⟨b, o, j1, _, j2, _, _, j4, _⟩ := rdP (hv.ext hxs) hj2
    have kp := fun (l : List Blk) => (blkP (t := t ++ (.cells true (cP (q.1, bits)) :: l)) (b := t.length) (q := (q.1, bits)) (by simp)).1
    simp only [takeC, RC.snd, r_buddy_Take, XX, CC, YY, Nat.reduceAdd, Nat.reduceSub, Nat.reduceLeDiff, Nat.reduceLT, Nat.reduceEqDiff, reduceIte, ↓reduceIte, Nat.reduceBEq, PP, g1, g2, g9, g7, bcode, dec_f (show ¬ (j : Int) < 0 by omega), j1, j2, Nat.add_zero, fill_P, fill_P', cP_cell, set_P]
    refine drw_in [] rfl ?_
    simp only [List.append_nil, DD, CC, YY, Nat.reduceAdd, Nat.reduceSub, Nat.reduceLeDiff, Nat.reduceLT, Nat.reduceEqDiff, reduceIte, ↓reduceIte, Nat.reduceBEq, PP, g1, g2, g9, bcode, kp]
    refine dr_calln (without_r _ v l j q (q.1, bits) hl ((hv.ext hxs).ext ⟨_, rfl⟩) hj2 hqp hpp hpc) (fun v t h => by obtain ⟨k, h, _⟩ := h; exact h.ext) (by simp) (by simp) ?_
    rintro r t2 ⟨k, ho, hk1, hk2⟩
    have hk := without_sub hS hj2 hpc hk1 hk2
    have hx2 := ho.ext
    have kp2 := (blkP (t := t2) (b := t.length) (q := (q.1, bits)) (hx2.at (by simp))).1
    have h72 : t2[s.length + 1]? = some (.cells true (cP (0, 0))) := hx2.at (by rw [List.getElem?_append_left (by omega)]; exact h7)
    have hst := stP (y := (q.1, bits)) h72 []
    simp only [List.append_nil] at hst
    have hlo : ldOk [3] [(3, t ++ [.cells true (cP (q.1, bits))], t2)] t.length = True := by
      simp only [ldOk, eq_iff_iff, iff_true]
      intro a ha p' q' hm
      simp only [List.mem_cons, List.not_mem_nil, or_false, Prod.mk.injEq] at ha hm
      obtain ⟨_, rfl, rfl⟩ := hm
      rw [hx2.get (by simp)]
    have h2l := hx2.len
    simp at h2l
    have kz := (blkP (key_set (t := t2) (b := s.length + 1) (x := .cells true (cP (q.1, bits))) (by omega))).1
    simp only [DD, CC, YY, Nat.reduceAdd, Nat.reduceSub, Nat.reduceLeDiff, Nat.reduceLT, Nat.reduceEqDiff, reduceIte, ↓reduceIte, Nat.reduceBEq, PP, kp2, hlo, true_and, g7, hst, kz]
    have hxs2 : Ext s (t2.set (s.length + 1) (.cells true (cP (q.1, bits)))) := ((hxs.app _).trans hx2).set (by omega) _
    have ho2 : Own (s.length + 2) 3 cP (t2.set (s.length + 1) (.cells true (cP (q.1, bits)))) r k := (ho.own.mono (m := s.length + 2) (by simp; omega)).keep fun i hi _ => by rw [List.getElem?_set, if_neg (by omega)]
    refine ret_ownL ho2 (by omega) hxs2 cP_un rfl fun v' s' h => ⟨v', ?_, ?_⟩
    · rw [hT]
    · rw [hT]; simp only; rw [← hk]; exact h

set_option maxHeartbeats 4000000 in
theorem take_r (s : St) (v : AV) (w : Pfx) (l : List Pfx) (bits : Int) (hw : Pf w) (hl : l.length < 1000000) (hp : ∀ p ∈ l, Pf p) (hv : Rd 3 cP s v l) :
    Run T f_buddy_Take [aP w, v, .int .i64 bits] s (AnsT s (takeT w l bits)) := by
  refine run_body (F := r_buddy_Take) rfl (by simp [r_buddy_Take]) ?_
  obtain ⟨TAIL, hT⟩ : ∃ c, c = takeC := ⟨_, rfl⟩
  have htail := take_tail
  rw [← hT] at htail
  have hbody : r_buddy_Take.body = .seq r_buddy_Take.body.fst (.seq r_buddy_Take.body.snd.fst (.seq r_buddy_Take.body.snd.snd.fst (.seq r_buddy_Take.body.snd.snd.snd.fst TAIL))) := by rw [hT]; rfl
  rw [hbody]
  have k := fun (t : St) (l : List Blk) => blkP (t := t ++ (.cells true (cP w) :: l)) (b := t.length) (q := w) (by simp)
  have kw := fun t l => (k t l).1
  have kw3 := fun t l => (k t l).2.2
  have kz := fun (t : St) (x : Blk) (l : List Blk) => (blkP (t := t ++ (x :: .cells true (cP (0, 0)) :: l)) (b := t.length + 1) (q := (0, 0)) (by simp)).1
  have hvt : Rd 3 cP (s ++ [.cells true (cP w), .cells true [AV.int .u64 0, .int .u64 0, .int .i64 0]]) v l := hv.ext ⟨_, rfl⟩
  simp only [r_buddy_Take, RC.fst, RC.snd, XX, CC, YY, Nat.reduceAdd, Nat.reduceSub, Nat.reduceLeDiff, Nat.reduceLT, Nat.reduceEqDiff, reduceIte, ↓reduceIte, Nat.reduceBEq, PP, kw]
  refine (sound11_r _ v w l hw (by omega) hp hvt).use ?_
  cases c : sndB w none l with
  | false =>
    simp only [XX, CC, YY, Nat.reduceAdd, Nat.reduceSub, Nat.reduceLeDiff, Nat.reduceLT, Nat.reduceEqDiff, reduceIte, ↓reduceIte, Nat.reduceBEq, PP, Bool.not_false, gv_ft, cP_0, cP_cell, set_PP, kz]
    exact rett_no ⟨_, rfl⟩ (by unfold takeT; rw [if_neg (by rw [c]; simp)])
  | true =>
    by_cases c1 : bits < w.2
    · simp only [XX, CC, YY, Nat.reduceAdd, Nat.reduceSub, Nat.reduceLeDiff, Nat.reduceLT, Nat.reduceEqDiff, reduceIte, ↓reduceIte, Nat.reduceBEq, PP, Bool.not_true, gv_ff, gv_ft, kw3, dec_t c1, cP_0, cP_cell, set_PP, kz]
      exact rett_no ⟨_, rfl⟩ (by unfold takeT; rw [if_neg (fun h => by have := h.2.1; omega)])
    by_cases c2 : bits > 128
    · simp only [XX, CC, YY, Nat.reduceAdd, Nat.reduceSub, Nat.reduceLeDiff, Nat.reduceLT, Nat.reduceEqDiff, reduceIte, ↓reduceIte, Nat.reduceBEq, PP, Bool.not_true, gv_ff, gv_ft, kw3, dec_f c1, dec_t c2, cP_0, cP_cell, set_PP, kz]
      exact rett_no ⟨_, rfl⟩ (by unfold takeT; rw [if_neg (fun h => by have := h.2.2; omega)])
    have hvz : Rd 3 cP (s ++ [.cells true (cP w), .cells true (cP (0, 0))]) v l := hvt
    have htail' := fun e t bo (hbo : best l bits = bo) (hx : Ext (s ++ [.cells true (cP w), .cells true (cP (0, 0))]) t) => htail s t e v w l bits bo hw hl hp hv c (by omega) (by omega) hbo hx
    clear htail hT hbody
    simp only [XX, CC, YY, Nat.reduceAdd, Nat.reduceSub, Nat.reduceLeDiff, Nat.reduceLT, Nat.reduceEqDiff, reduceIte, ↓reduceIte, Nat.reduceBEq, PP, Bool.not_true, gv_ff, gv_ft, kw3, dec_f c1, dec_f c2, hv.len, cP_0]
    refine awp_rounds (fun d e t => ∃ (i : Nat) (bo : Option (Nat × Pfx)), Ext (s ++ [.cells true (cP w), .cells true (cP (0, 0))]) t ∧ i + d = l.length ∧ e.get 1 = v ∧ e.get 2 = .int .i64 bits ∧ e.get 7 = .ptr (s.length + 1) 0 ∧ e.get 9 = .int .i64 (bcode bo) ∧ e.get 28 = v ∧ e.get 29 = .int .i64 l.length ∧ e.get 30 = .int .i64 i ∧
      bestOK l bits i bo ∧ best l bits = bestG bits (l.drop i) i bo) l.length ?_ ?_
    · refine ⟨0, none, .refl _, by omega, ?_, ?_, ?_, ?_, ?_, ?_, ?_, (fun q h => by cases h), rfl⟩ <;> (try simp only [XX, CC, YY, Nat.reduceAdd, Nat.reduceSub, Nat.reduceLeDiff, Nat.reduceLT, Nat.reduceEqDiff, reduceIte, ↓reduceIte, Nat.reduceBEq, PP, hv.len]) <;> rfl
    rintro J d e t hJ ⟨i, bo, hx, hi, g1, g2, g7, g9, g28, g29, g30, hok, hbe⟩
    have hxs : Ext s t := by obtain ⟨r, rfl⟩ := hx; exact ⟨_, by rw [List.append_assoc]⟩
    have hvt2 := hv.ext hxs
    by_cases h : i < l.length
    · obtain ⟨q, hq, hd⟩ := drop_get h
      obtain ⟨b, o, h1, h2, _⟩ := rdP hvt2 hq
      rw [hd] at hbe
      simp only [bestG] at hbe
      have kq := fun (l : List Blk) => (blkP (t := t ++ (.cells true (cP q) :: l)) (b := t.length) (q := q) (by simp)).2.2
      have next : ∀ (e' : Env) (bo' : Option (Nat × Pfx)), bo' = (if q.2 ≤ bits ∧ (∀ p, bo = some p → p.2.2 < q.2) then some (i, q) else bo) → e'.get 1 = v → e'.get 2 = .int .i64 bits → e'.get 7 = .ptr (s.length + 1) 0 → e'.get 9 = .int .i64 (bcode bo') → e'.get 28 = v → e'.get 29 = .int .i64 l.length → e'.get 30 = .int .i64 (i + 1 : Nat) → J e' (t ++ [.cells true (cP q)]) := by
        intro e' bo' hb q1 q2 q7 q9 q28 q29 q30
        refine hJ (d - 1) _ _ (by omega) ⟨i + 1, bo', hx.app _, by omega, q1, q2, q7, q9, q28, q29, q30, ?_, by rw [hb]; exact hbe⟩
        rw [hb]
        intro p hp'
        split at hp'
        · rename_i hc
          cases hp'
          exact ⟨Nat.lt_succ_self _, hq, hc.1⟩
        · obtain ⟨a1, a2, a3⟩ := hok p hp'
          exact ⟨by omega, a2, a3⟩
      have em1 : q.2 ≤ bits ∨ ¬ q.2 ≤ bits := Classical.em _
      have hw1 : IntKind.i64.wrap ((i : Int) + 1) = ((i + 1 : Nat) : Int) := by rw [w64_in (by omega) (by omega)]; omega
      rcases em1 with c3 | c3
      · cases bo with
        | none =>
          simp only [dec_t (show (i : Int) < l.length by omega), XX, CC, YY, Nat.reduceAdd, Nat.reduceSub, Nat.reduceLeDiff, Nat.reduceLT, Nat.reduceEqDiff, reduceIte, ↓reduceIte, Nat.reduceBEq, PP, g28, g29, g30, h1, h2, cP_cell, set_P, set_PP]
          refine drw_in [] rfl ?_
          simp only [List.append_nil, DD, CC, YY, Nat.reduceAdd, Nat.reduceSub, Nat.reduceLeDiff, Nat.reduceLT, Nat.reduceEqDiff, reduceIte, ↓reduceIte, Nat.reduceBEq, PP, g2, g9, kq, dec_t c3, gv_tt, bcode, show decide ((-1 : Int) < 0) = true from rfl, gv_ft, g30, hw1]
          refine next _ (some (i, q)) (by rw [if_pos ⟨c3, fun p h => by cases h⟩]) ?_ ?_ ?_ ?_ ?_ ?_ ?_ <;> (try simp only [XX, CC, YY, Nat.reduceAdd, Nat.reduceSub, Nat.reduceLeDiff, Nat.reduceLT, Nat.reduceEqDiff, reduceIte, ↓reduceIte, Nat.reduceBEq, PP, g1, g2, g7, g9, g28, g29, g30, bcode])
        | some p =>
          obtain ⟨j, p⟩ := p
          obtain ⟨a1, a2, a3⟩ := hok (j, p) rfl
          simp only at a1 a2 a3
          obtain ⟨b0, o0, m1, _, _, _, _, _, m2⟩ := rdP hvt2 a2
          have em2 : q.2 > p.2 ∨ ¬ q.2 > p.2 := Classical.em _
          rcases em2 with c4 | c4
          · simp only [dec_t (show (i : Int) < l.length by omega), XX, CC, YY, Nat.reduceAdd, Nat.reduceSub, Nat.reduceLeDiff, Nat.reduceLT, Nat.reduceEqDiff, reduceIte, ↓reduceIte, Nat.reduceBEq, PP, g28, g29, g30, h1, h2, cP_cell, set_P, set_PP]
            refine drw_in [] rfl ?_
            simp only [List.append_nil, DD, CC, YY, Nat.reduceAdd, Nat.reduceSub, Nat.reduceLeDiff, Nat.reduceLT, Nat.reduceEqDiff, reduceIte, ↓reduceIte, Nat.reduceBEq, PP, g1, g2, g9, kq, dec_t c3, gv_tt, bcode, dec_f (show ¬ (j : Int) < 0 by omega), gv_ff, m1, m2, dec_t c4, g30, hw1]
            refine next _ (some (i, q)) (by rw [if_pos ⟨c3, fun p' h => by cases h; exact c4⟩]) ?_ ?_ ?_ ?_ ?_ ?_ ?_ <;> (try simp only [XX, CC, YY, Nat.reduceAdd, Nat.reduceSub, Nat.reduceLeDiff, Nat.reduceLT, Nat.reduceEqDiff, reduceIte, ↓reduceIte, Nat.reduceBEq, PP, g1, g2, g7, g9, g28, g29, g30, bcode])
          · simp only [dec_t (show (i : Int) < l.length by omega), XX, CC, YY, Nat.reduceAdd, Nat.reduceSub, Nat.reduceLeDiff, Nat.reduceLT, Nat.reduceEqDiff, reduceIte, ↓reduceIte, Nat.reduceBEq, PP, g28, g29, g30, h1, h2, cP_cell, set_P, set_PP]
            refine drw_in [] rfl ?_
            simp only [List.append_nil, DD, CC, YY, Nat.reduceAdd, Nat.reduceSub, Nat.reduceLeDiff, Nat.reduceLT, Nat.reduceEqDiff, reduceIte, ↓reduceIte, Nat.reduceBEq, PP, g1, g2, g9, kq, dec_t c3, gv_tt, bcode, dec_f (show ¬ (j : Int) < 0 by omega), gv_ff, m1, m2, dec_f c4, g30, hw1]
            refine next _ (some (j, p)) (by rw [if_neg (fun h => c4 (h.2 _ rfl))]) ?_ ?_ ?_ ?_ ?_ ?_ ?_ <;> (try simp only [XX, CC, YY, Nat.reduceAdd, Nat.reduceSub, Nat.reduceLeDiff, Nat.reduceLT, Nat.reduceEqDiff, reduceIte, ↓reduceIte, Nat.reduceBEq, PP, g1, g2, g7, g9, g28, g29, g30, bcode])
      · simp only [dec_t (show (i : Int) < l.length by omega), XX, CC, YY, Nat.reduceAdd, Nat.reduceSub, Nat.reduceLeDiff, Nat.reduceLT, Nat.reduceEqDiff, reduceIte, ↓reduceIte, Nat.reduceBEq, PP, g28, g29, g30, h1, h2, cP_cell, set_P, set_PP]
        refine drw_in [] rfl ?_
        simp only [List.append_nil, DD, CC, YY, Nat.reduceAdd, Nat.reduceSub, Nat.reduceLeDiff, Nat.reduceLT, Nat.reduceEqDiff, reduceIte, ↓reduceIte, Nat.reduceBEq, PP, g2, g9, kq, dec_f c3, gv_tf, gv_u, g30, hw1]
        refine next _ bo (by rw [if_neg (fun h => c3 h.1)]) ?_ ?_ ?_ ?_ ?_ ?_ ?_ <;> (try simp only [XX, CC, YY, Nat.reduceAdd, Nat.reduceSub, Nat.reduceLeDiff, Nat.reduceLT, Nat.reduceEqDiff, reduceIte, ↓reduceIte, Nat.reduceBEq, PP, g1, g2, g7, g9, g28, g29, g30, bcode])
    · rw [List.drop_of_length_le (by omega)] at hbe
      simp only [dec_f (show ¬ (i : Int) < l.length by omega), XX, CC, YY, Nat.reduceAdd, Nat.reduceSub, Nat.reduceLeDiff, Nat.reduceLT, Nat.reduceEqDiff, reduceIte, ↓reduceIte, Nat.reduceBEq, PP, g29, g30]
      refine htail' _ _ bo hbe hx ?_ ?_ ?_ ?_ <;> (try simp only [XX, CC, YY, Nat.reduceAdd, Nat.reduceSub, Nat.reduceLeDiff, Nat.reduceLT, Nat.reduceEqDiff, reduceIte, ↓reduceIte, Nat.reduceBEq, PP, g1, g2, g7, g9])
end Go.Ev

/-! The reference's blocks: met, covered, pair, rest, Sound. -/
namespace Go.Ev
set_option linter.unusedVariables false
set_option linter.unusedSimpArgs false
open Go.Ev.So Go.Ev.Bu

theorem rmet_r (s : St) (v : AV) (l : List Pfx) (b : Pfx) (hb : Pf b) (hl : l.length < 1000000000) (hp : ∀ p ∈ l, Pf p) (hv : Rd 3 cP s v l) : RunD T f_r11_met [v, aP b] s (.bool (metB l b)) s := by
  refine run_body (F := r_r11_met) rfl (by simp [r_r11_met]) ?_
  have kb := (blkP (t := s ++ [.cells true (cP b)]) (b := s.length) (q := b) (by simp)).1
  have hvt : Rd 3 cP (s ++ [.cells true (cP b)]) v l := hv.ext ⟨_, rfl⟩
  simp only [r_r11_met, XX, CC, YY, Nat.reduceAdd, Nat.reduceSub, Nat.reduceLeDiff, Nat.reduceLT, Nat.reduceEqDiff, reduceIte, ↓reduceIte, Nat.reduceBEq, PP, hv.len]
  refine awp_rounds (fun d e t => t = s ++ [.cells true (cP b)] ∧ ∃ i : Nat, i + d = l.length ∧ e.get 0 = v ∧ e.get 3 = .ptr s.length 0 ∧ e.get 5 = .int .i64 i ∧ metB l b = metB (l.drop i) b) l.length ?_ ?_
  · refine ⟨rfl, 0, by omega, ?_, ?_, ?_, rfl⟩ <;> (try simp only [XX, CC, YY, Nat.reduceAdd, Nat.reduceSub, Nat.reduceLeDiff, Nat.reduceLT, Nat.reduceEqDiff, reduceIte, ↓reduceIte, Nat.reduceBEq, PP, hv.len]) <;> rfl
  rintro J d e t hJ ⟨rfl, i, hi, g0, g3, g5, hm⟩
  simp only [XX, CC, YY, Nat.reduceAdd, Nat.reduceSub, Nat.reduceLeDiff, Nat.reduceLT, Nat.reduceEqDiff, reduceIte, ↓reduceIte, Nat.reduceBEq, PP, g0, g3, g5, hv.len]
  by_cases h : i < l.length
  · obtain ⟨q, hq, hd⟩ := drop_get h
    obtain ⟨b0, o0, h1, h2, _⟩ := rdP hvt hq
    rw [hd] at hm
    have hm' : metB l b = (decide (meetsN q b) || metB (l.drop (i + 1)) b) := hm
    simp only [dec_t (show (i : Int) < l.length by omega), XX, CC, YY, Nat.reduceAdd, Nat.reduceSub, Nat.reduceLeDiff, Nat.reduceLT, Nat.reduceEqDiff, reduceIte, ↓reduceIte, Nat.reduceBEq, PP]
    refine drw_in [] rfl ?_
    simp only [List.append_nil, DD, CC, YY, Nat.reduceAdd, Nat.reduceSub, Nat.reduceLeDiff, Nat.reduceLT, Nat.reduceEqDiff, reduceIte, ↓reduceIte, Nat.reduceBEq, PP, g0, g3, g5, h1, h2, kb]
    refine dr_call (rmeets_r _ q b (hp q (List.mem_of_getElem? hq)) hb) ?_
    by_cases c : meetsN q b
    · rw [dec_t c, Bool.true_or] at hm'
      simp only [DD, CC, YY, Nat.reduceAdd, Nat.reduceSub, Nat.reduceLeDiff, Nat.reduceLT, Nat.reduceEqDiff, reduceIte, ↓reduceIte, Nat.reduceBEq, PP, dec_t c]
      exact ret_drop ⟨_, rfl⟩ rfl ⟨by rw [hm'], rfl⟩
    · rw [dec_f c, Bool.false_or] at hm'
      simp only [DD, CC, YY, Nat.reduceAdd, Nat.reduceSub, Nat.reduceLeDiff, Nat.reduceLT, Nat.reduceEqDiff, reduceIte, ↓reduceIte, Nat.reduceBEq, PP, dec_f c, g5]
      refine hJ (d - 1) _ _ (by omega) ⟨rfl, i + 1, by omega, ?_, ?_, ?_, hm'⟩ <;> (try simp only [XX, CC, YY, Nat.reduceAdd, Nat.reduceSub, Nat.reduceLeDiff, Nat.reduceLT, Nat.reduceEqDiff, reduceIte, ↓reduceIte, Nat.reduceBEq, PP, g0, g3, g5])
      rw [w64_nat (by omega)]
  · rw [List.drop_of_length_le (by omega)] at hm
    simp only [dec_f (show ¬ (i : Int) < l.length by omega), XX, CC, YY, Nat.reduceAdd, Nat.reduceSub, Nat.reduceLeDiff, Nat.reduceLT, Nat.reduceEqDiff, reduceIte, ↓reduceIte, Nat.reduceBEq, PP]
    exact ret_drop ⟨_, rfl⟩ rfl ⟨by rw [hm]; rfl, rfl⟩

theorem rcovered_r (s : St) (v : AV) (l : List Pfx) (b : Pfx) (hb : Pf b) (hl : l.length < 1000000000) (hp : ∀ p ∈ l, Pf p) (hv : Rd 3 cP s v l) : RunD T f_r11_covered [v, aP b] s (.bool (covB l b)) s := by
  refine run_body (F := r_r11_covered) rfl (by simp [r_r11_covered]) ?_
  have kb := (blkP (t := s ++ [.cells true (cP b)]) (b := s.length) (q := b) (by simp)).1
  have hvt : Rd 3 cP (s ++ [.cells true (cP b)]) v l := hv.ext ⟨_, rfl⟩
  simp only [r_r11_covered, XX, CC, YY, Nat.reduceAdd, Nat.reduceSub, Nat.reduceLeDiff, Nat.reduceLT, Nat.reduceEqDiff, reduceIte, ↓reduceIte, Nat.reduceBEq, PP, hv.len]
  refine awp_rounds (fun d e t => t = s ++ [.cells true (cP b)] ∧ ∃ i : Nat, i + d = l.length ∧ e.get 0 = v ∧ e.get 3 = .ptr s.length 0 ∧ e.get 5 = .int .i64 i ∧ covB l b = covB (l.drop i) b) l.length ?_ ?_
  · refine ⟨rfl, 0, by omega, ?_, ?_, ?_, rfl⟩ <;> (try simp only [XX, CC, YY, Nat.reduceAdd, Nat.reduceSub, Nat.reduceLeDiff, Nat.reduceLT, Nat.reduceEqDiff, reduceIte, ↓reduceIte, Nat.reduceBEq, PP, hv.len]) <;> rfl
  rintro J d e t hJ ⟨rfl, i, hi, g0, g3, g5, hm⟩
  simp only [XX, CC, YY, Nat.reduceAdd, Nat.reduceSub, Nat.reduceLeDiff, Nat.reduceLT, Nat.reduceEqDiff, reduceIte, ↓reduceIte, Nat.reduceBEq, PP, g0, g3, g5, hv.len]
  by_cases h : i < l.length
  · obtain ⟨q, hq, hd⟩ := drop_get h
    obtain ⟨b0, o0, h1, h2, _⟩ := rdP hvt hq
    rw [hd] at hm
    have hm' : covB l b = (decide (cov q b) || covB (l.drop (i + 1)) b) := hm
    simp only [dec_t (show (i : Int) < l.length by omega), XX, CC, YY, Nat.reduceAdd, Nat.reduceSub, Nat.reduceLeDiff, Nat.reduceLT, Nat.reduceEqDiff, reduceIte, ↓reduceIte, Nat.reduceBEq, PP]
    refine drw_in [] rfl ?_
    simp only [List.append_nil, DD, CC, YY, Nat.reduceAdd, Nat.reduceSub, Nat.reduceLeDiff, Nat.reduceLT, Nat.reduceEqDiff, reduceIte, ↓reduceIte, Nat.reduceBEq, PP, g0, g3, g5, h1, h2, kb]
    refine dr_call (rcovers_r _ q b (hp q (List.mem_of_getElem? hq)) hb) ?_
    by_cases c : coversN q.1 q.2 b.1 b.2
    · rw [dec_t (show cov q b from c), Bool.true_or] at hm'
      simp only [DD, CC, YY, Nat.reduceAdd, Nat.reduceSub, Nat.reduceLeDiff, Nat.reduceLT, Nat.reduceEqDiff, reduceIte, ↓reduceIte, Nat.reduceBEq, PP, dec_t c]
      exact ret_drop ⟨_, rfl⟩ rfl ⟨by rw [hm'], rfl⟩
    · rw [dec_f (show ¬ cov q b from c), Bool.false_or] at hm'
      simp only [DD, CC, YY, Nat.reduceAdd, Nat.reduceSub, Nat.reduceLeDiff, Nat.reduceLT, Nat.reduceEqDiff, reduceIte, ↓reduceIte, Nat.reduceBEq, PP, dec_f c, g5]
      refine hJ (d - 1) _ _ (by omega) ⟨rfl, i + 1, by omega, ?_, ?_, ?_, hm'⟩ <;> (try simp only [XX, CC, YY, Nat.reduceAdd, Nat.reduceSub, Nat.reduceLeDiff, Nat.reduceLT, Nat.reduceEqDiff, reduceIte, ↓reduceIte, Nat.reduceBEq, PP, g0, g3, g5])
      rw [w64_nat (by omega)]
  · rw [List.drop_of_length_le (by omega)] at hm
    simp only [dec_f (show ¬ (i : Int) < l.length by omega), XX, CC, YY, Nat.reduceAdd, Nat.reduceSub, Nat.reduceLeDiff, Nat.reduceLT, Nat.reduceEqDiff, reduceIte, ↓reduceIte, Nat.reduceBEq, PP]
    exact ret_drop ⟨_, rfl⟩ rfl ⟨by rw [hm]; rfl, rfl⟩

theorem rfits_r (s : St) (v : AV) (l : List Pfx) (n : Int) (hl : l.length < 1000000000) (hv : Rd 3 cP s v l) : RunD T f_r11_Fits [v, .int .i64 n] s (.bool (fitsB l n)) s := by
  refine run_body (F := r_r11_Fits) rfl (by simp [r_r11_Fits]) ?_
  simp only [r_r11_Fits, XX, CC, YY, Nat.reduceAdd, Nat.reduceSub, Nat.reduceLeDiff, Nat.reduceLT, Nat.reduceEqDiff, reduceIte, ↓reduceIte, Nat.reduceBEq, PP, hv.len]
  refine awp_rounds (fun d e t => t = s ∧ ∃ i : Nat, i + d = l.length ∧ e.get 0 = v ∧ e.get 1 = .int .i64 n ∧ e.get 5 = .int .i64 i ∧ fitsB l n = fitsB (l.drop i) n) l.length ?_ ?_
  · refine ⟨rfl, 0, by omega, ?_, ?_, ?_, rfl⟩ <;> (try simp only [XX, CC, YY, Nat.reduceAdd, Nat.reduceSub, Nat.reduceLeDiff, Nat.reduceLT, Nat.reduceEqDiff, reduceIte, ↓reduceIte, Nat.reduceBEq, PP, hv.len]) <;> rfl
  rintro J d e t hJ ⟨rfl, i, hi, g0, g1, g5, hm⟩
  simp only [XX, CC, YY, Nat.reduceAdd, Nat.reduceSub, Nat.reduceLeDiff, Nat.reduceLT, Nat.reduceEqDiff, reduceIte, ↓reduceIte, Nat.reduceBEq, PP, g0, g1, g5, hv.len]
  by_cases h : i < l.length
  · obtain ⟨q, hq, hd⟩ := drop_get h
    obtain ⟨b0, o0, h1, _, _, h2, _⟩ := rdP hv hq
    rw [hd] at hm
    have hm' : fitsB l n = (decide (q.2 ≤ n) || fitsB (l.drop (i + 1)) n) := hm
    have em : q.2 ≤ n ∨ ¬ q.2 ≤ n := Classical.em _
    rcases em with c | c
    · rw [dec_t c, Bool.true_or] at hm'
      simp only [dec_t (show (i : Int) < l.length by omega), XX, CC, YY, Nat.reduceAdd, Nat.reduceSub, Nat.reduceLeDiff, Nat.reduceLT, Nat.reduceEqDiff, reduceIte, ↓reduceIte, Nat.reduceBEq, PP, g0, g1, g5, h1, h2, dec_t c]
      exact .inl ⟨by rw [hm'], rfl⟩
    · rw [dec_f c, Bool.false_or] at hm'
      simp only [dec_t (show (i : Int) < l.length by omega), XX, CC, YY, Nat.reduceAdd, Nat.reduceSub, Nat.reduceLeDiff, Nat.reduceLT, Nat.reduceEqDiff, reduceIte, ↓reduceIte, Nat.reduceBEq, PP, g0, g1, g5, h1, h2, dec_f c]
      refine hJ (d - 1) _ _ (by omega) ⟨rfl, i + 1, by omega, ?_, ?_, ?_, hm'⟩ <;> (try simp only [XX, CC, YY, Nat.reduceAdd, Nat.reduceSub, Nat.reduceLeDiff, Nat.reduceLT, Nat.reduceEqDiff, reduceIte, ↓reduceIte, Nat.reduceBEq, PP, g0, g1, g5])
      rw [w64_nat (by omega)]
  · rw [List.drop_of_length_le (by omega)] at hm
    simp only [dec_f (show ¬ (i : Int) < l.length by omega), XX, CC, YY, Nat.reduceAdd, Nat.reduceSub, Nat.reduceLeDiff, Nat.reduceLT, Nat.reduceEqDiff, reduceIte, ↓reduceIte, Nat.reduceBEq, PP]
    exact .inl ⟨by rw [hm]; rfl, rfl⟩

theorem rpair_r (s : St) (a b : Pfx) (ha : Pf a) (hb : Pf b) (has : So a) (hbs : So b) : RunD T f_r11_pair [aP a, aP b] s (.bool (decide (pairP a b))) s := by
  refine run_body (F := r_r11_pair) rfl (by simp [r_r11_pair]) ?_
  have k := fun (t : St) (l : List Blk) => blkP (t := t ++ (.cells true (cP a) :: l)) (b := t.length) (q := a) (by simp)
  have ka1 := fun t l => (k t l).1
  have ka2 := fun t l => (k t l).2.1
  have ka3 := fun t l => (k t l).2.2
  have k' := fun (t : St) (x : Blk) (l : List Blk) => blkP (t := t ++ (x :: .cells true (cP b) :: l)) (b := t.length + 1) (q := b) (by simp)
  have kb1 := fun t x l => (k' t x l).1
  have kb2 := fun t x l => (k' t x l).2.1
  have kb3 := fun t x l => (k' t x l).2.2
  by_cases c1 : a.2 = b.2
  · have h1 : (a.2 == b.2) = true := by simp [c1]
    by_cases c2 : a.2 = 0
    · have h2 : (a.2 == 0) = true := by simp [c2]
      simp only [r_r11_pair, XX, CC, YY, Nat.reduceAdd, Nat.reduceSub, Nat.reduceLeDiff, Nat.reduceLT, Nat.reduceEqDiff, reduceIte, ↓reduceIte, Nat.reduceBEq, PP, ka3, kb3, h1, h2, Bool.not_true, gv_ff]
      exact ret_drop ⟨_, rfl⟩ rfl ⟨by rw [dec_f (show ¬ pairP a b from fun h => h.2.1 c2)], rfl⟩
    · have h2 : (a.2 == 0) = false := by simp [c2]
      have c2b : b.2 ≠ 0 := by omega
      have hwa : IntKind.i64.wrap (a.2 - 1) = a.2 - 1 := w64_in (by have := ha.2.1; have := has.1; omega) (by have := ha.2.2; omega)
      have hwb : IntKind.i64.wrap (b.2 - 1) = b.2 - 1 := w64_in (by have := hb.2.1; have := hbs.1; omega) (by have := hb.2.2; omega)
      simp only [r_r11_pair, XX, CC, YY, Nat.reduceAdd, Nat.reduceSub, Nat.reduceLeDiff, Nat.reduceLT, Nat.reduceEqDiff, reduceIte, ↓reduceIte, Nat.reduceBEq, PP, ka2, ka3, kb3, h1, h2, Bool.not_true, gv_ff, hwa]
      refine (rclip_r _ a.1 (a.2 - 1) ha.1 (by have := has.1; omega) (by have := has.2.1; omega)).use ?_
      rw [clipV_par has c2]
      simp only [XX, CC, YY, Nat.reduceAdd, Nat.reduceSub, Nat.reduceLeDiff, Nat.reduceLT, Nat.reduceEqDiff, reduceIte, ↓reduceIte, Nat.reduceBEq, PP, cP_cell, set_P, kb2, kb3, hwb]
      refine (rclip_r _ b.1 (b.2 - 1) hb.1 (by have := hbs.1; omega) (by have := hbs.2.1; omega)).use ?_
      rw [clipV_par hbs c2b]
      have kp := fun (t : St) (x y : Blk) (l : List Blk) => (blkP (t := t ++ (x :: y :: .cells true (cP (par a)) :: l)) (b := t.length + 2) (q := par a) (by simp)).1
      have kq := fun (t : St) (x y z : Blk) (l : List Blk) => (blkP (t := t ++ (x :: y :: z :: .cells true (cP (par b)) :: l)) (b := t.length + 3) (q := par b) (by simp)).1
      have em1 : par a = par b ∨ ¬ par a = par b := Classical.em _
      rcases em1 with c3 | c3
      · simp only [XX, CC, YY, Nat.reduceAdd, Nat.reduceSub, Nat.reduceLeDiff, Nat.reduceLT, Nat.reduceEqDiff, reduceIte, ↓reduceIte, Nat.reduceBEq, PP, cP_cell, set_P, kp, kq, eq_P, dec_t c3, gv_tt, ka1, kb1]
        refine ret_drop ⟨_, rfl⟩ rfl ⟨?_, rfl⟩
        congr 1
        by_cases c4 : a = b
        · rw [dec_t c4, dec_f (show ¬ pairP a b from fun h => h.2.2.2 c4)]; rfl
        · rw [dec_f c4, dec_t (show pairP a b from ⟨c1, c2, c3, c4⟩)]; rfl
      · simp only [XX, CC, YY, Nat.reduceAdd, Nat.reduceSub, Nat.reduceLeDiff, Nat.reduceLT, Nat.reduceEqDiff, reduceIte, ↓reduceIte, Nat.reduceBEq, PP, cP_cell, set_P, kp, kq, eq_P, dec_f c3, gv_tf]
        exact ret_drop ⟨_, rfl⟩ rfl ⟨by rw [dec_f (show ¬ pairP a b from fun h => c3 h.2.2.1)], rfl⟩
  · have h1 : (a.2 == b.2) = false := by simp [c1]
    simp only [r_r11_pair, XX, CC, YY, Nat.reduceAdd, Nat.reduceSub, Nat.reduceLeDiff, Nat.reduceLT, Nat.reduceEqDiff, reduceIte, ↓reduceIte, Nat.reduceBEq, PP, ka3, kb3, h1, Bool.not_false, gv_ft]
    exact ret_drop ⟨_, rfl⟩ rfl ⟨by rw [dec_f (show ¬ pairP a b from fun h => c1 h.1)], rfl⟩

set_option maxHeartbeats 1000000 in
theorem rrest_r (yes no : List Pfx) (hy : ∀ q ∈ yes, Pf q) (hno : ∀ q ∈ no, Pf q) (hyl : yes.length < 100000) (hnl : no.length < 100000) : ∀ (n : Nat) (b : Pfx) (s : St) (v1 v2 : AV), Pf b → So b → (128 - b.2).toNat = n → Rd 3 cP s v1 yes → Rd 3 cP s v2 no →
    Run T f_r11_rest [aP b, v1, v2] s (Out 3 cP s (restL n b yes no))
  | n, b, s, v1, v2, hb, hbs, hn, h1, h2 => by
    refine run_body (F := r_r11_rest) rfl (by simp [r_r11_rest]) ?_
    have kb := fun (t : St) (l : List Blk) => (blkP (t := t ++ (.cells true (cP b) :: l)) (b := t.length) (q := b) (by simp)).1
    have e1 : Rd 3 cP (s ++ [.cells true (cP b)]) v1 yes := h1.ext ⟨_, rfl⟩
    have e2 : Rd 3 cP (s ++ [.cells true (cP b)]) v2 no := h2.ext ⟨_, rfl⟩
    have nil0 : restL n b yes no = [] → Ret s .nils (s ++ [.cells true (cP b)]) (Out 3 cP s (restL n b yes no)) := fun h => by
      rw [h]; exact ret_own1 (n := s.length) .nil (Nat.le_refl _) ⟨_, rfl⟩ cP_un fun _ _ h => h
    simp only [r_r11_rest, XX, CC, YY, Nat.reduceAdd, Nat.reduceSub, Nat.reduceLeDiff, Nat.reduceLT, Nat.reduceEqDiff, reduceIte, ↓reduceIte, Nat.reduceBEq, PP, kb]
    refine (rmet_r _ v1 yes b hb (by omega) hy e1).use ?_
    cases m1 : metB yes b with
    | false =>
      simp only [XX, CC, YY, Nat.reduceAdd, Nat.reduceSub, Nat.reduceLeDiff, Nat.reduceLT, Nat.reduceEqDiff, reduceIte, ↓reduceIte, Nat.reduceBEq, PP, Bool.not_false, gv_ft]
      exact nil0 (by unfold restL; rw [m1]; rfl)
    | true =>
      simp only [XX, CC, YY, Nat.reduceAdd, Nat.reduceSub, Nat.reduceLeDiff, Nat.reduceLT, Nat.reduceEqDiff, reduceIte, ↓reduceIte, Nat.reduceBEq, PP, Bool.not_true, gv_ff, kb]
      refine (rcovered_r _ v2 no b hb (by omega) hno e2).use ?_
      cases c1 : covB no b with
      | true =>
        simp only [XX, CC, YY, Nat.reduceAdd, Nat.reduceSub, Nat.reduceLeDiff, Nat.reduceLT, Nat.reduceEqDiff, reduceIte, ↓reduceIte, Nat.reduceBEq, PP]
        exact nil0 (by unfold restL; rw [m1, c1]; rfl)
      | false =>
        simp only [XX, CC, YY, Nat.reduceAdd, Nat.reduceSub, Nat.reduceLeDiff, Nat.reduceLT, Nat.reduceEqDiff, reduceIte, ↓reduceIte, Nat.reduceBEq, PP, kb]
        refine (rcovered_r _ v1 yes b hb (by omega) hy e1).use ?_
        have lit : restL n b yes no = [b] → ∀ t : St, t = s ++ [.cells true (cP b), .cells true (cP b)] → Ret s (.sl (s.length + 1) 0 3 1 (some 1)) t (Out 3 cP s (restL n b yes no)) := by
          rintro h _ rfl
          rw [h]
          exact ret_own1 (n := s.length) (l := [b]) (.inr ⟨s.length + 1, some 1, [], by omega, .inr rfl, rfl, by simp, rfl⟩) (Nat.le_refl _) ⟨_, rfl⟩ cP_un fun _ _ h => h
        -- the rest, the block not being one of it
        have deep : (covB yes b && !metB no b) = false → ∀ e : Env, e.get 1 = v1 → e.get 2 = v2 → e.get 3 = .ptr s.length 0 →
            awp (Run T) r_r11_rest.body.snd.snd.snd (endK [.tmp 6] s (Out 3 cP s (restL n b yes no))) e (s ++ [.cells true (cP b)]) := by
          intro hc e g1 g2 g3
          match n, hn, nil0, lit with
          | 0, hn, nil0, lit =>
            have h128 : b.2 = 128 := by have := hbs.2.1; omega
            have hh : halvesV b = .tup [aP (0, 0), aP (0, 0), .bool false] := if_neg (fun h => h.2 h128)
            simp only [RC.snd, r_r11_rest, XX, CC, YY, Nat.reduceAdd, Nat.reduceSub, Nat.reduceLeDiff, Nat.reduceLT, Nat.reduceEqDiff, reduceIte, ↓reduceIte, Nat.reduceBEq, PP, g3, kb]
            refine (rhalves_r _ b hb).use ?_
            rw [hh]
            simp only [XX, CC, YY, Nat.reduceAdd, Nat.reduceSub, Nat.reduceLeDiff, Nat.reduceLT, Nat.reduceEqDiff, reduceIte, ↓reduceIte, Nat.reduceBEq, PP, cP_cell, set_P, Bool.not_false]
            have hz : restL 0 b yes no = [] := by unfold restL; rw [m1, c1, hc]; rfl
            rw [hz]
            exact ret_own1 (n := s.length) .nil (Nat.le_refl _) ⟨_, rfl⟩ cP_un fun _ _ h => h
          | n + 1, hn, nil0, lit =>
            have h128 : b.2 ≠ 128 := by intro e; rw [e] at hn; simp at hn
            have hls := lo_so hbs h128
            have hhs := hi_so hbs h128
            have hlp := lo_Pf hbs h128 hb.1
            have hhp := hi_Pf hbs h128 hb.1
            have hspec : restL (n + 1) b yes no = if restL n (lo b) yes no = [lo b] ∧ restL n (hi b) yes no = [hi b] then [b] else restL n (lo b) yes no ++ restL n (hi b) yes no := by
              conv => lhs; unfold restL
              rw [m1, c1, hc]
              rfl
            have kl := fun (t : St) (x : Blk) (l : List Blk) => (blkP (t := t ++ (x :: .cells true (cP (lo b)) :: l)) (b := t.length + 1) (q := lo b) (by simp)).1
            simp only [RC.snd, r_r11_rest, XX, CC, YY, Nat.reduceAdd, Nat.reduceSub, Nat.reduceLeDiff, Nat.reduceLT, Nat.reduceEqDiff, reduceIte, ↓reduceIte, Nat.reduceBEq, PP, g3, kb]
            refine (rhalves_r _ b hb).use ?_
            rw [halvesV_eq hbs h128]
            simp only [XX, CC, YY, Nat.reduceAdd, Nat.reduceSub, Nat.reduceLeDiff, Nat.reduceLT, Nat.reduceEqDiff, reduceIte, ↓reduceIte, Nat.reduceBEq, PP, cP_cell, set_P, Bool.not_true, kl, g1, g2]
            refine Run.mono _ _ _ _ _ ?_ (rrest_r yes no hy hno hyl hnl n (lo b) _ v1 v2 hlp hls (by simp only [lo]; omega) (h1.ext ⟨_, rfl⟩) (h2.ext ⟨_, rfl⟩))
            intro vx t1 hox
            have hx1 := hox.ext
            have kh := (blkP (t := t1) (b := s.length + 2) (q := hi b) (hx1.at (by simp))).1
            have hxs1 : Ext s t1 := by obtain ⟨r, rfl⟩ := hx1; exact ⟨_, by rw [List.append_assoc]⟩
            simp only [XX, CC, YY, Nat.reduceAdd, Nat.reduceSub, Nat.reduceLeDiff, Nat.reduceLT, Nat.reduceEqDiff, reduceIte, ↓reduceIte, Nat.reduceBEq, PP, kh, g1, g2]
            refine Run.mono _ _ _ _ _ ?_ (rrest_r yes no hy hno hyl hnl n (hi b) _ v1 v2 hhp hhs (by simp only [hi]; omega) (h1.ext hxs1) (h2.ext hxs1))
            intro vy t2 hoy
            have hx2 := hoy.ext
            have hx12 := hx1.trans hx2
            have hxs2 := hxs1.trans hx2
            have hoX : Own (s.length + 3) 3 cP t2 vx (restL n (lo b) yes no) := by
              obtain ⟨r, rfl⟩ := hx2
              exact (hox.own.mono (by simp)).app r
            have rX := hoX.rd cP_len
            have rY := hoy.rd cP_len
            have lX := rest_le (yes := yes) (no := no) (n := n) hls (by simp only [lo]; omega)
            have lY := rest_le (yes := yes) (no := no) (n := n) hhs (by simp only [hi]; omega)
            have h2l := hx12.len
            simp at h2l
            obtain ⟨v', t', a1, a2, a3, a4, a5, a6⟩ := own_app (by_ := 24) hoX (by omega) rY cP_len cP_cell (by omega)
            have kb2 := (blkP (t := t2) (b := s.length) (q := b) (hx12.at (by simp))).1
            have kl2 := (blkP (t := t2) (b := s.length + 1) (q := lo b) (hx12.at (by simp))).1
            have kh2 := (blkP (t := t2) (b := s.length + 2) (q := hi b) (hx12.at (by simp))).1
            generalize hX : restL n (lo b) yes no = X at *
            generalize hY : restL n (hi b) yes no = Y at *
            have o1 : (((1 : Nat) : Int) == 1) = true := rfl
            have two : restL (n + 1) b yes no = X ++ Y → Ret s v' t' (Out 3 cP s (restL (n + 1) b yes no)) := by
              intro h
              rw [h]
              exact ret_own1 a2 (by omega) (a5 s (by omega) hxs2) cP_un fun _ _ h => h
            (try simp only [XX, CC, YY, Nat.reduceAdd, Nat.reduceSub, Nat.reduceLeDiff, Nat.reduceLT, Nat.reduceEqDiff, reduceIte, ↓reduceIte, Nat.reduceBEq, PP])
            refine drw_in [] rfl ?_
            by_cases x1 : X.length = 1
            · have x1' : ((X.length : Int) == 1) = true := by simp [x1]
              obtain ⟨x0, rfl⟩ := List.length_eq_one_iff.1 x1
              obtain ⟨bx, ox, f1, f2, _⟩ := rdP rX (i := 0) (q := x0) rfl
              by_cases y1 : Y.length = 1
              · have y1' : ((Y.length : Int) == 1) = true := by simp [y1]
                obtain ⟨y0, rfl⟩ := List.length_eq_one_iff.1 y1
                obtain ⟨by0, oy, k1, k2, _⟩ := rdP rY (i := 0) (q := y0) rfl
                have f1' : ixaA 3 vx (.int .i64 0) = some (.ptr bx ox) := f1 .i64
                have k1' : ixaA 3 vy (.int .i64 0) = some (.ptr by0 oy) := k1 .i64
                by_cases ex : x0 = lo b
                · by_cases ey : y0 = hi b
                  · rw [if_pos ⟨by rw [ex], by rw [ey]⟩] at hspec
                    simp only [List.append_nil, DD, CC, YY, Nat.reduceAdd, Nat.reduceSub, Nat.reduceLeDiff, Nat.reduceLT, Nat.reduceEqDiff, reduceIte, ↓reduceIte, Nat.reduceBEq, PP, rX.len, rY.len, o1, x1', y1', gv_tt, f1', f2, k1', k2, kl2, kh2, eq_P, dec_t ex, dec_t ey, g3, kb2, set_P]
                    rw [hspec]
                    exact ret_own1 (n := s.length) (l := [b]) (.inr ⟨t2.length, some 1, [], by omega, .inr rfl, rfl, by simp, rfl⟩) (Nat.le_refl _) (hxs2.app _) cP_un fun _ _ h => h
                  · rw [if_neg (fun h => ey (by have := h.2; simpa using this))] at hspec
                    simp only [List.append_nil, DD, CC, YY, Nat.reduceAdd, Nat.reduceSub, Nat.reduceLeDiff, Nat.reduceLT, Nat.reduceEqDiff, reduceIte, ↓reduceIte, Nat.reduceBEq, PP, rX.len, rY.len, o1, x1', y1', gv_tt, f1', f2, k1', k2, kl2, kh2, eq_P, dec_t ex, dec_f ey, g3, a1]
                    exact two hspec
                · rw [if_neg (fun h => ex (by have := h.1; simpa using this))] at hspec
                  simp only [List.append_nil, DD, CC, YY, Nat.reduceAdd, Nat.reduceSub, Nat.reduceLeDiff, Nat.reduceLT, Nat.reduceEqDiff, reduceIte, ↓reduceIte, Nat.reduceBEq, PP, rX.len, rY.len, o1, x1', y1', gv_tt, gv_tf, f1', f2, k1', k2, kl2, kh2, eq_P, dec_f ex, g3, a1]
                  exact two hspec
              · have y1' : ((Y.length : Int) == 1) = false := by simp; omega
                rw [if_neg (fun h => y1 (by rw [h.2]; rfl))] at hspec
                simp only [List.append_nil, DD, CC, YY, Nat.reduceAdd, Nat.reduceSub, Nat.reduceLeDiff, Nat.reduceLT, Nat.reduceEqDiff, reduceIte, ↓reduceIte, Nat.reduceBEq, PP, rX.len, rY.len, o1, x1', y1', gv_tt, gv_tf, g3, a1]
                exact two hspec
            · have x1' : ((X.length : Int) == 1) = false := by simp; omega
              rw [if_neg (fun h => x1 (by rw [h.1]; rfl))] at hspec
              simp only [List.append_nil, DD, CC, YY, Nat.reduceAdd, Nat.reduceSub, Nat.reduceLeDiff, Nat.reduceLT, Nat.reduceEqDiff, reduceIte, ↓reduceIte, Nat.reduceBEq, PP, rX.len, rY.len, x1', gv_tt, gv_tf, gv_u, g3, a1]
              exact two hspec
        obtain ⟨TAIL, hT⟩ : ∃ c, c = r_r11_rest.body.snd.snd.snd := ⟨_, rfl⟩
        rw [← hT] at deep
        simp only [RC.snd, r_r11_rest] at hT
        cases c2 : covB yes b with
        | false =>
          simp only [XX, CC, YY, Nat.reduceAdd, Nat.reduceSub, Nat.reduceLeDiff, Nat.reduceLT, Nat.reduceEqDiff, reduceIte, ↓reduceIte, Nat.reduceBEq, PP, gv_tf, ← hT]
          refine deep (by rw [c2]; rfl) _ ?_ ?_ ?_ <;> (try simp only [XX, CC, YY, Nat.reduceAdd, Nat.reduceSub, Nat.reduceLeDiff, Nat.reduceLT, Nat.reduceEqDiff, reduceIte, ↓reduceIte, Nat.reduceBEq, PP])
        | true =>
          simp only [XX, CC, YY, Nat.reduceAdd, Nat.reduceSub, Nat.reduceLeDiff, Nat.reduceLT, Nat.reduceEqDiff, reduceIte, ↓reduceIte, Nat.reduceBEq, PP, gv_tt, kb]
          refine (rmet_r _ v2 no b hb (by omega) hno e2).use ?_
          cases m2 : metB no b with
          | false =>
            simp only [XX, CC, YY, Nat.reduceAdd, Nat.reduceSub, Nat.reduceLeDiff, Nat.reduceLT, Nat.reduceEqDiff, reduceIte, ↓reduceIte, Nat.reduceBEq, PP, Bool.not_false, kb, set_P]
            exact lit (by unfold restL; rw [m1, c1, c2, m2]; rfl) _ rfl
          | true =>
            simp only [XX, CC, YY, Nat.reduceAdd, Nat.reduceSub, Nat.reduceLeDiff, Nat.reduceLT, Nat.reduceEqDiff, reduceIte, ↓reduceIte, Nat.reduceBEq, PP, Bool.not_true, ← hT]
            refine deep (by rw [m2]; rw [c2]; rfl) _ ?_ ?_ ?_ <;> (try simp only [XX, CC, YY, Nat.reduceAdd, Nat.reduceSub, Nat.reduceLeDiff, Nat.reduceLT, Nat.reduceEqDiff, reduceIte, ↓reduceIte, Nat.reduceBEq, PP])
end Go.Ev

/-! The reference's Sound. -/
namespace Go.Ev
set_option linter.unusedVariables false
set_option linter.unusedSimpArgs false
open Go.Ev.So Go.Ev.Bu

theorem last_take {α : Type} {l : List α} {i : Nat} (hi : i < l.length) : (l.take (i + 1)).getLast? = l[i]? := by
  rw [List.getLast?_eq_getElem?, List.length_take, Nat.min_eq_left (by omega), Nat.add_sub_cancel, List.getElem?_take_of_lt (by omega)]

set_option maxHeartbeats 2000000 in
theorem rsound11_r (s : St) (v : AV) (w : Pfx) (l : List Pfx) (hw : Pf w) (hl : l.length < 1000000000) (hp : ∀ p ∈ l, Pf p) (hv : Rd 3 cP s v l) :
    RunD T f_r11_Sound [aP w, v] s (.bool (sndB w none l)) s := by
  refine run_body (F := r_r11_Sound) rfl (by simp [r_r11_Sound]) ?_
  have kw := (blkP (t := s ++ [.cells true (cP w)]) (b := s.length) (q := w) (by simp)).1
  have hvt : Rd 3 cP (s ++ [.cells true (cP w)]) v l := hv.ext ⟨_, rfl⟩
  have hno : ¬ SndP w l → sndB w none l = false := fun h => by
    cases e : sndB w none l with
    | false => rfl
    | true => exact absurd ((snd_iff hp).1 e) h
  simp only [r_r11_Sound, XX, CC, YY, Nat.reduceAdd, Nat.reduceSub, Nat.reduceLeDiff, Nat.reduceLT, Nat.reduceEqDiff, reduceIte, ↓reduceIte, Nat.reduceBEq, PP, kw]
  refine (rsound_r _ w hw).use ?_
  by_cases c : soundN w.1 w.2
  · simp only [XX, CC, YY, Nat.reduceAdd, Nat.reduceSub, Nat.reduceLeDiff, Nat.reduceLT, Nat.reduceEqDiff, reduceIte, ↓reduceIte, Nat.reduceBEq, PP, dec_t c, Bool.not_true]
    refine awp_rounds (fun d e t => t = s ++ [.cells true (cP w)] ∧ ∃ i : Nat, i + d = l.length ∧ e.get 1 = v ∧ e.get 2 = .ptr s.length 0 ∧ e.get 5 = .int .i64 i ∧ SndP w (l.take i)) l.length ?_ ?_
    · refine ⟨rfl, 0, by omega, ?_, ?_, ?_, snd_nil c⟩ <;> (try simp only [XX, CC, YY, Nat.reduceAdd, Nat.reduceSub, Nat.reduceLeDiff, Nat.reduceLT, Nat.reduceEqDiff, reduceIte, ↓reduceIte, Nat.reduceBEq, PP, hv.len]) <;> rfl
    rintro J d e t hJ ⟨rfl, i, hi, g1, g2, g5, hS⟩
    simp only [XX, CC, YY, Nat.reduceAdd, Nat.reduceSub, Nat.reduceLeDiff, Nat.reduceLT, Nat.reduceEqDiff, reduceIte, ↓reduceIte, Nat.reduceBEq, PP, g1, g2, g5, hvt.len]
    by_cases h : i < l.length
    · obtain ⟨q, hq, hd⟩ := drop_get h
      have hqp := hp q (List.mem_of_getElem? hq)
      obtain ⟨b, o, h1, h2, h3, _⟩ := rdP hvt hq
      have bad : ¬ SndP w (l.take i ++ [q]) → Ret s (.bool false) (s ++ [.cells true (cP w)]) (fun a t => a = .bool (sndB w none l) ∧ t = s) := fun hb =>
        ret_drop ⟨_, rfl⟩ rfl ⟨by rw [hno (fun k => hb (by rw [← take_snoc hq]; exact snd_take k _))], rfl⟩
      -- behind the first test
      have inner : cov w q → (∀ p, (l.take i).getLast? = some p → p.1 < q.1) → ∀ e : Env, e.get 1 = v → e.get 2 = .ptr s.length 0 → e.get 5 = .int .i64 i → ∀ (K : XE → Env → St → Prop), (∀ e' t', e'.get 1 = v → e'.get 2 = .ptr s.length 0 → e'.get 5 = .int .i64 i → t' = s ++ [.cells true (cP w)] → SndP w (l.take i ++ [q]) → K .nrm e' t') →
          (∀ e' t', e'.get 4 = .bool false → t' = s ++ [.cells true (cP w)] → ¬ SndP w (l.take i ++ [q]) → K .ret e' t') →
          awp (Run T) r_r11_Sound.body.snd.snd.fst.snd.inn.inn.snd.fst.inn.snd K e (s ++ [.cells true (cP w)]) := by
        intro hc hlast e g1 g2 g5 K hK hKr
        simp only [RC.snd, RC.fst, RC.inn, r_r11_Sound, XX, CC, YY, Nat.reduceAdd, Nat.reduceSub, Nat.reduceLeDiff, Nat.reduceLT, Nat.reduceEqDiff, reduceIte, ↓reduceIte, Nat.reduceBEq, PP]
        refine awp_rounds (fun d e t => t = s ++ [.cells true (cP w)] ∧ ∃ k : Nat, k + d = i ∧ e.get 1 = v ∧ e.get 2 = .ptr s.length 0 ∧ e.get 5 = .int .i64 i ∧ e.get 6 = .int .i64 k ∧ ∀ p ∈ l.take k, ¬ meetsN q p ∧ ¬ pairP p q) i ?_ ?_
        · refine ⟨rfl, 0, by omega, ?_, ?_, ?_, ?_, by simp⟩ <;> (try simp only [XX, CC, YY, Nat.reduceAdd, Nat.reduceSub, Nat.reduceLeDiff, Nat.reduceLT, Nat.reduceEqDiff, reduceIte, ↓reduceIte, Nat.reduceBEq, PP, g1, g2, g5]) <;> rfl
        rintro J d e t hJ ⟨rfl, k, hk, g1, g2, g5, g6, hall⟩
        simp only [XX, CC, YY, Nat.reduceAdd, Nat.reduceSub, Nat.reduceLeDiff, Nat.reduceLT, Nat.reduceEqDiff, reduceIte, ↓reduceIte, Nat.reduceBEq, PP, g5, g6]
        by_cases hki : k < i
        · obtain ⟨p, hpk, _⟩ := drop_get (l := l) (i := k) (by omega)
          have hpp := hp p (List.mem_of_getElem? hpk)
          have hpm : p ∈ l.take i := by
            refine List.mem_of_getElem? (i := k) ?_
            rw [List.getElem?_take_of_lt hki]; exact hpk
          have hps := hS.2.1.so p hpm
          have hqs := (cov_so hc).2
          obtain ⟨b0, o0, j1, j2, _⟩ := rdP hvt hpk
          have hnot : meetsN q p ∨ pairP p q → ¬ SndP w (l.take i ++ [q]) := fun hm hs => by
            obtain ⟨_, _, h3⟩ := (snd_snoc hS).1 hs
            exact hm.elim (h3 p hpm).1 (h3 p hpm).2
          simp only [dec_t (show (k : Int) < i by omega), XX, CC, YY, Nat.reduceAdd, Nat.reduceSub, Nat.reduceLeDiff, Nat.reduceLT, Nat.reduceEqDiff, reduceIte, ↓reduceIte, Nat.reduceBEq, PP]
          refine drw_in [] rfl ?_
          simp only [List.append_nil, DD, CC, YY, Nat.reduceAdd, Nat.reduceSub, Nat.reduceLeDiff, Nat.reduceLT, Nat.reduceEqDiff, reduceIte, ↓reduceIte, Nat.reduceBEq, PP, g1, g5, g6, h1, h2, j1, j2]
          refine dr_call (rmeets_r _ q p hqp hpp) ?_
          by_cases cm : meetsN q p
          · simp only [DD, CC, YY, Nat.reduceAdd, Nat.reduceSub, Nat.reduceLeDiff, Nat.reduceLT, Nat.reduceEqDiff, reduceIte, ↓reduceIte, Nat.reduceBEq, PP, dec_t cm, gv_ft]
            refine hKr _ _ ?_ rfl (hnot (.inl cm)) <;> (try simp only [XX, CC, YY, Nat.reduceAdd, Nat.reduceSub, Nat.reduceLeDiff, Nat.reduceLT, Nat.reduceEqDiff, reduceIte, ↓reduceIte, Nat.reduceBEq, PP])
          · simp only [DD, CC, YY, Nat.reduceAdd, Nat.reduceSub, Nat.reduceLeDiff, Nat.reduceLT, Nat.reduceEqDiff, reduceIte, ↓reduceIte, Nat.reduceBEq, PP, dec_f cm, gv_ff, g1, g5, g6, h1, h2, j1, j2]
            refine dr_call (rpair_r _ p q hpp hqp hps hqs) ?_
            by_cases cp : pairP p q
            · simp only [DD, CC, YY, Nat.reduceAdd, Nat.reduceSub, Nat.reduceLeDiff, Nat.reduceLT, Nat.reduceEqDiff, reduceIte, ↓reduceIte, Nat.reduceBEq, PP, dec_t cp]
              refine hKr _ _ ?_ rfl (hnot (.inr cp)) <;> (try simp only [XX, CC, YY, Nat.reduceAdd, Nat.reduceSub, Nat.reduceLeDiff, Nat.reduceLT, Nat.reduceEqDiff, reduceIte, ↓reduceIte, Nat.reduceBEq, PP])
            · simp only [DD, CC, YY, Nat.reduceAdd, Nat.reduceSub, Nat.reduceLeDiff, Nat.reduceLT, Nat.reduceEqDiff, reduceIte, ↓reduceIte, Nat.reduceBEq, PP, dec_f cp, g6]
              refine hJ (d - 1) _ _ (by omega) ⟨rfl, k + 1, by omega, ?_, ?_, ?_, ?_, ?_⟩ <;> (try simp only [XX, CC, YY, Nat.reduceAdd, Nat.reduceSub, Nat.reduceLeDiff, Nat.reduceLT, Nat.reduceEqDiff, reduceIte, ↓reduceIte, Nat.reduceBEq, PP, g1, g2, g5, g6])
              · rw [w64_nat (by omega)]
              · intro r hr
                rw [take_snoc hpk] at hr
                rcases List.mem_append.1 hr with hr | hr
                · exact hall r hr
                · simp at hr; rw [hr]; exact ⟨cm, cp⟩
        · simp only [dec_f (show ¬ (k : Int) < i by omega), XX, CC, YY, Nat.reduceAdd, Nat.reduceSub, Nat.reduceLeDiff, Nat.reduceLT, Nat.reduceEqDiff, reduceIte, ↓reduceIte, Nat.reduceBEq, PP]
          refine hK _ _ ?_ ?_ ?_ rfl ((snd_snoc hS).2 ⟨hc, hlast, by rw [show i = k by omega]; exact hall⟩) <;> (try simp only [XX, CC, YY, Nat.reduceAdd, Nat.reduceSub, Nat.reduceLeDiff, Nat.reduceLT, Nat.reduceEqDiff, reduceIte, ↓reduceIte, Nat.reduceBEq, PP, g1, g2, g5])
      obtain ⟨TAIL, hT⟩ : ∃ c, c = r_r11_Sound.body.snd.snd.fst.snd.inn.inn.snd.fst.inn.snd := ⟨_, rfl⟩
      rw [← hT] at inner
      simp only [RC.snd, RC.fst, RC.inn, r_r11_Sound] at hT
      have next : cov w q → (∀ p, (l.take i).getLast? = some p → p.1 < q.1) → ∀ e : Env, e.get 1 = v → e.get 2 = .ptr s.length 0 → e.get 5 = .int .i64 i → ∀ (K : XE → Env → St → Prop),
          (∀ e', e'.get 1 = v → e'.get 2 = .ptr s.length 0 → e'.get 5 = .int .i64 i → SndP w (l.take (i + 1)) → K .nrm e' (s ++ [.cells true (cP w)])) → (∀ e', e'.get 4 = .bool false → ¬ SndP w (l.take i ++ [q]) → K .ret e' (s ++ [.cells true (cP w)])) → awp (Run T) TAIL K e (s ++ [.cells true (cP w)]) := by
        intro a1 a2 e a3 a4 a5 K a6 a7
        refine inner a1 a2 e a3 a4 a5 K ?_ ?_
        · rintro e' _ b1 b2 b3 rfl b4; exact a6 e' b1 b2 b3 (by rw [take_snoc hq]; exact b4)
        · rintro e' _ b1 rfl b2; exact a7 e' b1 b2
      clear inner
      simp only [← hT, dec_t (show (i : Int) < l.length by omega), XX, CC, YY, Nat.reduceAdd, Nat.reduceSub, Nat.reduceLeDiff, Nat.reduceLT, Nat.reduceEqDiff, reduceIte, ↓reduceIte, Nat.reduceBEq, PP]
      clear hT
      refine drw_in [] rfl ?_
      simp only [List.append_nil, DD, CC, YY, Nat.reduceAdd, Nat.reduceSub, Nat.reduceLeDiff, Nat.reduceLT, Nat.reduceEqDiff, reduceIte, ↓reduceIte, Nat.reduceBEq, PP, g1, g2, g5, h1, h2, kw]
      refine dr_call (rcovers_r _ w q hw hqp) ?_
      by_cases cc : coversN w.1 w.2 q.1 q.2
      · by_cases ci : i = 0
        · subst ci
          simp only [DD, CC, YY, Nat.reduceAdd, Nat.reduceSub, Nat.reduceLeDiff, Nat.reduceLT, Nat.reduceEqDiff, reduceIte, ↓reduceIte, Nat.reduceBEq, PP, dec_t cc, Bool.not_true, gv_ff, g5, show decide (((0 : Nat) : Int) > 0) = false from rfl, gv_tf]
          refine next cc (by simp) _ ?_ ?_ ?_ _ ?_ ?_ <;> (try simp only [XX, CC, YY, Nat.reduceAdd, Nat.reduceSub, Nat.reduceLeDiff, Nat.reduceLT, Nat.reduceEqDiff, reduceIte, ↓reduceIte, Nat.reduceBEq, PP, g1, g2, g5])
          · intro e' q1 q2 q5 hS'
            simp only [XX, CC, YY, Nat.reduceAdd, Nat.reduceSub, Nat.reduceLeDiff, Nat.reduceLT, Nat.reduceEqDiff, reduceIte, ↓reduceIte, Nat.reduceBEq, PP, q5]
            refine hJ (d - 1) _ _ (by omega) ⟨rfl, 1, by omega, ?_, ?_, ?_, hS'⟩ <;> (try simp only [XX, CC, YY, Nat.reduceAdd, Nat.reduceSub, Nat.reduceLeDiff, Nat.reduceLT, Nat.reduceEqDiff, reduceIte, ↓reduceIte, Nat.reduceBEq, PP, q1, q2, q5]) <;> rfl
          · intro e' q4 hb
            simp only [XX, CC, YY, Nat.reduceAdd, Nat.reduceSub, Nat.reduceLeDiff, Nat.reduceLT, Nat.reduceEqDiff, reduceIte, ↓reduceIte, Nat.reduceBEq, PP, q4]
            exact bad hb
        · obtain ⟨j, rfl⟩ : ∃ j, i = j + 1 := ⟨i - 1, by omega⟩
          obtain ⟨p, hpj, _⟩ := drop_get (l := l) (i := j) (by omega)
          obtain ⟨b0, o0, j1, j2, j3, _⟩ := rdP hvt hpj
          have hwj : IntKind.i64.wrap (((j + 1 : Nat) : Int) - 1) = (j : Int) := by rw [w64_in (by omega) (by omega)]; omega
          have hlast : p.1 < q.1 → ∀ r, (l.take (j + 1)).getLast? = some r → r.1 < q.1 := by
            intro hlt r hr
            rw [last_take (by omega), hpj] at hr
            cases hr; exact hlt
          have em1 : p.1 < q.1 ∨ ¬ p.1 < q.1 := Classical.em _
          rcases em1 with c1 | c1
          · have c1' : decide (cmpN p.1 q.1 ≥ 0) = false := by rw [cmpN_dge]; exact dec_f (by omega)
            simp only [DD, CC, YY, Nat.reduceAdd, Nat.reduceSub, Nat.reduceLeDiff, Nat.reduceLT, Nat.reduceEqDiff, reduceIte, ↓reduceIte, Nat.reduceBEq, PP, dec_t cc, Bool.not_true, gv_ff, g1, g5, dec_t (show ((j + 1 : Nat) : Int) > 0 by omega), gv_tt, hwj, j1, j3, h1, h3, Nat.add_zero]
            refine dr_call (rcmp_r _ p.1 q.1 (hp p (List.mem_of_getElem? hpj)).1 hqp.1) ?_
            simp only [DD, CC, YY, Nat.reduceAdd, Nat.reduceSub, Nat.reduceLeDiff, Nat.reduceLT, Nat.reduceEqDiff, reduceIte, ↓reduceIte, Nat.reduceBEq, PP, c1']
            refine next cc (hlast c1) _ ?_ ?_ ?_ _ ?_ ?_ <;> (try simp only [XX, CC, YY, Nat.reduceAdd, Nat.reduceSub, Nat.reduceLeDiff, Nat.reduceLT, Nat.reduceEqDiff, reduceIte, ↓reduceIte, Nat.reduceBEq, PP, g1, g2, g5])
            · intro e' q1 q2 q5 hS'
              simp only [XX, CC, YY, Nat.reduceAdd, Nat.reduceSub, Nat.reduceLeDiff, Nat.reduceLT, Nat.reduceEqDiff, reduceIte, ↓reduceIte, Nat.reduceBEq, PP, q5]
              refine hJ (d - 1) _ _ (by omega) ⟨rfl, j + 1 + 1, by omega, ?_, ?_, ?_, hS'⟩ <;> (try simp only [XX, CC, YY, Nat.reduceAdd, Nat.reduceSub, Nat.reduceLeDiff, Nat.reduceLT, Nat.reduceEqDiff, reduceIte, ↓reduceIte, Nat.reduceBEq, PP, q1, q2, q5])
              rw [w64_nat (by omega)]
            · intro e' q4 hb
              simp only [XX, CC, YY, Nat.reduceAdd, Nat.reduceSub, Nat.reduceLeDiff, Nat.reduceLT, Nat.reduceEqDiff, reduceIte, ↓reduceIte, Nat.reduceBEq, PP, q4]
              exact bad hb
          · have c1' : decide (cmpN p.1 q.1 ≥ 0) = true := by rw [cmpN_dge]; exact dec_t (by omega)
            simp only [DD, CC, YY, Nat.reduceAdd, Nat.reduceSub, Nat.reduceLeDiff, Nat.reduceLT, Nat.reduceEqDiff, reduceIte, ↓reduceIte, Nat.reduceBEq, PP, dec_t cc, Bool.not_true, gv_ff, g1, g5, dec_t (show ((j + 1 : Nat) : Int) > 0 by omega), gv_tt, hwj, j1, j3, h1, h3, Nat.add_zero]
            refine dr_call (rcmp_r _ p.1 q.1 (hp p (List.mem_of_getElem? hpj)).1 hqp.1) ?_
            simp only [DD, CC, YY, Nat.reduceAdd, Nat.reduceSub, Nat.reduceLeDiff, Nat.reduceLT, Nat.reduceEqDiff, reduceIte, ↓reduceIte, Nat.reduceBEq, PP, c1']
            exact bad fun hs => c1 (((snd_snoc hS).1 hs).2.1 p (by rw [last_take (by omega)]; exact hpj))
      · simp only [DD, CC, YY, Nat.reduceAdd, Nat.reduceSub, Nat.reduceLeDiff, Nat.reduceLT, Nat.reduceEqDiff, reduceIte, ↓reduceIte, Nat.reduceBEq, PP, dec_f cc, Bool.not_false, gv_ft]
        exact bad fun hs => cc ((snd_snoc hS).1 hs).1
    · rw [List.take_of_length_le (by omega)] at hS
      simp only [dec_f (show ¬ (i : Int) < l.length by omega), XX, CC, YY, Nat.reduceAdd, Nat.reduceSub, Nat.reduceLeDiff, Nat.reduceLT, Nat.reduceEqDiff, reduceIte, ↓reduceIte, Nat.reduceBEq, PP]
      exact ret_drop ⟨_, rfl⟩ rfl ⟨by rw [(snd_iff hp).2 hS], rfl⟩
  · simp only [XX, CC, YY, Nat.reduceAdd, Nat.reduceSub, Nat.reduceLeDiff, Nat.reduceLT, Nat.reduceEqDiff, reduceIte, ↓reduceIte, Nat.reduceBEq, PP, dec_f c, Bool.not_false]
    exact ret_drop ⟨_, rfl⟩ rfl ⟨by rw [hno (fun h => c h.1)], rfl⟩
end Go.Ev

/-! The reference's Take, Reserve, Give, Free. -/
namespace Go.Ev
set_option linter.unusedVariables false
set_option linter.unusedSimpArgs false
open Go.Ev.So Go.Ev.Bu

theorem rsub_r (w : Pfx) (yes no : List Pfx) (hw : Pf w) (hws : So w) (hy : ∀ q ∈ yes, Pf q) (hno : ∀ q ∈ no, Pf q) (hyl : yes.length < 100000) (hnl : no.length < 100000) (s : St) (v1 v2 : AV) (h1 : Rd 3 cP s v1 yes) (h2 : Rd 3 cP s v2 no) :
    Run T f_r11_rest [aP w, v1, v2] s (Out 3 cP s (subL w yes no)) := rrest_r yes no hy hno hyl hnl _ w s v1 v2 hw hws rfl h1 h2
theorem Pf_one {p : Pfx} (h : Pf p) : ∀ q ∈ [p], Pf q := fun q hq => by simp at hq; rw [hq]; exact h

set_option maxHeartbeats 1000000 in
theorem rreserve_r (s : St) (v : AV) (w b : Pfx) (l : List Pfx) (hw : Pf w) (hb : Pf b) (hl : l.length < 50000) (hp : ∀ p ∈ l, Pf p) (hv : Rd 3 cP s v l) :
    Run T f_r11_Reserve [aP w, v, aP b] s (AnsB s (resT w l b)) := by
  refine run_body (F := r_r11_Reserve) rfl (by simp [r_r11_Reserve]) ?_
  have kw := fun (t : St) (l : List Blk) => (blkP (t := t ++ (.cells true (cP w) :: l)) (b := t.length) (q := w) (by simp)).1
  have kb := fun (t : St) (x : Blk) (l : List Blk) => (blkP (t := t ++ (x :: .cells true (cP b) :: l)) (b := t.length + 1) (q := b) (by simp)).1
  have hvt : Rd 3 cP (s ++ [.cells true (cP w), .cells true (cP b)]) v l := hv.ext ⟨_, rfl⟩
  simp only [r_r11_Reserve, XX, CC, YY, Nat.reduceAdd, Nat.reduceSub, Nat.reduceLeDiff, Nat.reduceLT, Nat.reduceEqDiff, reduceIte, ↓reduceIte, Nat.reduceBEq, PP, kw]
  refine (rsound11_r _ v w l hw (by omega) hp hvt).use ?_
  cases c : sndB w none l with
  | false =>
    simp only [XX, CC, YY, Nat.reduceAdd, Nat.reduceSub, Nat.reduceLeDiff, Nat.reduceLT, Nat.reduceEqDiff, reduceIte, ↓reduceIte, Nat.reduceBEq, PP, Bool.not_false]
    exact ret_no ⟨_, rfl⟩ (by unfold resT; rw [if_neg (by rw [c]; simp)])
  | true =>
    simp only [XX, CC, YY, Nat.reduceAdd, Nat.reduceSub, Nat.reduceLeDiff, Nat.reduceLT, Nat.reduceEqDiff, reduceIte, ↓reduceIte, Nat.reduceBEq, PP, Bool.not_true, gv_ff, kw, kb]
    refine (rcovers_r _ w b hw hb).use ?_
    by_cases cc : coversN w.1 w.2 b.1 b.2
    · have hS := (snd_iff hp).1 c
      simp only [XX, CC, YY, Nat.reduceAdd, Nat.reduceSub, Nat.reduceLeDiff, Nat.reduceLT, Nat.reduceEqDiff, reduceIte, ↓reduceIte, Nat.reduceBEq, PP, dec_t cc, Bool.not_true, kb]
      refine (rcovered_r _ v l b hb (by omega) hp hvt).use ?_
      cases cf : covB l b with
      | false =>
        simp only [XX, CC, YY, Nat.reduceAdd, Nat.reduceSub, Nat.reduceLeDiff, Nat.reduceLT, Nat.reduceEqDiff, reduceIte, ↓reduceIte, Nat.reduceBEq, PP, Bool.not_false]
        exact ret_no ⟨_, rfl⟩ (by unfold resT; rw [if_pos ⟨c, cc⟩, if_neg (by rw [cf]; simp)])
      | true =>
        simp only [XX, CC, YY, Nat.reduceAdd, Nat.reduceSub, Nat.reduceLeDiff, Nat.reduceLT, Nat.reduceEqDiff, reduceIte, ↓reduceIte, Nat.reduceBEq, PP, Bool.not_true, kw, kb, set_P]
        refine Run.mono _ _ _ _ _ ?_ (rsub_r w l [b] hw hS.1 hp (Pf_one hb) (by omega) (by simp) _ v _ (hv.ext ⟨_, rfl⟩) (rd_lit (by simp) cP_len rfl))
        intro r t ho
        (try simp only [XX, CC, YY, Nat.reduceAdd, Nat.reduceSub, Nat.reduceLeDiff, Nat.reduceLT, Nat.reduceEqDiff, reduceIte, ↓reduceIte, Nat.reduceBEq, PP])
        have hx := ho.ext
        refine ret_own (ho.own.mono (m := s.length) (by simp)) (Nat.le_refl _) (by obtain ⟨r', rfl⟩ := hx; exact ⟨_, by rw [List.append_assoc]⟩) cP_un rfl fun v' s' h => ⟨v', ?_, ?_⟩
        · unfold resT; rw [if_pos ⟨c, cc⟩, if_pos cf]
        · unfold resT; rw [if_pos ⟨c, cc⟩, if_pos cf]; exact h
    · simp only [XX, CC, YY, Nat.reduceAdd, Nat.reduceSub, Nat.reduceLeDiff, Nat.reduceLT, Nat.reduceEqDiff, reduceIte, ↓reduceIte, Nat.reduceBEq, PP, dec_f cc, Bool.not_false]
      exact ret_no ⟨_, rfl⟩ (by unfold resT; rw [if_neg (fun h => cc h.2)])

set_option maxHeartbeats 1000000 in
theorem rgive_r (s : St) (v : AV) (w b : Pfx) (l : List Pfx) (hw : Pf w) (hb : Pf b) (hl : l.length < 50000) (hp : ∀ p ∈ l, Pf p) (hv : Rd 3 cP s v l) :
    Run T f_r11_Give [aP w, v, aP b] s (AnsB s (giveT w l b)) := by
  refine run_body (F := r_r11_Give) rfl (by simp [r_r11_Give]) ?_
  have kw := fun (t : St) (l : List Blk) => (blkP (t := t ++ (.cells true (cP w) :: l)) (b := t.length) (q := w) (by simp)).1
  have kb := fun (t : St) (x : Blk) (l : List Blk) => (blkP (t := t ++ (x :: .cells true (cP b) :: l)) (b := t.length + 1) (q := b) (by simp)).1
  have hvt : Rd 3 cP (s ++ [.cells true (cP w), .cells true (cP b)]) v l := hv.ext ⟨_, rfl⟩
  simp only [r_r11_Give, XX, CC, YY, Nat.reduceAdd, Nat.reduceSub, Nat.reduceLeDiff, Nat.reduceLT, Nat.reduceEqDiff, reduceIte, ↓reduceIte, Nat.reduceBEq, PP, kw]
  refine (rsound11_r _ v w l hw (by omega) hp hvt).use ?_
  cases c : sndB w none l with
  | false =>
    simp only [XX, CC, YY, Nat.reduceAdd, Nat.reduceSub, Nat.reduceLeDiff, Nat.reduceLT, Nat.reduceEqDiff, reduceIte, ↓reduceIte, Nat.reduceBEq, PP, Bool.not_false]
    exact ret_no ⟨_, rfl⟩ (by unfold giveT; rw [if_neg (by rw [c]; simp)])
  | true =>
    simp only [XX, CC, YY, Nat.reduceAdd, Nat.reduceSub, Nat.reduceLeDiff, Nat.reduceLT, Nat.reduceEqDiff, reduceIte, ↓reduceIte, Nat.reduceBEq, PP, Bool.not_true, gv_ff, kw, kb]
    refine (rcovers_r _ w b hw hb).use ?_
    by_cases cc : coversN w.1 w.2 b.1 b.2
    · have hS := (snd_iff hp).1 c
      simp only [XX, CC, YY, Nat.reduceAdd, Nat.reduceSub, Nat.reduceLeDiff, Nat.reduceLT, Nat.reduceEqDiff, reduceIte, ↓reduceIte, Nat.reduceBEq, PP, dec_t cc, Bool.not_true, kb]
      refine (rmet_r _ v l b hb (by omega) hp hvt).use ?_
      cases cf : metB l b with
      | true =>
        simp only [XX, CC, YY, Nat.reduceAdd, Nat.reduceSub, Nat.reduceLeDiff, Nat.reduceLT, Nat.reduceEqDiff, reduceIte, ↓reduceIte, Nat.reduceBEq, PP]
        exact ret_no ⟨_, rfl⟩ (by unfold giveT; rw [if_pos ⟨c, cc⟩, if_pos cf])
      | false =>
        have ho0 : Own s.length 3 cP (s ++ [.cells true (cP w), .cells true (cP b), .cells true (cP b)]) (.sl (s.length + 2) 0 3 1 (some 1)) [b] :=
          .inr ⟨s.length + 2, some 1, [], by omega, .inr rfl, rfl, by simp, rfl⟩
        obtain ⟨v', t', a1, a2, a3, a4, a5, a6⟩ := own_app (by_ := 24) (ho0.mono (m := s.length) (Nat.le_refl _)) (by simp) (hv.ext ⟨_, rfl⟩) cP_len cP_cell (by simp; omega)
        simp only [XX, CC, YY, Nat.reduceAdd, Nat.reduceSub, Nat.reduceLeDiff, Nat.reduceLT, Nat.reduceEqDiff, reduceIte, ↓reduceIte, Nat.reduceBEq, PP, kb, set_P, a1]
        -- the whole's block is still there
        have a2' : Own s.length 3 cP t' v' (b :: l) := a2
        have hx0 : Ext s t' := a5 s (Nat.le_refl _) ⟨_, rfl⟩
        have e4 := a4 s.length (by simp) (by
          intro o e' k c h
          simp at h)
        have kw2 := (blkP (t := t') (b := s.length) (q := w) (by rw [e4]; simp)).1
        simp only [XX, CC, YY, Nat.reduceAdd, Nat.reduceSub, Nat.reduceLeDiff, Nat.reduceLT, Nat.reduceEqDiff, reduceIte, ↓reduceIte, Nat.reduceBEq, PP, kw2]
        have hyl : (b :: l).length < 100000 := by simp; omega
        refine Run.mono _ _ _ _ _ ?_ (rsub_r w (b :: l) [] hw hS.1 (fun q hq => by
          rcases List.mem_cons.1 hq with e | e
          · rw [e]; exact hb
          · exact hp q e) (by simp) hyl (by simp) t' v' .nils (a2'.rd cP_len) .nil)
        intro r t ho
        (try simp only [XX, CC, YY, Nat.reduceAdd, Nat.reduceSub, Nat.reduceLeDiff, Nat.reduceLT, Nat.reduceEqDiff, reduceIte, ↓reduceIte, Nat.reduceBEq, PP])
        refine ret_own (ho.own.mono hx0.len) (Nat.le_refl _) (hx0.trans ho.ext) cP_un rfl fun v' s' h => ⟨v', ?_, ?_⟩
        · unfold giveT; rw [if_pos ⟨c, cc⟩, if_neg (by rw [cf]; simp)]
        · unfold giveT; rw [if_pos ⟨c, cc⟩, if_neg (by rw [cf]; simp)]; exact h
    · simp only [XX, CC, YY, Nat.reduceAdd, Nat.reduceSub, Nat.reduceLeDiff, Nat.reduceLT, Nat.reduceEqDiff, reduceIte, ↓reduceIte, Nat.reduceBEq, PP, dec_f cc, Bool.not_false]
      exact ret_no ⟨_, rfl⟩ (by unfold giveT; rw [if_neg (fun h => cc h.2)])

set_option maxHeartbeats 2000000 in
theorem rfree_r (s : St) (v : AV) (w : Pfx) (l : List Pfx) (hw : Pf w) (hl : l.length < 50000) (hp : ∀ p ∈ l, Pf p) (hv : Rd 3 cP s v l) :
    Run T f_r11_Free [aP w, v] s (AnsB s (freeT w l)) := by
  refine run_body (F := r_r11_Free) rfl (by simp [r_r11_Free]) ?_
  have kw := (blkP (t := s ++ [.cells true (cP w)]) (b := s.length) (q := w) (by simp)).1
  have hvt : Rd 3 cP (s ++ [.cells true (cP w)]) v l := hv.ext ⟨_, rfl⟩
  simp only [r_r11_Free, XX, CC, YY, Nat.reduceAdd, Nat.reduceSub, Nat.reduceLeDiff, Nat.reduceLT, Nat.reduceEqDiff, reduceIte, ↓reduceIte, Nat.reduceBEq, PP, kw]
  refine (rsound_r _ w hw).use ?_
  by_cases c : soundN w.1 w.2
  · simp only [XX, CC, YY, Nat.reduceAdd, Nat.reduceSub, Nat.reduceLeDiff, Nat.reduceLT, Nat.reduceEqDiff, reduceIte, ↓reduceIte, Nat.reduceBEq, PP, dec_t c, Bool.not_true]
    refine awp_rounds (fun d e t => t = s ++ [.cells true (cP w)] ∧ ∃ i : Nat, i + d = l.length ∧ e.get 1 = v ∧ e.get 2 = .ptr s.length 0 ∧ e.get 6 = .int .i64 i ∧ ∀ p ∈ l.take i, cov w p) l.length ?_ ?_
    · refine ⟨rfl, 0, by omega, ?_, ?_, ?_, by simp⟩ <;> (try simp only [XX, CC, YY, Nat.reduceAdd, Nat.reduceSub, Nat.reduceLeDiff, Nat.reduceLT, Nat.reduceEqDiff, reduceIte, ↓reduceIte, Nat.reduceBEq, PP, hv.len]) <;> rfl
    rintro J d e t hJ ⟨rfl, i, hi, g1, g2, g6, hall⟩
    simp only [XX, CC, YY, Nat.reduceAdd, Nat.reduceSub, Nat.reduceLeDiff, Nat.reduceLT, Nat.reduceEqDiff, reduceIte, ↓reduceIte, Nat.reduceBEq, PP, g1, g2, g6, hvt.len]
    by_cases h : i < l.length
    · obtain ⟨q, hq, hd⟩ := drop_get h
      have hqp := hp q (List.mem_of_getElem? hq)
      obtain ⟨b, o, h1, h2, _⟩ := rdP hvt hq
      simp only [dec_t (show (i : Int) < l.length by omega), XX, CC, YY, Nat.reduceAdd, Nat.reduceSub, Nat.reduceLeDiff, Nat.reduceLT, Nat.reduceEqDiff, reduceIte, ↓reduceIte, Nat.reduceBEq, PP]
      refine drw_in [] rfl ?_
      simp only [List.append_nil, DD, CC, YY, Nat.reduceAdd, Nat.reduceSub, Nat.reduceLeDiff, Nat.reduceLT, Nat.reduceEqDiff, reduceIte, ↓reduceIte, Nat.reduceBEq, PP, g1, g2, g6, h1, h2, kw]
      refine dr_call (rcovers_r _ w q hw hqp) ?_
      by_cases cc : coversN w.1 w.2 q.1 q.2
      · simp only [DD, CC, YY, Nat.reduceAdd, Nat.reduceSub, Nat.reduceLeDiff, Nat.reduceLT, Nat.reduceEqDiff, reduceIte, ↓reduceIte, Nat.reduceBEq, PP, dec_t cc, Bool.not_true, g6]
        refine hJ (d - 1) _ _ (by omega) ⟨rfl, i + 1, by omega, ?_, ?_, ?_, ?_⟩ <;> (try simp only [XX, CC, YY, Nat.reduceAdd, Nat.reduceSub, Nat.reduceLeDiff, Nat.reduceLT, Nat.reduceEqDiff, reduceIte, ↓reduceIte, Nat.reduceBEq, PP, g1, g2, g6])
        · rw [w64_nat (by omega)]
        · intro p hp'
          rw [take_snoc hq] at hp'
          rcases List.mem_append.1 hp' with k | k
          · exact hall p k
          · simp at k; rw [k]; exact cc
      · simp only [DD, CC, YY, Nat.reduceAdd, Nat.reduceSub, Nat.reduceLeDiff, Nat.reduceLT, Nat.reduceEqDiff, reduceIte, ↓reduceIte, Nat.reduceBEq, PP, dec_f cc, Bool.not_false]
        exact ret_no ⟨_, rfl⟩ (by unfold freeT; rw [if_neg (fun h => cc (h.2 q (List.mem_of_getElem? hq)))])
    · rw [List.take_of_length_le (by omega)] at hall
      have hft : freeT w l = if apartB [] l then (subL w [w] l, 0) else ([], 110) := by unfold freeT; rw [if_pos ⟨c, hall⟩]
      simp only [dec_f (show ¬ (i : Int) < l.length by omega), XX, CC, YY, Nat.reduceAdd, Nat.reduceSub, Nat.reduceLeDiff, Nat.reduceLT, Nat.reduceEqDiff, reduceIte, ↓reduceIte, Nat.reduceBEq, PP]
      refine awp_rounds (fun d e t => t = s ++ [.cells true (cP w)] ∧ ∃ i : Nat, i + d = l.length ∧ e.get 1 = v ∧ e.get 2 = .ptr s.length 0 ∧ e.get 7 = .int .i64 i ∧ apartB [] l = apartB (l.take i) (l.drop i)) l.length ?_ ?_
      · refine ⟨rfl, 0, by omega, ?_, ?_, ?_, rfl⟩ <;> (try simp only [XX, CC, YY, Nat.reduceAdd, Nat.reduceSub, Nat.reduceLeDiff, Nat.reduceLT, Nat.reduceEqDiff, reduceIte, ↓reduceIte, Nat.reduceBEq, PP, g1, g2]) <;> rfl
      clear hJ g1 g2 g6
      rintro J d e t hJ ⟨rfl, i, hi, g1, g2, g7, hap⟩
      simp only [XX, CC, YY, Nat.reduceAdd, Nat.reduceSub, Nat.reduceLeDiff, Nat.reduceLT, Nat.reduceEqDiff, reduceIte, ↓reduceIte, Nat.reduceBEq, PP, g1, g2, g7, hvt.len]
      by_cases h : i < l.length
      · obtain ⟨q, hq, hd⟩ := drop_get h
        have hqp := hp q (List.mem_of_getElem? hq)
        obtain ⟨b, o, h1, h2, _⟩ := rdP hvt hq
        obtain ⟨v1, a1, r1⟩ := rd_take (n := i) hvt cP_len (by omega)
        rw [hd, apartB_cons, ← take_snoc hq] at hap
        simp only [dec_t (show (i : Int) < l.length by omega), XX, CC, YY, Nat.reduceAdd, Nat.reduceSub, Nat.reduceLeDiff, Nat.reduceLT, Nat.reduceEqDiff, reduceIte, ↓reduceIte, Nat.reduceBEq, PP]
        refine drw_in [] rfl ?_
        simp only [List.append_nil, DD, CC, YY, Nat.reduceAdd, Nat.reduceSub, Nat.reduceLeDiff, Nat.reduceLT, Nat.reduceEqDiff, reduceIte, ↓reduceIte, Nat.reduceBEq, PP, g1, g2, g7, h1, h2, a1]
        refine dr_call (rmet_r _ v1 (l.take i) q hqp (by rw [List.length_take]; omega) (fun p hp' => hp p (List.mem_of_mem_take hp')) r1) ?_
        cases cm : metB (l.take i) q with
        | true =>
          rw [cm, Bool.not_true, Bool.false_and] at hap
          simp only [DD, CC, YY, Nat.reduceAdd, Nat.reduceSub, Nat.reduceLeDiff, Nat.reduceLT, Nat.reduceEqDiff, reduceIte, ↓reduceIte, Nat.reduceBEq, PP]
          exact ret_no ⟨_, rfl⟩ (by rw [hft, hap]; rfl)
        | false =>
          rw [cm, Bool.not_false, Bool.true_and] at hap
          simp only [DD, CC, YY, Nat.reduceAdd, Nat.reduceSub, Nat.reduceLeDiff, Nat.reduceLT, Nat.reduceEqDiff, reduceIte, ↓reduceIte, Nat.reduceBEq, PP, g7]
          refine hJ (d - 1) _ _ (by omega) ⟨rfl, i + 1, by omega, ?_, ?_, ?_, hap⟩ <;> (try simp only [XX, CC, YY, Nat.reduceAdd, Nat.reduceSub, Nat.reduceLeDiff, Nat.reduceLT, Nat.reduceEqDiff, reduceIte, ↓reduceIte, Nat.reduceBEq, PP, g1, g2, g7])
          rw [w64_nat (by omega)]
      · rw [List.drop_of_length_le (by omega)] at hap
        simp only [dec_f (show ¬ (i : Int) < l.length by omega), XX, CC, YY, Nat.reduceAdd, Nat.reduceSub, Nat.reduceLeDiff, Nat.reduceLT, Nat.reduceEqDiff, reduceIte, ↓reduceIte, Nat.reduceBEq, PP, g1, g2, kw, set_P]
        refine Run.mono _ _ _ _ _ ?_ (rsub_r w [w] l hw c (Pf_one hw) hp (by simp) (by omega) _ _ v (rd_lit (by simp) cP_len rfl) (hv.ext ⟨_, rfl⟩))
        intro r t ho
        (try simp only [XX, CC, YY, Nat.reduceAdd, Nat.reduceSub, Nat.reduceLeDiff, Nat.reduceLT, Nat.reduceEqDiff, reduceIte, ↓reduceIte, Nat.reduceBEq, PP])
        have hx := ho.ext
        refine ret_own (ho.own.mono (m := s.length) (by simp)) (Nat.le_refl _) (by obtain ⟨r', rfl⟩ := hx; exact ⟨_, by rw [List.append_assoc]⟩) cP_un rfl fun v' s' h => ⟨v', by rw [hft, hap]; rfl, by rw [hft, hap]; exact h⟩
  · simp only [XX, CC, YY, Nat.reduceAdd, Nat.reduceSub, Nat.reduceLeDiff, Nat.reduceLT, Nat.reduceEqDiff, reduceIte, ↓reduceIte, Nat.reduceBEq, PP, dec_f c, Bool.not_false]
    exact ret_no ⟨_, rfl⟩ (by unfold freeT; rw [if_neg (fun h => c h.1)])
end Go.Ev

/-! The reference's Take. -/
namespace Go.Ev
set_option linter.unusedVariables false
set_option linter.unusedSimpArgs false
open Go.Ev.So Go.Ev.Bu

def rtakeC : RC := r_r11_Take.body.snd.snd.snd.snd
set_option maxHeartbeats 2000000 in
theorem rtake_tail (s t : St) (e : Env) (v : AV) (w : Pfx) (l : List Pfx) (bits : Int) (bo : Option (Nat × Pfx)) (hw : Pf w) (hl : l.length < 50000) (hp : ∀ p ∈ l, Pf p) (hv : Rd 3 cP s v l)
    (hc : sndB w none l = true) (hb1 : w.2 ≤ bits) (hb2 : bits ≤ 128) (hbo : best l bits = bo)
    (ht : t = s ++ [.cells true (cP w), .cells true (cP (0, 0))]) (g1 : e.get 1 = v) (g2 : e.get 2 = .int .i64 bits) (g3 : e.get 3 = .ptr s.length 0) (g7 : e.get 7 = .ptr (s.length + 1) 0) (g9 : e.get 9 = .int .i64 (bcode bo)) :
    awp (Run T) rtakeC (endK [.tmp 6, .cell (some 3) 7, .tmp 8] s (AnsT s (takeT w l bits))) e t := by
  have hx : Ext (s ++ [.cells true (cP w), .cells true (cP (0, 0))]) t := by rw [ht]; exact .refl _
  clear ht
  have htl := hx.len
  simp at htl
  have hxs : Ext s t := by obtain ⟨r, rfl⟩ := hx; exact ⟨_, by rw [List.append_assoc]⟩
  have hT : takeT w l bits = match best l bits with
    | none => ([], (0, 0), 110)
    | some q => (subL w l [(q.2.1, bits)], (q.2.1, bits), 0) := by
    unfold takeT
    rw [if_pos ⟨hc, hb1, hb2⟩]
    cases best l bits <;> rfl
  rw [hbo] at hT
  have h7 := hx.at (b := s.length + 1) (B := .cells true (cP (0, 0))) (by simp)
  have kw := (blkP (t := t) (b := s.length) (q := w) (hx.at (by simp))).1
  have kwx := fun l => ldA_ext kw l
  cases bo with
  | none =>
    have hst := stP (y := (0, 0)) h7 []
    simp only [List.append_nil] at hst
    have kz := (blkP (key_set (t := t) (b := s.length + 1) (x := .cells true (cP (0, 0))) (by omega))).1
    simp only [rtakeC, RC.snd, r_r11_Take, XX, CC, YY, Nat.reduceAdd, Nat.reduceSub, Nat.reduceLeDiff, Nat.reduceLT, Nat.reduceEqDiff, reduceIte, ↓reduceIte, Nat.reduceBEq, PP, g9, g7, bcode, show decide ((-1 : Int) < 0) = true from rfl, cP_0, hst, kz]
    exact rett_no (hxs.set (by omega) _) hT
  | some q =>
    obtain ⟨j, q⟩ := q
    obtain ⟨hj1, hj2, hj3⟩ := best_at hbo
    simp only at hj1 hj2 hj3 hT
    have hS := (snd_iff hp).1 hc
    have hqs := hS.2.1.so q (List.mem_of_getElem? hj2)
    have hqp := hp q (List.mem_of_getElem? hj2)
    obtain ⟨hps, hpc⟩ := part_so (bits := bits) hqs hj3 hb2
    have hpp : Pf (q.1, bits) := Pf_of hps hqp.1
    obtain ⟨b, o, j1, _, j2, _, _, j4, _⟩ := rdP (hv.ext hxs) hj2
    have kp := fun (l : List Blk) => (blkP (t := t ++ (.cells true (cP (q.1, bits)) :: l)) (b := t.length) (q := (q.1, bits)) (by simp)).1
    simp only [rtakeC, RC.snd, r_r11_Take, XX, CC, YY, Nat.reduceAdd, Nat.reduceSub, Nat.reduceLeDiff, Nat.reduceLT, Nat.reduceEqDiff, reduceIte, ↓reduceIte, Nat.reduceBEq, PP, g1, g2, g9, g7, bcode, dec_f (show ¬ (j : Int) < 0 by omega), j1, j2, Nat.add_zero, fill_P, fill_P', cP_cell, set_P]
    refine drw_in [.cells true (cP (q.1, bits))] rfl ?_
    have hslot : ∀ l, (t ++ .cells true (cP (q.1, bits)) :: .cells true (cP (q.1, bits)) :: l)[t.length + 1]? = some (.cells true (cP (q.1, bits))) := fun l => by simp
    have hat : [Blk.cells true (cP (q.1, bits))][0]? = some (.cells true (cP (q.1, bits))) := rfl
    simp only [List.append_assoc, List.cons_append, List.nil_append, DD, CC, YY, Nat.reduceAdd, Nat.reduceSub, Nat.reduceLeDiff, Nat.reduceLT, Nat.reduceEqDiff, reduceIte, ↓reduceIte, Nat.reduceBEq, PP, g1, g2, g3, g9, bcode, kp, kwx, set_P, hat, true_and]
    refine dr_calln (rsub_r w l [(q.1, bits)] hw hS.1 hp (Pf_one hpp) (by omega) (by simp) _ v _ ((hv.ext hxs).ext ⟨_, rfl⟩) (rd_lit (by simp) cP_len rfl)) (fun v t h => h.ext) (by simp) (by simp) ?_
    rintro r t2 ho
    have hx2 := ho.ext
    have kp2 := (blkP (t := t2) (b := t.length) (q := (q.1, bits)) (hx2.at (by simp))).1
    have h72 : t2[s.length + 1]? = some (.cells true (cP (0, 0))) := hx2.at (by rw [List.getElem?_append_left (by omega)]; exact h7)
    have hst := stP (y := (q.1, bits)) h72 []
    simp only [List.append_nil] at hst
    have hlo' : ldOk [4] [(4, t ++ [.cells true (cP (q.1, bits)), .cells true (cP (q.1, bits))], t2)] t.length = True := by
      simp only [ldOk, eq_iff_iff, iff_true]
      intro a ha p' q' hm
      simp only [List.mem_cons, List.not_mem_nil, or_false, Prod.mk.injEq] at ha hm
      obtain ⟨_, rfl, rfl⟩ := hm
      rw [hx2.get (by simp)]
    have h2l := hx2.len
    simp at h2l
    have kz := (blkP (key_set (t := t2) (b := s.length + 1) (x := .cells true (cP (q.1, bits))) (by omega))).1
    simp only [DD, CC, YY, Nat.reduceAdd, Nat.reduceSub, Nat.reduceLeDiff, Nat.reduceLT, Nat.reduceEqDiff, reduceIte, ↓reduceIte, Nat.reduceBEq, PP, kp2, hlo', true_and, g7, hst, kz]
    have hxs2 : Ext s (t2.set (s.length + 1) (.cells true (cP (q.1, bits)))) := ((hxs.app _).trans hx2).set (by omega) _
    have ho2 : Own (s.length + 2) 3 cP (t2.set (s.length + 1) (.cells true (cP (q.1, bits)))) r (subL w l [(q.1, bits)]) := (ho.own.mono (m := s.length + 2) (by simp; omega)).keep fun i hi _ => by rw [List.getElem?_set, if_neg (by omega)]
    refine ret_ownL ho2 (by omega) hxs2 cP_un rfl fun v' s' h => ⟨v', ?_, ?_⟩
    · rw [hT]
    · rw [hT]; exact h

set_option maxHeartbeats 4000000 in
theorem rtake_r (s : St) (v : AV) (w : Pfx) (l : List Pfx) (bits : Int) (hw : Pf w) (hl : l.length < 50000) (hp : ∀ p ∈ l, Pf p) (hv : Rd 3 cP s v l) :
    Run T f_r11_Take [aP w, v, .int .i64 bits] s (AnsT s (takeT w l bits)) := by
  refine run_body (F := r_r11_Take) rfl (by simp [r_r11_Take]) ?_
  obtain ⟨TAIL, hT⟩ : ∃ c, c = rtakeC := ⟨_, rfl⟩
  have htail := rtake_tail
  rw [← hT] at htail
  have hbody : r_r11_Take.body = .seq r_r11_Take.body.fst (.seq r_r11_Take.body.snd.fst (.seq r_r11_Take.body.snd.snd.fst (.seq r_r11_Take.body.snd.snd.snd.fst TAIL))) := by rw [hT]; rfl
  rw [hbody]
  have k := fun (t : St) (l : List Blk) => blkP (t := t ++ (.cells true (cP w) :: l)) (b := t.length) (q := w) (by simp)
  have kw := fun t l => (k t l).1
  have kw3 := fun t l => (k t l).2.2
  have kz := fun (t : St) (x : Blk) (l : List Blk) => (blkP (t := t ++ (x :: .cells true (cP (0, 0)) :: l)) (b := t.length + 1) (q := (0, 0)) (by simp)).1
  have hvt : Rd 3 cP (s ++ [.cells true (cP w), .cells true [AV.int .u64 0, .int .u64 0, .int .i64 0]]) v l := hv.ext ⟨_, rfl⟩
  simp only [r_r11_Take, RC.fst, RC.snd, XX, CC, YY, Nat.reduceAdd, Nat.reduceSub, Nat.reduceLeDiff, Nat.reduceLT, Nat.reduceEqDiff, reduceIte, ↓reduceIte, Nat.reduceBEq, PP, kw]
  refine (rsound11_r _ v w l hw (by omega) hp hvt).use ?_
  cases c : sndB w none l with
  | false =>
    simp only [XX, CC, YY, Nat.reduceAdd, Nat.reduceSub, Nat.reduceLeDiff, Nat.reduceLT, Nat.reduceEqDiff, reduceIte, ↓reduceIte, Nat.reduceBEq, PP, Bool.not_false, gv_ft, cP_0, cP_cell, set_PP, kz]
    exact rett_no ⟨_, rfl⟩ (by unfold takeT; rw [if_neg (by rw [c]; simp)])
  | true =>
    by_cases c1 : bits < w.2
    · simp only [XX, CC, YY, Nat.reduceAdd, Nat.reduceSub, Nat.reduceLeDiff, Nat.reduceLT, Nat.reduceEqDiff, reduceIte, ↓reduceIte, Nat.reduceBEq, PP, Bool.not_true, gv_ff, gv_ft, kw3, dec_t c1, cP_0, cP_cell, set_PP, kz]
      exact rett_no ⟨_, rfl⟩ (by unfold takeT; rw [if_neg (fun h => by have := h.2.1; omega)])
    by_cases c2 : bits > 128
    · simp only [XX, CC, YY, Nat.reduceAdd, Nat.reduceSub, Nat.reduceLeDiff, Nat.reduceLT, Nat.reduceEqDiff, reduceIte, ↓reduceIte, Nat.reduceBEq, PP, Bool.not_true, gv_ff, gv_ft, kw3, dec_f c1, dec_t c2, cP_0, cP_cell, set_PP, kz]
      exact rett_no ⟨_, rfl⟩ (by unfold takeT; rw [if_neg (fun h => by have := h.2.2; omega)])
    have hvz : Rd 3 cP (s ++ [.cells true (cP w), .cells true (cP (0, 0))]) v l := hvt
    have htail' := fun e t bo (hbo : best l bits = bo) (hx : t = s ++ [.cells true (cP w), .cells true (cP (0, 0))]) => htail s t e v w l bits bo hw hl hp hv c (by omega) (by omega) hbo hx
    clear htail hT hbody
    simp only [XX, CC, YY, Nat.reduceAdd, Nat.reduceSub, Nat.reduceLeDiff, Nat.reduceLT, Nat.reduceEqDiff, reduceIte, ↓reduceIte, Nat.reduceBEq, PP, Bool.not_true, gv_ff, gv_ft, kw3, dec_f c1, dec_f c2, cP_0]
    refine awp_rounds (fun d e t => ∃ (i : Nat) (bo : Option (Nat × Pfx)), t = s ++ [.cells true (cP w), .cells true (cP (0, 0))] ∧ i + d = l.length ∧ e.get 1 = v ∧ e.get 2 = .int .i64 bits ∧ e.get 3 = .ptr s.length 0 ∧ e.get 7 = .ptr (s.length + 1) 0 ∧ e.get 9 = .int .i64 (bcode bo) ∧ e.get 10 = .int .i64 i ∧
      bestOK l bits i bo ∧ best l bits = bestG bits (l.drop i) i bo) l.length ?_ ?_
    · refine ⟨0, none, rfl, by omega, ?_, ?_, ?_, ?_, ?_, ?_, (fun q h => by cases h), rfl⟩ <;> (try simp only [XX, CC, YY, Nat.reduceAdd, Nat.reduceSub, Nat.reduceLeDiff, Nat.reduceLT, Nat.reduceEqDiff, reduceIte, ↓reduceIte, Nat.reduceBEq, PP, hv.len]) <;> rfl
    rintro J d e t hJ ⟨i, bo, rfl, hi, g1, g2, g3, g7, g9, g10, hok, hbe⟩
    simp only [XX, CC, YY, Nat.reduceAdd, Nat.reduceSub, Nat.reduceLeDiff, Nat.reduceLT, Nat.reduceEqDiff, reduceIte, ↓reduceIte, Nat.reduceBEq, PP, g1, g10, hvz.len]
    by_cases h : i < l.length
    · obtain ⟨q, hq, hd⟩ := drop_get h
      obtain ⟨b, o, h1, _, _, h2, _⟩ := rdP hvz hq
      rw [hd] at hbe
      simp only [bestG] at hbe
      have next : ∀ (e' : Env) (bo' : Option (Nat × Pfx)), bo' = (if q.2 ≤ bits ∧ (∀ p, bo = some p → p.2.2 < q.2) then some (i, q) else bo) → e'.get 1 = v → e'.get 2 = .int .i64 bits → e'.get 3 = .ptr s.length 0 → e'.get 7 = .ptr (s.length + 1) 0 → e'.get 9 = .int .i64 (bcode bo') → e'.get 10 = .int .i64 (i + 1 : Nat) → J e' (s ++ [.cells true (cP w), .cells true (cP (0, 0))]) := by
        intro e' bo' hb q1 q2 q3 q7 q9 q10
        refine hJ (d - 1) _ _ (by omega) ⟨i + 1, bo', rfl, by omega, q1, q2, q3, q7, q9, q10, ?_, by rw [hb]; exact hbe⟩
        rw [hb]
        intro p hp'
        split at hp'
        · rename_i hc
          cases hp'
          exact ⟨Nat.lt_succ_self _, hq, hc.1⟩
        · obtain ⟨a1, a2, a3⟩ := hok p hp'
          exact ⟨by omega, a2, a3⟩
      have em1 : q.2 ≤ bits ∨ ¬ q.2 ≤ bits := Classical.em _
      have hw1 : IntKind.i64.wrap ((i : Int) + 1) = ((i + 1 : Nat) : Int) := by rw [w64_in (by omega) (by omega)]; omega
      rcases em1 with c3 | c3
      · cases bo with
        | none =>
          simp only [dec_t (show (i : Int) < l.length by omega), XX, CC, YY, Nat.reduceAdd, Nat.reduceSub, Nat.reduceLeDiff, Nat.reduceLT, Nat.reduceEqDiff, reduceIte, ↓reduceIte, Nat.reduceBEq, PP]
          refine drw_in [] rfl ?_
          simp only [List.append_nil, DD, CC, YY, Nat.reduceAdd, Nat.reduceSub, Nat.reduceLeDiff, Nat.reduceLT, Nat.reduceEqDiff, reduceIte, ↓reduceIte, Nat.reduceBEq, PP, g1, g2, g9, g10, h1, h2, dec_t c3, gv_tt, bcode, show decide ((-1 : Int) < 0) = true from rfl, gv_ft, hw1]
          refine next _ (some (i, q)) (by rw [if_pos ⟨c3, fun p h => by cases h⟩]) ?_ ?_ ?_ ?_ ?_ ?_ <;> (try simp only [XX, CC, YY, Nat.reduceAdd, Nat.reduceSub, Nat.reduceLeDiff, Nat.reduceLT, Nat.reduceEqDiff, reduceIte, ↓reduceIte, Nat.reduceBEq, PP, g1, g2, g3, g7, g9, g10, bcode])
        | some p =>
          obtain ⟨j, p⟩ := p
          obtain ⟨a1, a2, a3⟩ := hok (j, p) rfl
          simp only at a1 a2 a3
          obtain ⟨b0, o0, m1, _, _, m2, _⟩ := rdP hvz a2
          have em2 : q.2 > p.2 ∨ ¬ q.2 > p.2 := Classical.em _
          rcases em2 with c4 | c4
          · simp only [dec_t (show (i : Int) < l.length by omega), XX, CC, YY, Nat.reduceAdd, Nat.reduceSub, Nat.reduceLeDiff, Nat.reduceLT, Nat.reduceEqDiff, reduceIte, ↓reduceIte, Nat.reduceBEq, PP]
            refine drw_in [] rfl ?_
            simp only [List.append_nil, DD, CC, YY, Nat.reduceAdd, Nat.reduceSub, Nat.reduceLeDiff, Nat.reduceLT, Nat.reduceEqDiff, reduceIte, ↓reduceIte, Nat.reduceBEq, PP, g1, g2, g9, g10, h1, h2, dec_t c3, gv_tt, bcode, dec_f (show ¬ (j : Int) < 0 by omega), gv_ff, m1, m2, dec_t c4, hw1]
            refine next _ (some (i, q)) (by rw [if_pos ⟨c3, fun p' h => by cases h; exact c4⟩]) ?_ ?_ ?_ ?_ ?_ ?_ <;> (try simp only [XX, CC, YY, Nat.reduceAdd, Nat.reduceSub, Nat.reduceLeDiff, Nat.reduceLT, Nat.reduceEqDiff, reduceIte, ↓reduceIte, Nat.reduceBEq, PP, g1, g2, g3, g7, g9, g10, bcode])
          · simp only [dec_t (show (i : Int) < l.length by omega), XX, CC, YY, Nat.reduceAdd, Nat.reduceSub, Nat.reduceLeDiff, Nat.reduceLT, Nat.reduceEqDiff, reduceIte, ↓reduceIte, Nat.reduceBEq, PP]
            refine drw_in [] rfl ?_
            simp only [List.append_nil, DD, CC, YY, Nat.reduceAdd, Nat.reduceSub, Nat.reduceLeDiff, Nat.reduceLT, Nat.reduceEqDiff, reduceIte, ↓reduceIte, Nat.reduceBEq, PP, g1, g2, g9, g10, h1, h2, dec_t c3, gv_tt, bcode, dec_f (show ¬ (j : Int) < 0 by omega), gv_ff, m1, m2, dec_f c4, hw1]
            refine next _ (some (j, p)) (by rw [if_neg (fun h => c4 (h.2 _ rfl))]) ?_ ?_ ?_ ?_ ?_ ?_ <;> (try simp only [XX, CC, YY, Nat.reduceAdd, Nat.reduceSub, Nat.reduceLeDiff, Nat.reduceLT, Nat.reduceEqDiff, reduceIte, ↓reduceIte, Nat.reduceBEq, PP, g1, g2, g3, g7, g9, g10, bcode])
      · simp only [dec_t (show (i : Int) < l.length by omega), XX, CC, YY, Nat.reduceAdd, Nat.reduceSub, Nat.reduceLeDiff, Nat.reduceLT, Nat.reduceEqDiff, reduceIte, ↓reduceIte, Nat.reduceBEq, PP]
        refine drw_in [] rfl ?_
        simp only [List.append_nil, DD, CC, YY, Nat.reduceAdd, Nat.reduceSub, Nat.reduceLeDiff, Nat.reduceLT, Nat.reduceEqDiff, reduceIte, ↓reduceIte, Nat.reduceBEq, PP, g1, g2, g9, g10, h1, h2, dec_f c3, gv_tf, gv_u, hw1]
        refine next _ bo (by rw [if_neg (fun h => c3 h.1)]) ?_ ?_ ?_ ?_ ?_ ?_ <;> (try simp only [XX, CC, YY, Nat.reduceAdd, Nat.reduceSub, Nat.reduceLeDiff, Nat.reduceLT, Nat.reduceEqDiff, reduceIte, ↓reduceIte, Nat.reduceBEq, PP, g1, g2, g3, g7, g9, g10, bcode])
    · rw [List.drop_of_length_le (by omega)] at hbe
      simp only [dec_f (show ¬ (i : Int) < l.length by omega), XX, CC, YY, Nat.reduceAdd, Nat.reduceSub, Nat.reduceLeDiff, Nat.reduceLT, Nat.reduceEqDiff, reduceIte, ↓reduceIte, Nat.reduceBEq, PP]
      refine htail' _ _ bo hbe rfl ?_ ?_ ?_ ?_ ?_ <;> (try simp only [XX, CC, YY, Nat.reduceAdd, Nat.reduceSub, Nat.reduceLeDiff, Nat.reduceLT, Nat.reduceEqDiff, reduceIte, ↓reduceIte, Nat.reduceBEq, PP, g1, g2, g3, g7, g9])
end Go.Ev

/-! The law's same, block. -/
namespace Go.Ev
set_option linter.unusedVariables false
set_option linter.unusedSimpArgs false
open Go.Ev.So Go.Ev.Bu

theorem same_split {a b : List Pfx} {i : Nat} (hab : a.length = b.length) (h1 : a.take i = b.take i) {p q : Pfx} (hp : a[i]? = some p) (hq : b[i]? = some q) (hpq : p = q) : a.take (i + 1) = b.take (i + 1) := by
  rw [take_snoc hp, take_snoc hq, h1, hpq]
theorem same11_r (s : St) (v1 v2 : AV) (a b : List Pfx) (ha : a.length < 1000000000) (hb : b.length < 1000000000) (h1 : Rd 3 cP s v1 a) (h2 : Rd 3 cP s v2 b) : RunD T f_w11_same [v1, v2] s (.bool (decide (a = b))) s := by
  refine run_body (F := r_w11_same) rfl (by simp [r_w11_same]) ?_
  by_cases hab : a.length = b.length
  · have e0 : ((a.length : Int) == (b.length : Int)) = true := by simp [hab]
    simp only [r_w11_same, XX, CC, YY, Nat.reduceAdd, Nat.reduceSub, Nat.reduceLeDiff, Nat.reduceLT, Nat.reduceEqDiff, reduceIte, ↓reduceIte, Nat.reduceBEq, PP, h1.len, h2.len, e0, Bool.not_true]
    refine awp_rounds (fun d e t => t = s ∧ ∃ i : Nat, i + d = a.length ∧ e.get 0 = v1 ∧ e.get 1 = v2 ∧ e.get 5 = .int .i64 i ∧ a.take i = b.take i) a.length ?_ ?_
    · refine ⟨rfl, 0, by omega, ?_, ?_, ?_, rfl⟩ <;> (try simp only [XX, CC, YY, Nat.reduceAdd, Nat.reduceSub, Nat.reduceLeDiff, Nat.reduceLT, Nat.reduceEqDiff, reduceIte, ↓reduceIte, Nat.reduceBEq, PP, h1.len, h2.len]) <;> rfl
    rintro J d e t hJ ⟨rfl, i, hi, g0, g1, g5, he⟩
    simp only [XX, CC, YY, Nat.reduceAdd, Nat.reduceSub, Nat.reduceLeDiff, Nat.reduceLT, Nat.reduceEqDiff, reduceIte, ↓reduceIte, Nat.reduceBEq, PP, g0, g1, g5, h1.len]
    by_cases h : i < a.length
    · obtain ⟨p, hp, _⟩ := drop_get h
      obtain ⟨q, hq, _⟩ := drop_get (l := b) (i := i) (by omega)
      obtain ⟨b1, o1, j1, j2, _⟩ := rdP h1 hp
      obtain ⟨b2, o2, k1, k2, _⟩ := rdP h2 hq
      have em : p = q ∨ ¬ p = q := Classical.em _
      rcases em with c | c
      · simp only [dec_t (show (i : Int) < a.length by omega), XX, CC, YY, Nat.reduceAdd, Nat.reduceSub, Nat.reduceLeDiff, Nat.reduceLT, Nat.reduceEqDiff, reduceIte, ↓reduceIte, Nat.reduceBEq, PP]
        refine drw_in [] rfl ?_
        simp only [List.append_nil, DD, CC, YY, Nat.reduceAdd, Nat.reduceSub, Nat.reduceLeDiff, Nat.reduceLT, Nat.reduceEqDiff, reduceIte, ↓reduceIte, Nat.reduceBEq, PP, g0, g1, g5, j1, j2, k1, k2, eq_P, dec_t c, Bool.not_true]
        refine hJ (d - 1) _ _ (by omega) ⟨rfl, i + 1, by omega, ?_, ?_, ?_, same_split hab he hp hq c⟩ <;> (try simp only [XX, CC, YY, Nat.reduceAdd, Nat.reduceSub, Nat.reduceLeDiff, Nat.reduceLT, Nat.reduceEqDiff, reduceIte, ↓reduceIte, Nat.reduceBEq, PP, g0, g1, g5])
        rw [w64_nat (by omega)]
      · have hne : ¬ a = b := fun e => by rw [e] at hp; rw [hp] at hq; exact c (by simpa using hq)
        simp only [dec_t (show (i : Int) < a.length by omega), XX, CC, YY, Nat.reduceAdd, Nat.reduceSub, Nat.reduceLeDiff, Nat.reduceLT, Nat.reduceEqDiff, reduceIte, ↓reduceIte, Nat.reduceBEq, PP]
        refine drw_in [] rfl ?_
        simp only [List.append_nil, DD, CC, YY, Nat.reduceAdd, Nat.reduceSub, Nat.reduceLeDiff, Nat.reduceLT, Nat.reduceEqDiff, reduceIte, ↓reduceIte, Nat.reduceBEq, PP, g0, g1, g5, j1, j2, k1, k2, eq_P, dec_f c, Bool.not_false]
        exact .inl ⟨by rw [dec_f hne], rfl⟩
    · rw [List.take_of_length_le (by omega), List.take_of_length_le (by omega)] at he
      simp only [dec_f (show ¬ (i : Int) < a.length by omega), XX, CC, YY, Nat.reduceAdd, Nat.reduceSub, Nat.reduceLeDiff, Nat.reduceLT, Nat.reduceEqDiff, reduceIte, ↓reduceIte, Nat.reduceBEq, PP]
      exact .inl ⟨by rw [dec_t he], rfl⟩
  · have e0 : ((a.length : Int) == (b.length : Int)) = false := by simp; omega
    simp only [r_w11_same, XX, CC, YY, Nat.reduceAdd, Nat.reduceSub, Nat.reduceLeDiff, Nat.reduceLT, Nat.reduceEqDiff, reduceIte, ↓reduceIte, Nat.reduceBEq, PP, h1.len, h2.len, e0, Bool.not_false]
    exact .inl ⟨by rw [dec_f (fun e => hab (by rw [e]))], rfl⟩

def blkv (g : Nat) (n : Int) : Pfx := ((2306139568115548160 + g) * 18446744073709551616, n)
theorem blkv_Pf {g : Nat} {n : Int} (hg : g < 1000000) (h0 : 0 ≤ n) (h1 : n ≤ 128) : Pf (blkv g n) := by
  unfold blkv
  exact ⟨by simp only; omega, by simp only; omega, by simp only; omega⟩
theorem blkv_cA {g : Nat} (hg : g < 1000000) (n : Int) : [AV.int .u64 ((2306139568115548160 + g : Nat) : Int), .int .u64 0] = cA (blkv g n).1 := by
  unfold blkv
  have := cA_of (h := 2306139568115548160 + g) (l := 0) ((2306139568115548160 + g) * 18446744073709551616) (by decide) (by omega)
  exact this
theorem fill_A1 {a b x : AV} (hx : x.cell = true) : fillA [a, b] [(0, 1, x)] = some [x, b] := by rw [fill_one hx (by simp)]; rfl
theorem block11_r (s : St) (g : Nat) (n : Int) (hg : g < 1000000) : RunD T f_w11_block [.int .u64 g, .int .i64 n] s (aP (blkv g n)) s := by
  refine run_body (F := r_w11_block) rfl (by simp [r_w11_block]) ?_
  have hw : IntKind.u64.wrap (2306139568115548160 + (g : Int)) = ((2306139568115548160 + g : Nat) : Int) := by
    rw [show (2306139568115548160 : Int) + (g : Int) = ((2306139568115548160 + g : Nat) : Int) by omega, wu64_in (by omega) (by omega)]
    skip
  have hc := blkv_cA hg n
  have h2 : (blkv g n).2 = n := rfl
  have hP : ((blkv g n).1, n) = blkv g n := rfl
  generalize hB : blkv g n = B at *
  simp only [r_w11_block, XX, CC, YY, Nat.reduceAdd, Nat.reduceSub, Nat.reduceLeDiff, Nat.reduceLT, Nat.reduceEqDiff, reduceIte, ↓reduceIte, Nat.reduceBEq, PP, hw, hc, fill_P, fill_P', cP_cell, set_P, hP]
  exact ret_drop ⟨_, rfl⟩ rfl ⟨rfl, rfl⟩
theorem fill_PP (x y : Pfx) {a b c d e f : AV} : setL (setL [a, b, c, d, e, f] 0 (cP x)) 3 (cP y) = cP x ++ cP y := id rfl
theorem rep2 : (List.replicate 2 [AV.int .u64 0, .int .u64 0, .int .i64 0]).flatten = [.int .u64 0, .int .u64 0, .int .i64 0, .int .u64 0, .int .u64 0, .int .i64 0] := rfl

theorem aw_take : takeT (blkv 0 48) [blkv 0 48] 50 = ([blkv 16384 50, blkv 32768 49], blkv 0 50, 0) := by decide +kernel
theorem aw_give : giveT (blkv 0 48) [blkv 16384 50, blkv 32768 49] (blkv 0 50) = ([blkv 0 48], 0) := by decide +kernel
theorem aw_res : resT (blkv 0 48) [blkv 0 48] (blkv 32768 49) = ([blkv 0 49], 0) := by decide +kernel
theorem aw_free : freeT (blkv 0 48) [blkv 0 50, blkv 49152 50] = ([blkv 16384 50, blkv 32768 50], 0) := by decide +kernel
theorem aw_f1 : fitsB [blkv 16384 50, blkv 32768 50] 50 = true := by decide +kernel
theorem aw_f2 : fitsB [blkv 16384 50, blkv 32768 50] 49 = false := by decide +kernel
theorem aw_s : sndB (blkv 0 48) none [blkv 16384 50, blkv 32768 50] = true := by decide +kernel
end Go.Ev

/-! The law's awake. -/
namespace Go.Ev
set_option linter.unusedVariables false
set_option linter.unusedSimpArgs false
open Go.Ev.So Go.Ev.Bu

theorem Pf_two {p q : Pfx} (h : Pf p) (k : Pf q) : ∀ r ∈ [p, q], Pf r := fun r hr => by
  simp at hr; rcases hr with e | e <;> rw [e] <;> assumption
def awC : RC := r_w11_awake.body.snd.snd.snd.snd.snd.snd
set_option maxHeartbeats 4000000 in
theorem aw_tail (s t : St) (e : Env) (vf vg vi vk : AV) (A B C D E F G : Pfx) (hA : Pf A) (hx : Ext s t) (x1 x2 : Nat)
    (k1 : t[x1]? = some (.cells true (cP A))) (k2 : t[x2]? = some (.cells true (cP B)))
    (g1 : e.get 1 = .ptr x1 0) (g3 : e.get 3 = .ptr x2 0) (g2 : e.get 2 = vf) (g4 : e.get 4 = .int .i64 0) (g5 : e.get 5 = vg) (g6 : e.get 6 = .int .i64 0) (g7 : e.get 7 = vi) (g8 : e.get 8 = .int .i64 0) (g9 : e.get 9 = vk) (g10 : e.get 10 = .int .i64 0)
    (hB : B = blkv 0 50) (hC : C = blkv 16384 50) (hD : D = blkv 32768 49) (hE : E = blkv 0 49) (hF : F = blkv 32768 50) (hCp : Pf C) (hFp : Pf F)
    (h1 : Rd 3 cP t vf [C, D]) (h2 : Rd 3 cP t vg [A]) (h3 : Rd 3 cP t vi [E]) (h4 : Rd 3 cP t vk [C, F])
    (q1 : fitsB [C, F] 50 = true) (q2 : fitsB [C, F] 49 = false) (q3 : sndB A none [C, F] = true)
    (bB : ∀ t, RunD T f_w11_block [.int .u64 0, .int .i64 50] t (aP B) t) (bC : ∀ t, RunD T f_w11_block [.int .u64 16384, .int .i64 50] t (aP C) t) (bD : ∀ t, RunD T f_w11_block [.int .u64 32768, .int .i64 49] t (aP D) t)
    (bE : ∀ t, RunD T f_w11_block [.int .u64 0, .int .i64 49] t (aP E) t) (bF : ∀ t, RunD T f_w11_block [.int .u64 32768, .int .i64 50] t (aP F) t) :
    awp (Run T) awC (endK [.tmp 0] s fun r s' => r = .bool true ∧ s' = s) e t := by
  clear hB hC hD hE hF
  have e1 : (0 : Int) == 0 := rfl
  have e1' : ((0 : Int) == 0) = true := rfl
  have dB : decide (B = B) = true := decide_eq_true rfl
  simp only [awC, RC.snd, r_w11_awake, XX, CC, YY, Nat.reduceAdd, Nat.reduceSub, Nat.reduceLeDiff, Nat.reduceLT, Nat.reduceEqDiff, reduceIte, ↓reduceIte, Nat.reduceBEq, PP]
  refine drw_in [.cells true (cP C ++ cP D), .cells true (cP A), .cells true (cP E), .cells true (cP C ++ cP F)] rfl ?_
  have hxt : Ext t (t ++ [.cells true (cP C ++ cP D), .cells true (cP A), .cells true (cP E), .cells true (cP C ++ cP F)]) := ⟨_, rfl⟩
  generalize ht' : t ++ [Blk.cells true (cP C ++ cP D), .cells true (cP A), .cells true (cP E), .cells true (cP C ++ cP F)] = t' at *
  have r1 : Rd 3 cP t' (.sl t.length 0 3 2 (some 2)) [C, D] := rd_lit (by rw [← ht']; simp) cP_len rfl
  have r2 : Rd 3 cP t' (.sl (t.length + 1) 0 3 1 (some 1)) [A] := rd_lit (by rw [← ht']; simp) cP_len rfl
  have r3 : Rd 3 cP t' (.sl (t.length + 2) 0 3 1 (some 1)) [E] := rd_lit (by rw [← ht']; simp) cP_len rfl
  have r4 : Rd 3 cP t' (.sl (t.length + 3) 0 3 2 (some 2)) [C, F] := rd_lit (by rw [← ht']; simp) cP_len rfl
  have s0 : ([Blk.cells true (cP C ++ cP D), .cells true (cP A), .cells true (cP E), .cells true (cP C ++ cP F)])[0]? = some (.cells true (cP C ++ cP D)) := rfl
  have s1 : ([Blk.cells true (cP C ++ cP D), .cells true (cP A), .cells true (cP E), .cells true (cP C ++ cP F)])[1]? = some (.cells true (cP A)) := rfl
  have s2 : ([Blk.cells true (cP C ++ cP D), .cells true (cP A), .cells true (cP E), .cells true (cP C ++ cP F)])[2]? = some (.cells true (cP E)) := rfl
  have s3 : ([Blk.cells true (cP C ++ cP D), .cells true (cP A), .cells true (cP E), .cells true (cP C ++ cP F)])[3]? = some (.cells true (cP C ++ cP F)) := rfl
  have kA := (blkP (hxt.at k1)).1
  have kB := (blkP (hxt.at k2)).1
  have sm1 : RunD T f_w11_same [vf, .sl t.length 0 3 2 (some 2)] t' (.bool true) t' := by have := same11_r t' _ _ _ _ (by simp) (by simp) (h1.ext hxt) r1; simpa using this
  have sm2 : RunD T f_w11_same [vg, .sl (t.length + 1) 0 3 1 (some 1)] t' (.bool true) t' := by have := same11_r t' _ _ _ _ (by simp) (by simp) (h2.ext hxt) r2; simpa using this
  have sm3 : RunD T f_w11_same [vi, .sl (t.length + 2) 0 3 1 (some 1)] t' (.bool true) t' := by have := same11_r t' _ _ _ _ (by simp) (by simp) (h3.ext hxt) r3; simpa using this
  have sm4 : RunD T f_w11_same [vk, .sl (t.length + 3) 0 3 2 (some 2)] t' (.bool true) t' := by have := same11_r t' _ _ _ _ (by simp) (by simp) (h4.ext hxt) r4; simpa using this
  have ft1 := fits_r t' vk [C, F] 50 (by simp) (Pf_two hCp hFp) (h4.ext hxt)
  have ft2 := fits_r t' vk [C, F] 49 (by simp) (Pf_two hCp hFp) (h4.ext hxt)
  have sd := sound11_r t' vk A [C, F] hA (by simp) (Pf_two hCp hFp) (h4.ext hxt)
  rw [q1] at ft1; rw [q2] at ft2; rw [q3] at sd
  clear q1 q2 q3 h1 h2 h3 h4 r1 r2 r3 r4
  simp only [DD, CC, YY, Nat.reduceAdd, Nat.reduceSub, Nat.reduceLeDiff, Nat.reduceLT, Nat.reduceEqDiff, reduceIte, ↓reduceIte, Nat.reduceBEq, PP, g3, kB]
  refine dr_call (bB _) ?_
  simp only [DD, CC, YY, Nat.reduceAdd, Nat.reduceSub, Nat.reduceLeDiff, Nat.reduceLT, Nat.reduceEqDiff, reduceIte, ↓reduceIte, Nat.reduceBEq, PP, eq_P, dB, decide_true, g4, e1', gv_tt, g2]
  refine dr_call (bC _) ?_
  simp only [DD, CC, YY, Nat.reduceAdd, Nat.reduceSub, Nat.reduceLeDiff, Nat.reduceLT, Nat.reduceEqDiff, reduceIte, ↓reduceIte, Nat.reduceBEq, PP, gv_tt]
  refine dr_call (bD _) ?_
  simp only [DD, CC, YY, Nat.reduceAdd, Nat.reduceSub, Nat.reduceLeDiff, Nat.reduceLT, Nat.reduceEqDiff, reduceIte, ↓reduceIte, Nat.reduceBEq, PP, gv_tt, rep2, fill_PP, s0, true_and]
  refine dr_call sm1 ?_
  simp only [DD, CC, YY, Nat.reduceAdd, Nat.reduceSub, Nat.reduceLeDiff, Nat.reduceLT, Nat.reduceEqDiff, reduceIte, ↓reduceIte, Nat.reduceBEq, PP, g6, e1', gv_tt, g5, g1, kA, set_P, s1, true_and]
  refine dr_call sm2 ?_
  simp only [DD, CC, YY, Nat.reduceAdd, Nat.reduceSub, Nat.reduceLeDiff, Nat.reduceLT, Nat.reduceEqDiff, reduceIte, ↓reduceIte, Nat.reduceBEq, PP, g8, e1', gv_tt, g7]
  refine dr_call (bE _) ?_
  simp only [DD, CC, YY, Nat.reduceAdd, Nat.reduceSub, Nat.reduceLeDiff, Nat.reduceLT, Nat.reduceEqDiff, reduceIte, ↓reduceIte, Nat.reduceBEq, PP, gv_tt, set_P, s2, true_and]
  refine dr_call sm3 ?_
  simp only [DD, CC, YY, Nat.reduceAdd, Nat.reduceSub, Nat.reduceLeDiff, Nat.reduceLT, Nat.reduceEqDiff, reduceIte, ↓reduceIte, Nat.reduceBEq, PP, g10, e1', gv_tt, g9]
  refine dr_call (bC _) ?_
  simp only [DD, CC, YY, Nat.reduceAdd, Nat.reduceSub, Nat.reduceLeDiff, Nat.reduceLT, Nat.reduceEqDiff, reduceIte, ↓reduceIte, Nat.reduceBEq, PP, gv_tt]
  refine dr_call (bF _) ?_
  simp only [DD, CC, YY, Nat.reduceAdd, Nat.reduceSub, Nat.reduceLeDiff, Nat.reduceLT, Nat.reduceEqDiff, reduceIte, ↓reduceIte, Nat.reduceBEq, PP, gv_tt, rep2, fill_PP, s3, true_and]
  refine dr_call sm4 ?_
  simp only [DD, CC, YY, Nat.reduceAdd, Nat.reduceSub, Nat.reduceLeDiff, Nat.reduceLT, Nat.reduceEqDiff, reduceIte, ↓reduceIte, Nat.reduceBEq, PP, g9, gv_tt]
  refine dr_call ft1 ?_
  simp only [DD, CC, YY, Nat.reduceAdd, Nat.reduceSub, Nat.reduceLeDiff, Nat.reduceLT, Nat.reduceEqDiff, reduceIte, ↓reduceIte, Nat.reduceBEq, PP, g9, gv_tt]
  refine dr_call ft2 ?_
  simp only [DD, CC, YY, Nat.reduceAdd, Nat.reduceSub, Nat.reduceLeDiff, Nat.reduceLT, Nat.reduceEqDiff, reduceIte, ↓reduceIte, Nat.reduceBEq, PP, g9, g1, kA, Bool.not_false, gv_tt]
  refine dr_call sd ?_
  simp only [DD, CC, YY, Nat.reduceAdd, Nat.reduceSub, Nat.reduceLeDiff, Nat.reduceLT, Nat.reduceEqDiff, reduceIte, ↓reduceIte, Nat.reduceBEq, PP, gv_tt]
  exact ret_drop (hx.trans hxt) rfl ⟨rfl, rfl⟩
end Go.Ev

/-! The law's awake. -/
namespace Go.Ev
set_option linter.unusedVariables false
set_option linter.unusedSimpArgs false
open Go.Ev.So Go.Ev.Bu

set_option maxHeartbeats 4000000 in
theorem awake11_r (s : St) : RunD T f_w11_awake [] s (.bool true) s := by
  refine run_body (F := r_w11_awake) rfl (by simp [r_w11_awake]) ?_
  have pA : Pf (blkv 0 48) := blkv_Pf (by decide) (by decide) (by decide)
  have pB : Pf (blkv 0 50) := blkv_Pf (by decide) (by decide) (by decide)
  have pC : Pf (blkv 16384 50) := blkv_Pf (by decide) (by decide) (by decide)
  have pD : Pf (blkv 32768 49) := blkv_Pf (by decide) (by decide) (by decide)
  have pF : Pf (blkv 32768 50) := blkv_Pf (by decide) (by decide) (by decide)
  have pG : Pf (blkv 49152 50) := blkv_Pf (by decide) (by decide) (by decide)
  have bA : ∀ t, RunD T f_w11_block [.int .u64 0, .int .i64 48] t (aP (blkv 0 48)) t := fun t => block11_r t 0 48 (by decide)
  have bB : ∀ t, RunD T f_w11_block [.int .u64 0, .int .i64 50] t (aP (blkv 0 50)) t := fun t => block11_r t 0 50 (by decide)
  have bC : ∀ t, RunD T f_w11_block [.int .u64 16384, .int .i64 50] t (aP (blkv 16384 50)) t := fun t => block11_r t 16384 50 (by decide)
  have bD : ∀ t, RunD T f_w11_block [.int .u64 32768, .int .i64 49] t (aP (blkv 32768 49)) t := fun t => block11_r t 32768 49 (by decide)
  have bE : ∀ t, RunD T f_w11_block [.int .u64 0, .int .i64 49] t (aP (blkv 0 49)) t := fun t => block11_r t 0 49 (by decide)
  have bF : ∀ t, RunD T f_w11_block [.int .u64 32768, .int .i64 50] t (aP (blkv 32768 50)) t := fun t => block11_r t 32768 50 (by decide)
  have bG : ∀ t, RunD T f_w11_block [.int .u64 49152, .int .i64 50] t (aP (blkv 49152 50)) t := fun t => block11_r t 49152 50 (by decide)
  have htail := fun (t : St) (e : Env) (vf vg vi vk : AV) (x1 x2 : Nat) (hx : Ext s t) => aw_tail s t e vf vg vi vk (blkv 0 48) (blkv 0 50) (blkv 16384 50) (blkv 32768 49) (blkv 0 49) (blkv 32768 50) (blkv 0 0) pA hx x1 x2
  have t1 := aw_take
  have t2 := aw_give
  have t3 := aw_res
  have t4 := aw_free
  have q1 := aw_f1
  have q2 := aw_f2
  have q3 := aw_s
  have hB := (rfl : blkv 0 50 = blkv 0 50)
  have hC := (rfl : blkv 16384 50 = blkv 16384 50)
  have hD := (rfl : blkv 32768 49 = blkv 32768 49)
  have hE := (rfl : blkv 0 49 = blkv 0 49)
  have hF := (rfl : blkv 32768 50 = blkv 32768 50)
  have htail2 := fun (t : St) (e : Env) (vf vg vi vk : AV) (x1 x2 : Nat) (hx : Ext s t) k1 k2 g1 g3 g2 g4 g5 g6 g7 g8 g9 g10 h1 h2 h3 h4 => htail t e vf vg vi vk x1 x2 hx k1 k2 g1 g3 g2 g4 g5 g6 g7 g8 g9 g10 hB hC hD hE hF pC pF h1 h2 h3 h4 q1 q2 q3 bB bC bD bE bF
  clear htail hB hC hD hE hF bC bE bF q1 q2 q3
  generalize blkv 0 48 = A at *
  generalize blkv 0 50 = B at *
  generalize blkv 16384 50 = C at *
  generalize blkv 32768 49 = D at *
  generalize blkv 0 49 = E at *
  generalize blkv 32768 50 = F at *
  generalize blkv 49152 50 = G at *
  obtain ⟨TAIL, hT⟩ : ∃ c, c = awC := ⟨_, rfl⟩
  rw [← hT] at htail2
  have hbody : r_w11_awake.body = .seq r_w11_awake.body.fst (.seq r_w11_awake.body.snd.fst (.seq r_w11_awake.body.snd.snd.fst (.seq r_w11_awake.body.snd.snd.snd.fst (.seq r_w11_awake.body.snd.snd.snd.snd.fst (.seq r_w11_awake.body.snd.snd.snd.snd.snd.fst TAIL))))) := by rw [hT]; rfl
  rw [hbody]
  clear hT hbody
  have kA := fun (t : St) (l : List Blk) => (blkP (t := t ++ (.cells true (cP A) :: l)) (b := t.length) (q := A) (by simp)).1
  simp only [r_w11_awake, RC.fst, RC.snd, XX, CC, YY, Nat.reduceAdd, Nat.reduceSub, Nat.reduceLeDiff, Nat.reduceLT, Nat.reduceEqDiff, reduceIte, ↓reduceIte, Nat.reduceBEq, PP]
  refine (bA _).use ?_
  simp only [XX, CC, YY, Nat.reduceAdd, Nat.reduceSub, Nat.reduceLeDiff, Nat.reduceLT, Nat.reduceEqDiff, reduceIte, ↓reduceIte, Nat.reduceBEq, PP, cP_cell, set_P, kA]
  refine Run.mono _ _ _ _ _ ?_ (take_r _ _ A [A] 50 pA (by simp) (Pf_one pA) (rd_lit (by simp) cP_len rfl))
  rintro a t ⟨vf, rfl, hf⟩
  rw [t1] at hf ⊢
  have hx1 := hf.ext
  have rf := hf.rd cP_len
  have hxs1 : Ext s t := by obtain ⟨r, rfl⟩ := hx1; exact ⟨_, by rw [List.append_assoc]⟩
  have a1 : t[s.length]? = some (.cells true (cP A)) := hx1.at (by simp)
  have kA1 := (blkP a1).1
  have kA1x := fun l => ldA_ext kA1 l
  have kB := fun (l : List Blk) => (blkP (t := t ++ (.cells true (cP B) :: l)) (b := t.length) (q := B) (by simp)).1
  simp only [XX, CC, YY, Nat.reduceAdd, Nat.reduceSub, Nat.reduceLeDiff, Nat.reduceLT, Nat.reduceEqDiff, reduceIte, ↓reduceIte, Nat.reduceBEq, PP, cP_cell, set_P, kA1x, kB]
  refine Run.mono _ _ _ _ _ ?_ (give_r _ _ A B [C, D] pA pB (by simp) (Pf_two pC pD) (rf.ext ⟨_, rfl⟩))
  rintro a u ⟨vg, rfl, hg⟩
  rw [t2] at hg ⊢
  have hx2 := hg.ext
  have rg := hg.rd cP_len
  have hxtu : Ext t u := by obtain ⟨r, rfl⟩ := hx2; exact ⟨_, by rw [List.append_assoc]⟩
  have a2 : u[s.length]? = some (.cells true (cP A)) := hxtu.at a1
  have b2 : u[t.length]? = some (.cells true (cP B)) := hx2.at (by simp)
  have kA2 := (blkP a2).1
  simp only [XX, CC, YY, Nat.reduceAdd, Nat.reduceSub, Nat.reduceLeDiff, Nat.reduceLT, Nat.reduceEqDiff, reduceIte, ↓reduceIte, Nat.reduceBEq, PP]
  refine drw_in [] rfl ?_
  simp only [List.append_nil, DD, CC, YY, Nat.reduceAdd, Nat.reduceSub, Nat.reduceLeDiff, Nat.reduceLT, Nat.reduceEqDiff, reduceIte, ↓reduceIte, Nat.reduceBEq, PP, kA2]
  refine dr_call (bD _) ?_
  simp only [DD, CC, YY, Nat.reduceAdd, Nat.reduceSub, Nat.reduceLeDiff, Nat.reduceLT, Nat.reduceEqDiff, reduceIte, ↓reduceIte, Nat.reduceBEq, PP]
  refine dr_calln (reserve_r _ _ A D [A] pA pD (by simp) (Pf_one pA) rg) (fun v t h => by obtain ⟨r, _, h⟩ := h; exact h.ext) (by simp) (by simp) ?_
  rintro a w ⟨vi, rfl, hi⟩
  rw [t3] at hi ⊢
  have hx3 := hi.ext
  have ri := hi.rd cP_len
  have a3 : w[s.length]? = some (.cells true (cP A)) := hx3.at a2
  have kA3 := (blkP a3).1
  have kA3x := fun l => ldA_ext kA3 l
  simp only [DD, CC, YY, Nat.reduceAdd, Nat.reduceSub, Nat.reduceLeDiff, Nat.reduceLT, Nat.reduceEqDiff, reduceIte, ↓reduceIte, Nat.reduceBEq, PP]
  refine drw_in [.cells true (cP B ++ cP G)] rfl ?_
  have sl0 : ([Blk.cells true (cP B ++ cP G)])[0]? = some (.cells true (cP B ++ cP G)) := rfl
  simp only [DD, CC, YY, Nat.reduceAdd, Nat.reduceSub, Nat.reduceLeDiff, Nat.reduceLT, Nat.reduceEqDiff, reduceIte, ↓reduceIte, Nat.reduceBEq, PP, kA3x]
  refine dr_call (bB _) ?_
  simp only [DD, CC, YY, Nat.reduceAdd, Nat.reduceSub, Nat.reduceLeDiff, Nat.reduceLT, Nat.reduceEqDiff, reduceIte, ↓reduceIte, Nat.reduceBEq, PP]
  refine dr_call (bG _) ?_
  simp only [DD, CC, YY, Nat.reduceAdd, Nat.reduceSub, Nat.reduceLeDiff, Nat.reduceLT, Nat.reduceEqDiff, reduceIte, ↓reduceIte, Nat.reduceBEq, PP, rep2, fill_PP, sl0, true_and]
  refine dr_calln (free_r _ (.sl w.length 0 3 2 (some 2)) A [B, G] pA (by simp) (Pf_two pB pG) (rd_lit (by simp) cP_len rfl)) (fun v t h => by obtain ⟨r, _, h⟩ := h; exact h.ext) (by simp) (by simp) ?_
  rintro a z ⟨vk, rfl, hk⟩
  rw [t4] at hk ⊢
  have hx4 := hk.ext
  have rk := hk.rd cP_len
  have hxwz : Ext w z := by obtain ⟨r, rfl⟩ := hx4; exact ⟨_, by rw [List.append_assoc]⟩
  simp only [DD, CC, YY, Nat.reduceAdd, Nat.reduceSub, Nat.reduceLeDiff, Nat.reduceLT, Nat.reduceEqDiff, reduceIte, ↓reduceIte, Nat.reduceBEq, PP]
  refine htail2 z _ vf vg vi vk s.length t.length ?_ ?_ ?_ ?_ ?_ ?_ ?_ ?_ ?_ ?_ ?_ ?_ ?_ ?_ ?_ ?_ ?_ <;> (try simp only [XX, CC, YY, Nat.reduceAdd, Nat.reduceSub, Nat.reduceLeDiff, Nat.reduceLT, Nat.reduceEqDiff, reduceIte, ↓reduceIte, Nat.reduceBEq, PP])
  · exact hxs1.trans (hxtu.trans (hx3.trans hxwz))
  · exact hxwz.at a3
  · exact (hx3.trans hxwz).at b2
  · exact rf.ext (hxtu.trans (hx3.trans hxwz))
  · exact rg.ext (hx3.trans hxwz)
  · exact ri.ext hxwz
  · exact rk
end Go.Ev

/-! BuddyExact. -/
namespace Go.Ev
set_option linter.unusedVariables false
set_option linter.unusedSimpArgs false
open Go.Ev.So Go.Ev.Bu

theorem same_self (s : St) (v1 v2 : AV) (a : List Pfx) (ha : a.length < 1000000000) (h1 : Rd 3 cP s v1 a) (h2 : Rd 3 cP s v2 a) : RunD T f_w11_same [v1, v2] s (.bool true) s := by
  have := same11_r s v1 v2 a a ha ha h1 h2
  rwa [decide_eq_true rfl] at this
theorem take_len {w : Pfx} {l : List Pfx} {bits : Int} : (takeT w l bits).1.length ≤ 1 + 128 * (l.length + 1) := by
  unfold takeT
  split
  · rename_i h
    cases best l bits with
    | none => simp
    | some q => exact sub_le (yes := l) (no := [(q.2.1, bits)]) (sndB_none h.1)
  · simp
theorem res_len {w b : Pfx} {l : List Pfx} : (resT w l b).1.length ≤ 1 + 128 * (l.length + 1) := by
  unfold resT
  split
  · rename_i h
    split
    · exact sub_le (yes := l) (no := [b]) (sndB_none h.1)
    · simp
  · simp
theorem give_len {w b : Pfx} {l : List Pfx} : (giveT w l b).1.length ≤ 1 + 128 * (l.length + 1) := by
  unfold giveT
  split
  · rename_i h
    split
    · simp
    · exact sub_le (yes := b :: l) (no := []) (sndB_none h.1)
  · simp
theorem free_len {w : Pfx} {l : List Pfx} : (freeT w l).1.length ≤ 1 + 128 * (1 + l.length) := by
  unfold freeT
  split
  · rename_i h
    split
    · exact sub_le (yes := [w]) (no := l) h.1
    · simp
  · simp
set_option maxHeartbeats 8000000 in
theorem exact11_r (s : St) (v : AV) (w : Pfx) (l : List Pfx) (b : Pfx) (hw : Pf w) (hl : l.length < 4611686018427387904) (hp : ∀ p ∈ l, Pf p) (hv : Rd 3 cP s v l) (hb : Pf b) :
    Run T f_w11_BuddyExact [aP w, v, aP b] s fun r _ => r = .bool true := by
  refine run_body (F := r_w11_BuddyExact) rfl (by simp [r_w11_BuddyExact]) ?_
  have hvt : Rd 3 cP (s ++ [.cells true (cP w), .cells true (cP b)]) v l := hv.ext ⟨_, rfl⟩
  have fw := (show (s ++ [.cells true (cP w), .cells true (cP b)])[s.length]? = some (.cells true (cP w)) by simp)
  have fb := (show (s ++ [.cells true (cP w), .cells true (cP b)])[s.length + 1]? = some (.cells true (cP b)) by simp)
  have hx0 : Ext s (s ++ [.cells true (cP w), .cells true (cP b)]) := ⟨_, rfl⟩
  simp only [r_w11_BuddyExact, XX, CC, YY, Nat.reduceAdd, Nat.reduceSub, Nat.reduceLeDiff, Nat.reduceLT, Nat.reduceEqDiff, reduceIte, ↓reduceIte, Nat.reduceBEq, PP]
  refine (awake11_r _).use ?_
  generalize hs1 : s ++ [Blk.cells true (cP w), .cells true (cP b)] = s1 at *
  by_cases hl40 : (l.length : Int) > 40
  · simp only [XX, CC, YY, Nat.reduceAdd, Nat.reduceSub, Nat.reduceLeDiff, Nat.reduceLT, Nat.reduceEqDiff, reduceIte, ↓reduceIte, Nat.reduceBEq, PP, Bool.not_true, hvt.len, dec_t hl40]
    exact ret_drop hx0 rfl rfl
  have hll : l.length ≤ 40 := by omega
  have kw := (blkP fw).1
  have kb3 := (blkP fb).2.2
  have ff : ∀ x : Bool, (x == x) = true := fun x => by cases x <;> rfl
  have fi : ∀ x : Int, (x == x) = true := fun x => by simp
  simp only [XX, CC, YY, Nat.reduceAdd, Nat.reduceSub, Nat.reduceLeDiff, Nat.reduceLT, Nat.reduceEqDiff, reduceIte, ↓reduceIte, Nat.reduceBEq, PP, Bool.not_true, hvt.len, dec_f hl40]
  refine drw_in [] rfl ?_
  simp only [List.append_nil, DD, CC, YY, Nat.reduceAdd, Nat.reduceSub, Nat.reduceLeDiff, Nat.reduceLT, Nat.reduceEqDiff, reduceIte, ↓reduceIte, Nat.reduceBEq, PP, kw]
  refine dr_call (sound11_r _ v w l hw (by omega) hp hvt) ?_
  simp only [DD, CC, YY, Nat.reduceAdd, Nat.reduceSub, Nat.reduceLeDiff, Nat.reduceLT, Nat.reduceEqDiff, reduceIte, ↓reduceIte, Nat.reduceBEq, PP, kw]
  refine dr_call (rsound11_r _ v w l hw (by omega) hp hvt) ?_
  simp only [DD, CC, YY, Nat.reduceAdd, Nat.reduceSub, Nat.reduceLeDiff, Nat.reduceLT, Nat.reduceEqDiff, reduceIte, ↓reduceIte, Nat.reduceBEq, PP, ff, Bool.not_true, gv_ff, kb3]
  refine dr_call (fits_r _ v l b.2 (by omega) hp hvt) ?_
  simp only [DD, CC, YY, Nat.reduceAdd, Nat.reduceSub, Nat.reduceLeDiff, Nat.reduceLT, Nat.reduceEqDiff, reduceIte, ↓reduceIte, Nat.reduceBEq, PP, gv_ff, kb3]
  refine dr_call (rfits_r _ v l b.2 (by omega) hvt) ?_
  simp only [DD, CC, YY, Nat.reduceAdd, Nat.reduceSub, Nat.reduceLeDiff, Nat.reduceLT, Nat.reduceEqDiff, reduceIte, ↓reduceIte, Nat.reduceBEq, PP, ff, Bool.not_true, gv_ff, kw, kb3]
  refine Run.mono _ _ _ _ _ ?_ (take_r _ v w l b.2 hw (by omega) hp hvt)
  rintro a s2 ⟨f, rfl, hf⟩
  have x12 := hf.ext
  have rf := hf.rd cP_len
  have kw2 := (blkP (x12.at fw)).1
  have kb2 := (blkP (x12.at fb)).2.2
  have kw2x := fun l => ldA_ext kw2 l
  have kb2x := fun l => ldA_ext kb2 l
  have lT := take_len (w := w) (l := l) (bits := b.2)
  generalize hT : takeT w l b.2 = X at *
  simp only [XX, CC, YY, Nat.reduceAdd, Nat.reduceSub, Nat.reduceLeDiff, Nat.reduceLT, Nat.reduceEqDiff, reduceIte, ↓reduceIte, Nat.reduceBEq, PP, cP_cell, set_P, kw2x, kb2x]
  refine Run.mono _ _ _ _ _ ?_ (rtake_r _ v w l b.2 hw (by omega) hp ((hvt.ext x12).ext ⟨_, rfl⟩))
  rintro a s3 ⟨g, rfl, hg⟩
  rw [hT] at hg ⊢
  have x23 := hg.ext
  have rg := hg.rd cP_len
  have x23' : Ext s2 s3 := by obtain ⟨r, rfl⟩ := x23; exact ⟨_, by rw [List.append_assoc]⟩
  have x13 := x12.trans x23'
  have kx : ∀ l, ldA (s3 ++ l) (some 3) (.ptr s2.length 0) = some (aP X.2.1) := fun l => ldA_ext (blkP (x23.at (b := s2.length) (B := .cells true (cP X.2.1)) (by simp))).1 l
  have ky := fun (l : List Blk) => (blkP (t := s3 ++ (.cells true (cP X.2.1) :: l)) (b := s3.length) (q := X.2.1) (by simp)).1
  simp only [XX, CC, YY, Nat.reduceAdd, Nat.reduceSub, Nat.reduceLeDiff, Nat.reduceLT, Nat.reduceEqDiff, reduceIte, ↓reduceIte, Nat.reduceBEq, PP, cP_cell, set_P]
  refine (same_self _ f g X.1 (by omega) ((rf.ext x23').ext ⟨_, rfl⟩) (rg.ext ⟨_, rfl⟩)).use ?_
  have kw3 := (blkP ((x13.app [.cells true (cP X.2.1)]).at fw)).1
  have kb31 := (blkP ((x13.app [.cells true (cP X.2.1)]).at fb)).1
  have hx3 : Ext s1 (s3 ++ [.cells true (cP X.2.1)]) := x13.app _
  simp only [XX, CC, YY, Nat.reduceAdd, Nat.reduceSub, Nat.reduceLeDiff, Nat.reduceLT, Nat.reduceEqDiff, reduceIte, ↓reduceIte, Nat.reduceBEq, PP, Bool.not_true, gv_ff, kx, ky, eq_P, decide_true, fi, kw3, kb31]
  generalize s3 ++ [Blk.cells true (cP X.2.1)] = s4 at *
  refine Run.mono _ _ _ _ _ ?_ (reserve_r _ v w b l hw hb (by omega) hp (hvt.ext hx3))
  rintro a s5 ⟨f2, rfl, hf2⟩
  have x45 := hf2.ext
  have x15 := hx3.trans x45
  have kw5 := (blkP (x15.at fw)).1
  have kb5 := (blkP (x15.at fb)).1
  have rf2 := hf2.rd cP_len
  have lR := res_len (w := w) (l := l) (b := b)
  simp only [XX, CC, YY, Nat.reduceAdd, Nat.reduceSub, Nat.reduceLeDiff, Nat.reduceLT, Nat.reduceEqDiff, reduceIte, ↓reduceIte, Nat.reduceBEq, PP, kw5, kb5]
  refine Run.mono _ _ _ _ _ ?_ (rreserve_r _ v w b l hw hb (by omega) hp (hvt.ext x15))
  rintro a s6 ⟨g2, rfl, hg2⟩
  have x56 := hg2.ext
  have x16 := x15.trans x56
  have kw6 := (blkP (x16.at fw)).1
  have kb6 := (blkP (x16.at fb)).1
  simp only [XX, CC, YY, Nat.reduceAdd, Nat.reduceSub, Nat.reduceLeDiff, Nat.reduceLT, Nat.reduceEqDiff, reduceIte, ↓reduceIte, Nat.reduceBEq, PP]
  refine (same_self _ f2 g2 _ (by omega) (rf2.ext x56) (hg2.rd cP_len)).use ?_
  simp only [XX, CC, YY, Nat.reduceAdd, Nat.reduceSub, Nat.reduceLeDiff, Nat.reduceLT, Nat.reduceEqDiff, reduceIte, ↓reduceIte, Nat.reduceBEq, PP, Bool.not_true, gv_ff, fi, kw6, kb6]
  refine Run.mono _ _ _ _ _ ?_ (give_r _ v w b l hw hb (by omega) hp (hvt.ext x16))
  rintro a s7 ⟨f3, rfl, hf3⟩
  have x67 := hf3.ext
  have x17 := x16.trans x67
  have kw7 := (blkP (x17.at fw)).1
  have kb7 := (blkP (x17.at fb)).1
  have rf3 := hf3.rd cP_len
  have lG := give_len (w := w) (l := l) (b := b)
  simp only [XX, CC, YY, Nat.reduceAdd, Nat.reduceSub, Nat.reduceLeDiff, Nat.reduceLT, Nat.reduceEqDiff, reduceIte, ↓reduceIte, Nat.reduceBEq, PP, kw7, kb7]
  refine Run.mono _ _ _ _ _ ?_ (rgive_r _ v w b l hw hb (by omega) hp (hvt.ext x17))
  rintro a s8 ⟨g3, rfl, hg3⟩
  have x78 := hg3.ext
  have x18 := x17.trans x78
  have kw8 := (blkP (x18.at fw)).1
  simp only [XX, CC, YY, Nat.reduceAdd, Nat.reduceSub, Nat.reduceLeDiff, Nat.reduceLT, Nat.reduceEqDiff, reduceIte, ↓reduceIte, Nat.reduceBEq, PP]
  refine (same_self _ f3 g3 _ (by omega) (rf3.ext x78) (hg3.rd cP_len)).use ?_
  simp only [XX, CC, YY, Nat.reduceAdd, Nat.reduceSub, Nat.reduceLeDiff, Nat.reduceLT, Nat.reduceEqDiff, reduceIte, ↓reduceIte, Nat.reduceBEq, PP, Bool.not_true, gv_ff, fi, kw8]
  refine Run.mono _ _ _ _ _ ?_ (free_r _ v w l hw (by omega) hp (hvt.ext x18))
  rintro a s9 ⟨f4, rfl, hf4⟩
  have x89 := hf4.ext
  have x19 := x18.trans x89
  have kw9 := (blkP (x19.at fw)).1
  have rf4 := hf4.rd cP_len
  have lF := free_len (w := w) (l := l)
  simp only [XX, CC, YY, Nat.reduceAdd, Nat.reduceSub, Nat.reduceLeDiff, Nat.reduceLT, Nat.reduceEqDiff, reduceIte, ↓reduceIte, Nat.reduceBEq, PP, kw9]
  refine Run.mono _ _ _ _ _ ?_ (rfree_r _ v w l hw (by omega) hp (hvt.ext x19))
  rintro a s10 ⟨g4, rfl, hg4⟩
  have x9a := hg4.ext
  simp only [XX, CC, YY, Nat.reduceAdd, Nat.reduceSub, Nat.reduceLeDiff, Nat.reduceLT, Nat.reduceEqDiff, reduceIte, ↓reduceIte, Nat.reduceBEq, PP]
  refine (same_self _ f4 g4 _ (by omega) (rf4.ext x9a) (hg4.rd cP_len)).use ?_
  simp only [XX, CC, YY, Nat.reduceAdd, Nat.reduceSub, Nat.reduceLeDiff, Nat.reduceLT, Nat.reduceEqDiff, reduceIte, ↓reduceIte, Nat.reduceBEq, PP, gv_tt, fi]
  exact ret_drop (hx0.trans (x19.trans x9a)) rfl rfl
end Go.Ev

/-! BuddyBack. -/
namespace Go.Ev.Bu
open Go.Ev
set_option linter.unusedVariables false
set_option linter.unusedSimpArgs false

theorem sub_mem_eq {w : Pfx} {a b : List Pfx} (hw : So w) (ha : ∀ q ∈ a, So q) (h : ∀ q, q ∈ a ↔ q ∈ b) : subL w [w] a = subL w [w] b := by
  have hw1 : ∀ q ∈ [w], So q := fun q hq => by simp at hq; rw [hq]; exact hw
  have hm : ∀ x, mem a x ↔ mem b x := fun x => ⟨fun ⟨p, hp, hx⟩ => ⟨p, (h p).1 hp, hx⟩, fun ⟨p, hp, hx⟩ => ⟨p, (h p).2 hp, hx⟩⟩
  obtain ⟨h1, h2⟩ := sub_ok hw hw1 ha
  refine sub_uniq hw hw1 (fun q hq => ha q ((h q).2 hq)) h1.2.1 fun x => ?_
  rw [h2, hm]
theorem apartB_iff : ∀ {l a : List Pfx}, (∀ q ∈ a, So q) → (∀ q ∈ l, So q) → (apartB a l = true ↔ l.Pairwise apart ∧ ∀ p ∈ a, ∀ q ∈ l, apart p q)
  | [], a, _, _ => by simp [apartB]
  | p :: l, a, ha, hl => by
    have hps := hl p (by simp)
    have hm : metB a p = false ↔ ∀ q ∈ a, apart q p := by
      constructor
      · intro h q hq x hx hy
        have := (met_iff ha hps).2 ⟨x, ⟨q, hq, hx⟩, hy⟩
        rw [h] at this; cases this
      · intro h
        cases e : metB a p with
        | false => rfl
        | true =>
          obtain ⟨x, ⟨q, hq, hx⟩, hy⟩ := (met_iff ha hps).1 e
          exact absurd hy (h q hq x hx)
    have ha2 : ∀ q ∈ a ++ [p], So q := fun q hq => by
      rcases List.mem_append.1 hq with k | k
      · exact ha q k
      · simp at k; rw [k]; exact hps
    simp only [apartB, Bool.and_eq_true, Bool.not_eq_true']
    rw [apartB_iff ha2 (fun q hq => hl q (by simp [hq])), hm, List.pairwise_cons]
    constructor
    · rintro ⟨h1, h2, h3⟩
      refine ⟨⟨fun q hq => h3 p (by simp) q hq, h2⟩, fun r hr q hq => ?_⟩
      rcases List.mem_cons.1 hq with e | e
      · rw [e]; exact h1 r hr
      · exact h3 r (by simp [hr]) q e
    · rintro ⟨⟨h1, h2⟩, h3⟩
      refine ⟨fun q hq => h3 q hq p (by simp), h2, fun r hr q hq => ?_⟩
      rcases List.mem_append.1 hr with k | k
      · exact h3 r k q (by simp [hq])
      · simp at k; rw [k]; exact h1 q hq
theorem free_rev (w : Pfx) (l : List Pfx) : freeT w l.reverse = freeT w l := by
  unfold freeT
  have hc : (So w ∧ ∀ p ∈ l.reverse, cov w p) ↔ (So w ∧ ∀ p ∈ l, cov w p) := by simp
  by_cases c : So w ∧ ∀ p ∈ l, cov w p
  · have hs : ∀ q ∈ l, So q := fun q hq => (cov_so (c.2 q hq)).2
    have hs' : ∀ q ∈ l.reverse, So q := fun q hq => hs q (by simpa using hq)
    rw [if_pos (hc.2 c), if_pos c, sub_mem_eq (a := l.reverse) (b := l) c.1 hs' (fun q => by simp)]
    have : apartB [] l.reverse = apartB [] l := by
      rw [Bool.eq_iff_iff, apartB_iff (by simp) hs', apartB_iff (by simp) hs, List.pairwise_reverse]
      simp only [List.not_mem_nil, false_implies, implies_true, and_true]
      exact ⟨fun h => h.imp apart_symm, fun h => h.imp apart_symm⟩
    rw [this]
  · rw [if_neg (fun h => c (hc.1 h)), if_neg c]
theorem freeT_no {w : Pfx} {l : List Pfx} (h : (freeT w l).2 ≠ 0) : (freeT w l).1 = [] := by
  revert h
  unfold freeT
  split
  · split
    · intro h; exact absurd rfl h
    · intro _; rfl
  · intro _; rfl
theorem freeT_yes {w : Pfx} {l : List Pfx} (h : (freeT w l).2 = 0) : So w ∧ (∀ p ∈ l, cov w p) ∧ apartB [] l = true ∧ (freeT w l).1 = subL w [w] l := by
  revert h
  unfold freeT
  split
  · rename_i c
    split
    · rename_i c2
      intro _; exact ⟨c.1, c.2, c2, rfl⟩
    · intro h; exact absurd h (by decide)
  · intro h; exact absurd h (by decide)
theorem resT_no {w b : Pfx} {l : List Pfx} (h : (resT w l b).2 ≠ 0) : (resT w l b).1 = [] := by
  revert h
  unfold resT
  split
  · split
    · intro h; exact absurd rfl h
    · intro _; rfl
  · intro _; rfl
theorem resT_yes {w b : Pfx} {l : List Pfx} (h : (resT w l b).2 = 0) : sndB w none l = true ∧ cov w b ∧ covB l b = true ∧ (resT w l b).1 = subL w l [b] := by
  revert h
  unfold resT
  split
  · rename_i c
    split
    · rename_i c2
      intro _; exact ⟨c.1, c.2, c2, rfl⟩
    · intro h; exact absurd h (by decide)
  · intro h; exact absurd h (by decide)
theorem free_snd {w : Pfx} {l : List Pfx} (h : (freeT w l).2 = 0) : SndP w (freeT w l).1 := by
  obtain ⟨h1, h2, h3, h4⟩ := freeT_yes h
  rw [h4]
  exact (free_mem h1 h2).1
theorem res_snd {w b : Pfx} {l : List Pfx} (hl : SndP w l) (h : (resT w l b).2 = 0) : SndP w (resT w l b).1 ∧ ∀ x, mem (resT w l b).1 x ↔ inB w x ∧ mem l x ∧ ¬ inB b x := by
  obtain ⟨h1, h2, h3, h4⟩ := resT_yes h
  rw [h4]
  obtain ⟨k1, k2⟩ := sub_ok (w := w) (yes := l) (no := [b]) hl.1 hl.2.1.so (fun q hq => by simp at hq; rw [hq]; exact (cov_so h2).2)
  exact ⟨k1, fun x => by rw [k2, mem_one]⟩
theorem back_math {w b : Pfx} {F : List Pfx} (hw : Pf w) (hF : SndP w F) (h : (resT w F b).2 = 0) : giveT w (resT w F b).1 b = (F, 0) ∧ (resT w (resT w F b).1 b).2 = 110 ∧ (giveT w F b).2 = 110 := by
  obtain ⟨h1, h2, h3, h4⟩ := resT_yes h
  obtain ⟨k1, k2⟩ := res_snd hF h
  have hb := (cov_so h2).2
  generalize (resT w F b).1 = R at *
  have hRs := (snd_iff (snd_pf hw k1)).2 k1
  have m1 : metB R b = false := by
    cases e : metB R b with
    | false => rfl
    | true =>
      obtain ⟨x, hx, hy⟩ := (met_iff k1.2.1.so hb).1 e
      exact absurd hy ((k2 x).1 hx).2.2
  have m2 : covB R b = false := by
    cases e : covB R b with
    | false => rfl
    | true => exact absurd (inB_self b) ((k2 b.1).1 (covB_sub e (inB_self b))).2.2
  have m3 : metB F b = true := (met_iff hF.2.1.so hb).2 ⟨b.1, covB_sub h3 (inB_self b), inB_self b⟩
  refine ⟨?_, ?_, ?_⟩
  · unfold giveT
    rw [if_pos ⟨hRs, h2⟩, if_neg (by rw [m1]; simp)]
    congr 1
    refine (sub_uniq hF.1 ?_ (by simp) hF.2.1 fun x => ?_).symm
    · intro q hq
      rcases List.mem_cons.1 hq with e | e
      · rw [e]; exact hb
      · exact k1.2.1.so q e
    · rw [mem_cons, k2]
      constructor
      · intro hx
        refine ⟨hF.in hx, ?_, mem_nil x⟩
        by_cases c : inB b x
        · exact .inl c
        · exact .inr ⟨hF.in hx, hx, c⟩
      · rintro ⟨_, h | h, _⟩
        · exact covB_sub h3 h
        · exact h.2.1
  · unfold resT
    rw [if_pos ⟨hRs, h2⟩, if_neg (by rw [m2]; simp)]
  · unfold giveT
    rw [if_pos ⟨h1, h2⟩, if_pos m3]
end Go.Ev.Bu
namespace Go.Ev
set_option linter.unusedVariables false
set_option linter.unusedSimpArgs false
open Go.Ev.So Go.Ev.Bu
theorem un_make (n : Nat) : unders 0 (List.replicate n [AV.int .u64 0, .int .u64 0, .int .i64 0]).flatten = true := unders_rep rfl n

set_option maxHeartbeats 8000000 in
theorem back11_r (s : St) (v : AV) (w : Pfx) (l : List Pfx) (b : Pfx) (hw : Pf w) (hl : l.length < 4611686018427387904) (hp : ∀ p ∈ l, Pf p) (hv : Rd 3 cP s v l) (hb : Pf b) :
    Run T f_w11_BuddyBack [aP w, v, aP b] s fun r _ => r = .bool true := by
  refine run_body (F := r_w11_BuddyBack) rfl (by simp [r_w11_BuddyBack]) ?_
  have hvt : Rd 3 cP (s ++ [.cells true (cP w), .cells true (cP b)]) v l := hv.ext ⟨_, rfl⟩
  have fw := (show (s ++ [.cells true (cP w), .cells true (cP b)])[s.length]? = some (.cells true (cP w)) by simp)
  have fb := (show (s ++ [.cells true (cP w), .cells true (cP b)])[s.length + 1]? = some (.cells true (cP b)) by simp)
  have hx0 : Ext s (s ++ [.cells true (cP w), .cells true (cP b)]) := ⟨_, rfl⟩
  simp only [r_w11_BuddyBack, XX, CC, YY, Nat.reduceAdd, Nat.reduceSub, Nat.reduceLeDiff, Nat.reduceLT, Nat.reduceEqDiff, reduceIte, ↓reduceIte, Nat.reduceBEq, PP]
  refine (awake11_r _).use ?_
  generalize hs1 : s ++ [Blk.cells true (cP w), .cells true (cP b)] = s1 at *
  by_cases hl40 : (l.length : Int) > 40
  · simp only [XX, CC, YY, Nat.reduceAdd, Nat.reduceSub, Nat.reduceLeDiff, Nat.reduceLT, Nat.reduceEqDiff, reduceIte, ↓reduceIte, Nat.reduceBEq, PP, Bool.not_true, hvt.len, dec_t hl40]
    exact ret_drop hx0 rfl rfl
  have hll : l.length ≤ 40 := by omega
  have kw := (blkP fw).1
  have kb := (blkP fb).1
  have fi : ∀ x : Int, (x == x) = true := fun x => by simp
  simp only [XX, CC, YY, Nat.reduceAdd, Nat.reduceSub, Nat.reduceLeDiff, Nat.reduceLT, Nat.reduceEqDiff, reduceIte, ↓reduceIte, Nat.reduceBEq, PP, Bool.not_true, hvt.len, dec_f hl40, kw]
  refine Run.mono _ _ _ _ _ ?_ (free_r _ v w l hw (by omega) hp hvt)
  rintro a s2 ⟨f, rfl, hf⟩
  have x12 := hf.ext
  have rf := hf.rd cP_len
  have lF := free_len (w := w) (l := l)
  have fw2 := x12.at fw
  have fb2 := x12.at fb
  have hx2 := hx0.trans x12
  have h2l := x12.len
  have hw1 : IntKind.i64.wrap ((l.length : Int) - 1) = (l.length : Int) - 1 := w64_in (by omega) (by omega)
  simp only [XX, CC, YY, Nat.reduceAdd, Nat.reduceSub, Nat.reduceLeDiff, Nat.reduceLT, Nat.reduceEqDiff, reduceIte, ↓reduceIte, Nat.reduceBEq, PP, hvt.len, mks_0 (show l.length * (24 + 1) ≤ 35184372088832 by omega), hw1]
  refine awp_rounds (fun d e t => Ext s2 t ∧ d ≤ l.length ∧ ∃ vo : AV, e.get 1 = v ∧ e.get 3 = .ptr s.length 0 ∧ e.get 5 = .ptr (s.length + 1) 0 ∧ e.get 7 = f ∧ e.get 8 = .int .i64 (freeT w l).2 ∧ e.get 9 = vo ∧ e.get 10 = .int .i64 ((d : Int) - 1) ∧ Own s2.length 3 cP t vo (l.drop d).reverse) l.length ?_ ?_
  · refine ⟨⟨_, rfl⟩, Nat.le_refl _, .sl s2.length 0 3 0 none, ?_, ?_, ?_, ?_, ?_, ?_, ?_, ?_⟩ <;> (try simp only [XX, CC, YY, Nat.reduceAdd, Nat.reduceSub, Nat.reduceLeDiff, Nat.reduceLT, Nat.reduceEqDiff, reduceIte, ↓reduceIte, Nat.reduceBEq, PP])
    exact .inr ⟨s2.length, none, _, Nat.le_refl _, .inl rfl, by simp, by rw [List.drop_length]; exact get_last, un_make _⟩
  rintro J d e t hJ ⟨hx, hd, vo, g1, g3, g5, g7, g8, g9, g10, ho⟩
  have hvt2 := hvt.ext (x12.trans hx)
  have h3l := hx.len
  cases d with
  | succ d =>
    obtain ⟨q, hq, hdr⟩ := drop_get (l := l) (i := d) (by omega)
    obtain ⟨b0, o0, j1, j2, _⟩ := rdP hvt2 hq
    have ed : (((d + 1 : Nat) : Int) - 1) = (d : Int) := by omega
    rw [ed] at g10
    have hwd : IntKind.i64.wrap ((d : Int) - 1) = (d : Int) - 1 := w64_in (by omega) (by omega)
    obtain ⟨v', t', a1, a2, a3, a4, a5, a6⟩ := own_app (by_ := 24) (y := .sl t.length 0 3 1 (some 1)) (l2 := [q]) (ho.app [.cells true (cP q)]) (by simp; omega) (rd_lit (by simp) cP_len rfl) cP_len cP_cell (by simp; omega)
    simp only [XX, CC, YY, Nat.reduceAdd, Nat.reduceSub, Nat.reduceLeDiff, Nat.reduceLT, Nat.reduceEqDiff, reduceIte, ↓reduceIte, Nat.reduceBEq, PP, g1, g9, g10, dec_t (show (d : Int) ≥ 0 by omega), j1, j2, set_P, a1, hwd]
    refine hJ d _ _ (by omega) ⟨a5 s2 (Nat.le_refl _) (hx.app _), by omega, v', ?_, ?_, ?_, ?_, ?_, ?_, ?_, ?_⟩ <;> (try simp only [XX, CC, YY, Nat.reduceAdd, Nat.reduceSub, Nat.reduceLeDiff, Nat.reduceLT, Nat.reduceEqDiff, reduceIte, ↓reduceIte, Nat.reduceBEq, PP, g1, g3, g5, g7, g8, g9, g10])
    rw [hdr, List.reverse_cons]; exact a2
  | zero =>
    rw [List.drop_zero] at ho
    have kw2 := (blkP (hx.at fw2)).1
    have hrl : l.reverse.length ≤ 40 := by rw [List.length_reverse]; exact hll
    simp only [XX, CC, YY, Nat.reduceAdd, Nat.reduceSub, Nat.reduceLeDiff, Nat.reduceLT, Nat.reduceEqDiff, reduceIte, ↓reduceIte, Nat.reduceBEq, PP, g3, g9, g10, dec_f (show ¬ ((0 : Nat) : Int) - 1 ≥ 0 by omega), kw2]
    refine Run.mono _ _ _ _ _ ?_ (free_r _ vo w l.reverse hw (by omega) (fun p hq => hp p (by simpa using hq)) (ho.rd cP_len))
    rintro a s3 ⟨g, rfl, hg⟩
    rw [free_rev] at hg ⊢
    have x23 := hx.trans hg.ext
    have rg := hg.rd cP_len
    have hF := @free_snd w l
    have hno := @freeT_no w l
    generalize freeT w l = X at *
    have fw3 := x23.at fw2
    have fb3 := x23.at fb2
    have kw3 := (blkP fw3).1
    have kb3 := (blkP fb3).1
    simp only [XX, CC, YY, Nat.reduceAdd, Nat.reduceSub, Nat.reduceLeDiff, Nat.reduceLT, Nat.reduceEqDiff, reduceIte, ↓reduceIte, Nat.reduceBEq, PP, g7, g8, fi, Bool.not_true, gv_ff]
    refine (same_self _ f g X.1 (by omega) (rf.ext x23) rg).use ?_
    have em : X.2 = 0 ∨ ¬ X.2 = 0 := Classical.em _
    rcases em with c | c
    · have hS := hF c
      have hXp := snd_pf hw hS
      have c0 : (X.2 == 0) = true := by simp [c]
      simp only [XX, CC, YY, Nat.reduceAdd, Nat.reduceSub, Nat.reduceLeDiff, Nat.reduceLT, Nat.reduceEqDiff, reduceIte, ↓reduceIte, Nat.reduceBEq, PP, Bool.not_true, g7, g8, c0, g3, g5, kw3, kb3]
      refine Run.mono _ _ _ _ _ ?_ (reserve_r _ f w b X.1 hw hb (by omega) hXp (rf.ext x23))
      rintro a s4 ⟨r, rfl, hr⟩
      have x34 := hr.ext
      have rr := hr.rd cP_len
      have lR := res_len (w := w) (l := X.1) (b := b)
      have hno2 := @resT_no w b X.1
      have hbm := @back_math w b X.1 hw hS
      have hrs := @res_snd w b X.1 hS
      have kw4 := (blkP (x34.at fw3)).1
      have kb4 := (blkP (x34.at fb3)).1
      generalize hY : resT w X.1 b = Y at *
      have em2 : Y.2 = 0 ∨ ¬ Y.2 = 0 := Classical.em _
      rcases em2 with c2 | c2
      · obtain ⟨m1, m2, m3⟩ := hbm c2
        obtain ⟨k1, k2⟩ := hrs c2
        have hYp := snd_pf hw k1
        have c02 : (Y.2 == 0) = true := by simp [c2]
        simp only [XX, CC, YY, Nat.reduceAdd, Nat.reduceSub, Nat.reduceLeDiff, Nat.reduceLT, Nat.reduceEqDiff, reduceIte, ↓reduceIte, Nat.reduceBEq, PP, Bool.not_true, c02, g3, g5, kw4, kb4]
        refine Run.mono _ _ _ _ _ ?_ (give_r _ r w b Y.1 hw hb (by omega) hYp rr)
        rintro a s5 ⟨f5, rfl, h5⟩
        rw [m1] at h5 ⊢
        have x45 := h5.ext
        have x35 := x34.trans x45
        have kw5 := (blkP (x35.at fw3)).1
        have kb5 := (blkP (x35.at fb3)).1
        simp only [XX, CC, YY, Nat.reduceAdd, Nat.reduceSub, Nat.reduceLeDiff, Nat.reduceLT, Nat.reduceEqDiff, reduceIte, ↓reduceIte, Nat.reduceBEq, PP, g3, g5, kw5, kb5]
        refine Run.mono _ _ _ _ _ ?_ (reserve_r _ r w b Y.1 hw hb (by omega) hYp (rr.ext x45))
        rintro a s6 ⟨f6, rfl, h6⟩
        rw [m2]
        have x56 := h6.ext
        have x36 := x35.trans x56
        have kw6 := (blkP (x36.at fw3)).1
        have kb6 := (blkP (x36.at fb3)).1
        simp only [XX, CC, YY, Nat.reduceAdd, Nat.reduceSub, Nat.reduceLeDiff, Nat.reduceLT, Nat.reduceEqDiff, reduceIte, ↓reduceIte, Nat.reduceBEq, PP, g3, g5, g7, kw6, kb6]
        refine Run.mono _ _ _ _ _ ?_ (give_r _ f w b X.1 hw hb (by omega) hXp (rf.ext (x23.trans x36)))
        rintro a s7 ⟨f7, rfl, h7⟩
        rw [m3]
        have x67 := h7.ext
        simp only [XX, CC, YY, Nat.reduceAdd, Nat.reduceSub, Nat.reduceLeDiff, Nat.reduceLT, Nat.reduceEqDiff, reduceIte, ↓reduceIte, Nat.reduceBEq, PP, show ((0 : Int) == 0) = true from rfl, gv_tt, g7]
        refine (same_self _ f5 f X.1 (by omega) ((h5.rd cP_len).ext (x56.trans x67)) (rf.ext (x23.trans (x36.trans x67)))).use ?_
        simp only [XX, CC, YY, Nat.reduceAdd, Nat.reduceSub, Nat.reduceLeDiff, Nat.reduceLT, Nat.reduceEqDiff, reduceIte, ↓reduceIte, Nat.reduceBEq, PP, gv_tt, show ((110 : Int) == 110) = true from rfl]
        exact ret_drop (hx2.trans (x23.trans (x36.trans x67))) rfl rfl
      · have c02 : (Y.2 == 0) = false := by simp [c2]
        rw [hno2 c2] at rr
        simp only [XX, CC, YY, Nat.reduceAdd, Nat.reduceSub, Nat.reduceLeDiff, Nat.reduceLT, Nat.reduceEqDiff, reduceIte, ↓reduceIte, Nat.reduceBEq, PP, Bool.not_false, c02, rr.len, List.length_nil, show (((0 : Nat) : Int) == 0) = true from rfl]
        exact ret_drop (hx2.trans (x23.trans x34)) rfl rfl
    · have c0 : (X.2 == 0) = false := by simp [c]
      rw [hno c] at rf
      simp only [XX, CC, YY, Nat.reduceAdd, Nat.reduceSub, Nat.reduceLeDiff, Nat.reduceLT, Nat.reduceEqDiff, reduceIte, ↓reduceIte, Nat.reduceBEq, PP, Bool.not_true, Bool.not_false, g7, g8, c0, rf.len, List.length_nil, show (((0 : Nat) : Int) == 0) = true from rfl]
      exact ret_drop (hx2.trans x23) rfl rfl
end Go.Ev

/-! BuddyMemory. -/
namespace Go.Ev
set_option linter.unusedVariables false
set_option linter.unusedSimpArgs false
open Go.Ev.So Go.Ev.Bu

theorem Own.ext {α : Type} {n e : Nat} {enc : α → List AV} {t t' : St} {v : AV} {l : List α} (h : Own n e enc t v l) (x : Ext t t') : Own n e enc t' v l := by
  obtain ⟨r, rfl⟩ := x; exact h.app r
def BIn (v : AV) (a b : Nat) : Prop := ∀ i o e k c, v = .sl i o e k c → a ≤ i ∧ i < b
theorem BIn.of {α : Type} {n e : Nat} {enc : α → List AV} {t : St} {v : AV} {l : List α} (he : ∀ x, (enc x).length = e) (h : Own n e enc t v l) : BIn v n t.length := fun i o e' k c hv => ⟨h.ge hv, (h.rd he).lt hv⟩
theorem BIn.rd {α : Type} {e : Nat} {enc : α → List AV} {t : St} {v : AV} {l : List α} (h : Rd e enc t v l) : BIn v 0 t.length := fun i o e' k c hv => ⟨Nat.zero_le _, h.lt hv⟩
/-- Only x's block is another. -/
def Wiped (x : AV) (t t' : St) : Prop := t'.length = t.length ∧ ∀ i, (∀ o e k c, x ≠ .sl i o e k c) → t'[i]? = t[i]?
theorem Wiped.refl (x : AV) (t : St) : Wiped x t t := ⟨rfl, fun _ _ => rfl⟩
theorem Wiped.rd {α : Type} {e : Nat} {enc : α → List AV} {x : AV} {t t' : St} {v : AV} {l : List α} {a b c d : Nat} (h : Wiped x t t') (hv : Rd e enc t v l) (h1 : BIn v a b) (h2 : BIn x c d) (hd : b ≤ c ∨ d ≤ a) : Rd e enc t' v l := by
  refine hv.keep (fun i o e' k c' hvi => h.2 i fun o e k c hx => ?_) (by rw [h.1]; exact Nat.le_refl _)
  have := h1 _ _ _ _ _ hvi
  have := h2 _ _ _ _ _ hx
  omega
theorem Wiped.own {α : Type} {n e : Nat} {enc : α → List AV} {x : AV} {t t' : St} {v : AV} {l : List α} {a b c d : Nat} (h : Wiped x t t') (hv : Own n e enc t v l) (h1 : BIn v a b) (h2 : BIn x c d) (hd : b ≤ c ∨ d ≤ a) : Own n e enc t' v l := by
  refine hv.keep fun i _ hvi => h.2 i fun o e k c hx => ?_
  obtain ⟨_, _, _, _, hvi⟩ := hvi
  have := h1 _ _ _ _ _ hvi
  have := h2 _ _ _ _ _ hx
  omega
theorem Wiped.at {x : AV} {t t' : St} {i : Nat} {B : Blk} {c d : Nat} (h : Wiped x t t') (hi : t[i]? = some B) (h2 : BIn x c d) (hd : i < c) : t'[i]? = some B := by
  rw [h.2 i fun o e k c hx => by have := h2 _ _ _ _ _ hx; omega]; exact hi
theorem Wiped.ext {x : AV} {s t t' : St} {c d : Nat} (h : Wiped x t t') (hs : Ext s t) (h2 : BIn x c d) (hd : s.length ≤ c) : Ext s t' := by
  refine ext_get fun i hi => ?_
  rw [h.2 i fun o e k c hx => by have := h2 _ _ _ _ _ hx; omega]
  exact hs.get hi
/-- One more place written. -/
theorem wipe_step {n : Nat} {t0 t : St} {v : AV} {l : List Pfx} (hw : Wiped v t0 t) (ho : Own n 3 cP t v l) {i : Nat} (hi : i < l.length) (q : Pfx) :
    ∃ b t' l', (∀ k : IntKind, ixaA 3 v (.int k (i : Int)) = some (.ptr b (i * 3))) ∧ stA t (some 3) (.ptr b (i * 3)) (aP q) = some t' ∧ Wiped v t0 t' ∧ Own n 3 cP t' v l' ∧ l'.length = l.length := by
  obtain ⟨b, x, h1, ⟨o, e', k, c, hv⟩, h2, h3, _, h4⟩ := own_at cP_len cP_cell ho hi q
  refine ⟨b, _, _, h2, h3, ⟨by rw [List.length_set]; exact hw.1, fun i hx => ?_⟩, h4, by simp⟩
  rw [List.getElem?_set, if_neg (fun e => hx o e' k c (by rw [hv, e])), hw.2 i hx]

def memC : RC := r_w11_BuddyMemory.body.snd.snd.snd.snd.snd.snd.snd.snd.snd.snd.snd.snd.snd.snd
def memD : RC := memC.snd.snd.snd
set_option maxHeartbeats 4000000 in
/-- The last part: what was handed in stayed. -/
theorem mem_last (s t : St) (e : Env) (vf vm vy : AV) (w b p1 p2 : Pfx) (F Y : List Pfx) (bits : Int) (hw : Pf w) (hF : ∀ p ∈ F, Pf p) (hFl : F.length < 10000) (hYl : Y.length < 10000000) (hx : Ext s t)
    (fw : t[s.length]? = some (.cells true (cP w))) (fb : t[s.length + 1]? = some (.cells true (cP b))) (hbits : b.2 = bits)
    (g3 : e.get 3 = .ptr s.length 0) (g5 : e.get 5 = .ptr (s.length + 1) 0) (g7 : e.get 7 = vf) (g9 : e.get 9 = .int .i64 F.length) (g10 : e.get 10 = vm) (g13 : e.get 13 = vy)
    (h1 : Rd 3 cP t vf F) (h2 : Rd 3 cP t vm (F ++ [p1, p2])) (h3 : Rd 3 cP t vy Y) (hY : (takeT w F bits).1 = Y)
    (b1 : ∀ t, RunD T f_w11_block [.int .u64 1, .int .i64 64] t (aP p1) t) (b2 : ∀ t, RunD T f_w11_block [.int .u64 2, .int .i64 64] t (aP p2) t) :
    awp (Run T) memD (endK [.tmp 6] s fun r _ => r = .bool true) e t := by
  have kw := (blkP fw).1
  have kb := (blkP fb).2.2
  rw [hbits] at kb
  simp only [memD, memC, RC.snd, r_w11_BuddyMemory, XX, CC, YY, Nat.reduceAdd, Nat.reduceSub, Nat.reduceLeDiff, Nat.reduceLT, Nat.reduceEqDiff, reduceIte, ↓reduceIte, Nat.reduceBEq, PP, g3, g5, g7, kw, kb]
  refine Run.mono _ _ _ _ _ ?_ (take_r _ vf w F bits hw (by omega) hF h1)
  rintro a u ⟨vz, rfl, hz⟩
  rw [hY] at hz
  have xz := hz.ext
  have rz := hz.rd cP_len
  have hlen : (F ++ [p1, p2]).length = F.length + 2 := by simp
  have hw1 : IntKind.i64.wrap ((F.length : Int) + 1) = ((F.length + 1 : Nat) : Int) := by rw [w64_in (by omega) (by omega)]; omega
  simp only [XX, CC, YY, Nat.reduceAdd, Nat.reduceSub, Nat.reduceLeDiff, Nat.reduceLT, Nat.reduceEqDiff, reduceIte, ↓reduceIte, Nat.reduceBEq, PP, cP_cell, set_P]
  have xu : Ext t (u ++ [.cells true (cP (takeT w F bits).2.1)]) := xz.app _
  have r1 := h1.ext xu
  have r2 := h2.ext xu
  have r3 := h3.ext xu
  have r4 : Rd 3 cP (u ++ [.cells true (cP (takeT w F bits).2.1)]) vz Y := rz.ext ⟨_, rfl⟩
  generalize u ++ [Blk.cells true (cP (takeT w F bits).2.1)] = z at *
  obtain ⟨v1, a1, q1⟩ := rd_take (n := F.length) r2 cP_len (by omega)
  rw [List.take_left] at q1
  obtain ⟨c1, o1, i1, l1, _⟩ := rdP r2 (i := F.length) (q := p1) (by simp)
  obtain ⟨c2, o2, i2, l2, _⟩ := rdP r2 (i := F.length + 1) (q := p2) (by rw [List.getElem?_append_right (by omega)]; simp)
  have i2' : ixaA 3 vm (.int .i64 ((F.length + 1 : Nat) : Int)) = some (.ptr c2 o2) := i2 .i64
  refine drw_in [] rfl ?_
  simp only [List.append_nil, DD, CC, YY, Nat.reduceAdd, Nat.reduceSub, Nat.reduceLeDiff, Nat.reduceLT, Nat.reduceEqDiff, reduceIte, ↓reduceIte, Nat.reduceBEq, PP, g7, g9, g10, a1]
  refine dr_call (same_self _ v1 vf F (by omega) q1 r1) ?_
  simp only [DD, CC, YY, Nat.reduceAdd, Nat.reduceSub, Nat.reduceLeDiff, Nat.reduceLT, Nat.reduceEqDiff, reduceIte, ↓reduceIte, Nat.reduceBEq, PP, gv_tt, g9, g10, i1, l1]
  refine dr_call (b1 _) ?_
  simp only [DD, CC, YY, Nat.reduceAdd, Nat.reduceSub, Nat.reduceLeDiff, Nat.reduceLT, Nat.reduceEqDiff, reduceIte, ↓reduceIte, Nat.reduceBEq, PP, eq_P, decide_true, gv_tt, g9, g10, hw1, i2', l2]
  refine dr_call (b2 _) ?_
  simp only [DD, CC, YY, Nat.reduceAdd, Nat.reduceSub, Nat.reduceLeDiff, Nat.reduceLT, Nat.reduceEqDiff, reduceIte, ↓reduceIte, Nat.reduceBEq, PP, eq_P, decide_true, gv_tt, g13]
  refine dr_call (same_self _ vy vz Y (by omega) r3 r4) ?_
  simp only [DD, CC, YY, Nat.reduceAdd, Nat.reduceSub, Nat.reduceLeDiff, Nat.reduceLT, Nat.reduceEqDiff, reduceIte, ↓reduceIte, Nat.reduceBEq, PP, gv_tt]
  exact ret_drop (hx.trans xu) rfl rfl

set_option maxHeartbeats 4000000 in
/-- The three answers are written over. -/
theorem mem_wipe (s t : St) (e : Env) (vf vm vy vx vr vg : AV) (w b p1 p2 : Pfx) (F Y X R G : List Pfx) (bits : Int) (n1 n2 n3 n4 n5 n6 : Nat) (hw : Pf w) (hF : ∀ p ∈ F, Pf p) (hFl : F.length < 10000) (hYl : Y.length < 10000000) (hx : Ext s t)
    (fw : t[s.length]? = some (.cells true (cP w))) (fb : t[s.length + 1]? = some (.cells true (cP b))) (hbits : b.2 = bits)
    (g3 : e.get 3 = .ptr s.length 0) (g5 : e.get 5 = .ptr (s.length + 1) 0) (g7 : e.get 7 = vf) (g9 : e.get 9 = .int .i64 F.length) (g10 : e.get 10 = vm) (g13 : e.get 13 = vy) (g11 : e.get 11 = vx) (g16 : e.get 16 = vr) (g18 : e.get 18 = vg)
    (h1 : Rd 3 cP t vf F) (h2 : Rd 3 cP t vm (F ++ [p1, p2])) (h3 : Rd 3 cP t vy Y) (hY : (takeT w F bits).1 = Y)
    (hX : Own n1 3 cP t vx X) (hR : Own n3 3 cP t vr R) (hG : Own n5 3 cP t vg G) (hXl : X.length < 10000000) (hRl : R.length < 10000000) (hGl : G.length < 10000000)
    (bX : BIn vx n1 n2) (bR : BIn vr n3 n4) (bG : BIn vg n5 n6) (bf : BIn vf 0 n1) (bm : BIn vm 0 n1) (bY : BIn vy n2 n3) (ho : s.length + 2 ≤ n1 ∧ n1 ≤ n2 ∧ n2 ≤ n3 ∧ n3 ≤ n4 ∧ n4 ≤ n5)
    (b1 : ∀ t, RunD T f_w11_block [.int .u64 1, .int .i64 64] t (aP p1) t) (b2 : ∀ t, RunD T f_w11_block [.int .u64 2, .int .i64 64] t (aP p2) t) (b9 : ∃ q, ∀ t, RunD T f_w11_block [.int .u64 9, .int .i64 9] t (aP q) t) :
    awp (Run T) memC (endK [.tmp 6] s fun r _ => r = .bool true) e t := by
  obtain ⟨q9, b9⟩ := b9
  obtain ⟨TAIL, hT⟩ : ∃ c, c = memD := ⟨_, rfl⟩
  have hlast := mem_last
  rw [← hT] at hlast
  have hbody : memC = .seq memC.fst (.seq memC.snd.fst (.seq memC.snd.snd.fst TAIL)) := by rw [hT]; rfl
  rw [hbody]
  clear hbody hT
  simp only [memC, RC.fst, RC.snd, r_w11_BuddyMemory, XX, CC, YY, Nat.reduceAdd, Nat.reduceSub, Nat.reduceLeDiff, Nat.reduceLT, Nat.reduceEqDiff, reduceIte, ↓reduceIte, Nat.reduceBEq, PP]
  refine awp_rounds (fun d e t' => Wiped vx t t' ∧ ∃ (i : Nat) (L : List Pfx), i + d = X.length ∧ L.length = X.length ∧ Own n1 3 cP t' vx L ∧ e.get 3 = .ptr s.length 0 ∧ e.get 5 = .ptr (s.length + 1) 0 ∧ e.get 7 = vf ∧ e.get 9 = .int .i64 F.length ∧ e.get 10 = vm ∧ e.get 13 = vy ∧ e.get 11 = vx ∧ e.get 16 = vr ∧ e.get 18 = vg ∧ e.get 20 = .int .i64 i) X.length ?_ ?_
  · refine ⟨.refl _ _, 0, X, by omega, rfl, hX, ?_, ?_, ?_, ?_, ?_, ?_, ?_, ?_, ?_, ?_⟩ <;> (try simp only [XX, CC, YY, Nat.reduceAdd, Nat.reduceSub, Nat.reduceLeDiff, Nat.reduceLT, Nat.reduceEqDiff, reduceIte, ↓reduceIte, Nat.reduceBEq, PP, g3, g5, g7, g9, g10, g13, g11, g16, g18]) <;> rfl
  clear g3 g5 g7 g9 g10 g13 g11 g16 g18
  rintro J d e u hJ ⟨hwp, i, L, hi, hL, hoL, g3, g5, g7, g9, g10, g13, g11, g16, g18, g20⟩
  simp only [XX, CC, YY, Nat.reduceAdd, Nat.reduceSub, Nat.reduceLeDiff, Nat.reduceLT, Nat.reduceEqDiff, reduceIte, ↓reduceIte, Nat.reduceBEq, PP, g11, g20, (hoL.rd cP_len).len, hL]
  by_cases h : i < X.length
  · obtain ⟨bb, t', l', z1, z2, z3, z4, z5⟩ := wipe_step hwp hoL (i := i) (by omega) q9
    simp only [XX, CC, YY, Nat.reduceAdd, Nat.reduceSub, Nat.reduceLeDiff, Nat.reduceLT, Nat.reduceEqDiff, reduceIte, ↓reduceIte, Nat.reduceBEq, PP, dec_t (show (i : Int) < X.length by omega)]
    refine (b9 _).use ?_
    simp only [XX, CC, YY, Nat.reduceAdd, Nat.reduceSub, Nat.reduceLeDiff, Nat.reduceLT, Nat.reduceEqDiff, reduceIte, ↓reduceIte, Nat.reduceBEq, PP, g11, g20, z1, z2]
    refine hJ (d - 1) _ _ (by omega) ⟨z3, i + 1, l', by omega, by omega, z4, ?_, ?_, ?_, ?_, ?_, ?_, ?_, ?_, ?_, ?_⟩ <;> (try simp only [XX, CC, YY, Nat.reduceAdd, Nat.reduceSub, Nat.reduceLeDiff, Nat.reduceLT, Nat.reduceEqDiff, reduceIte, ↓reduceIte, Nat.reduceBEq, PP, g3, g5, g7, g9, g10, g13, g11, g16, g18, g20])
    rw [w64_nat (by omega)]
  simp only [XX, CC, YY, Nat.reduceAdd, Nat.reduceSub, Nat.reduceLeDiff, Nat.reduceLT, Nat.reduceEqDiff, reduceIte, ↓reduceIte, Nat.reduceBEq, PP, dec_f (show ¬ (i : Int) < X.length by omega)]
  have hx := hwp.ext hx bX (by omega)
  have fw := hwp.at fw bX (by omega)
  have fb := hwp.at fb bX (by omega)
  have h1 := hwp.rd h1 bf bX (.inl (Nat.le_refl _))
  have h2 := hwp.rd h2 bm bX (.inl (Nat.le_refl _))
  have h3 := hwp.rd h3 bY bX (.inr (Nat.le_refl _))
  have hR := hwp.own hR bR bX (.inr (by omega))
  have hG := hwp.own hG bG bX (.inr (by omega))
  clear hwp hJ g11 g20 hoL
  refine awp_rounds (fun d e t' => Wiped vr u t' ∧ ∃ (i : Nat) (L : List Pfx), i + d = R.length ∧ L.length = R.length ∧ Own n3 3 cP t' vr L ∧ e.get 3 = .ptr s.length 0 ∧ e.get 5 = .ptr (s.length + 1) 0 ∧ e.get 7 = vf ∧ e.get 9 = .int .i64 F.length ∧ e.get 10 = vm ∧ e.get 13 = vy ∧ e.get 16 = vr ∧ e.get 18 = vg ∧ e.get 21 = .int .i64 i) R.length ?_ ?_
  · refine ⟨.refl _ _, 0, R, by omega, rfl, hR, ?_, ?_, ?_, ?_, ?_, ?_, ?_, ?_, ?_⟩ <;> (try simp only [XX, CC, YY, Nat.reduceAdd, Nat.reduceSub, Nat.reduceLeDiff, Nat.reduceLT, Nat.reduceEqDiff, reduceIte, ↓reduceIte, Nat.reduceBEq, PP, g3, g5, g7, g9, g10, g13, g16, g18]) <;> rfl
  clear g3 g5 g7 g9 g10 g13 g16 g18 hi h
  rintro J d e u2 hJ ⟨hwp, i, L, hi, hL, hoL, g3, g5, g7, g9, g10, g13, g16, g18, g21⟩
  simp only [XX, CC, YY, Nat.reduceAdd, Nat.reduceSub, Nat.reduceLeDiff, Nat.reduceLT, Nat.reduceEqDiff, reduceIte, ↓reduceIte, Nat.reduceBEq, PP, g16, g21, (hoL.rd cP_len).len, hL]
  by_cases h : i < R.length
  · obtain ⟨bb, t', l', z1, z2, z3, z4, z5⟩ := wipe_step hwp hoL (i := i) (by omega) q9
    simp only [XX, CC, YY, Nat.reduceAdd, Nat.reduceSub, Nat.reduceLeDiff, Nat.reduceLT, Nat.reduceEqDiff, reduceIte, ↓reduceIte, Nat.reduceBEq, PP, dec_t (show (i : Int) < R.length by omega)]
    refine (b9 _).use ?_
    simp only [XX, CC, YY, Nat.reduceAdd, Nat.reduceSub, Nat.reduceLeDiff, Nat.reduceLT, Nat.reduceEqDiff, reduceIte, ↓reduceIte, Nat.reduceBEq, PP, g16, g21, z1, z2]
    refine hJ (d - 1) _ _ (by omega) ⟨z3, i + 1, l', by omega, by omega, z4, ?_, ?_, ?_, ?_, ?_, ?_, ?_, ?_, ?_⟩ <;> (try simp only [XX, CC, YY, Nat.reduceAdd, Nat.reduceSub, Nat.reduceLeDiff, Nat.reduceLT, Nat.reduceEqDiff, reduceIte, ↓reduceIte, Nat.reduceBEq, PP, g3, g5, g7, g9, g10, g13, g16, g18, g21])
    rw [w64_nat (by omega)]
  simp only [XX, CC, YY, Nat.reduceAdd, Nat.reduceSub, Nat.reduceLeDiff, Nat.reduceLT, Nat.reduceEqDiff, reduceIte, ↓reduceIte, Nat.reduceBEq, PP, dec_f (show ¬ (i : Int) < R.length by omega)]
  have hx := hwp.ext hx bR (by omega)
  have fw := hwp.at fw bR (by omega)
  have fb := hwp.at fb bR (by omega)
  have h1 := hwp.rd h1 bf bR (.inl (by omega))
  have h2 := hwp.rd h2 bm bR (.inl (by omega))
  have h3 := hwp.rd h3 bY bR (.inl (Nat.le_refl _))
  have hG := hwp.own hG bG bR (.inr (by omega))
  clear hwp hJ g16 g21 hoL
  refine awp_rounds (fun d e t' => Wiped vg u2 t' ∧ ∃ (i : Nat) (L : List Pfx), i + d = G.length ∧ L.length = G.length ∧ Own n5 3 cP t' vg L ∧ e.get 3 = .ptr s.length 0 ∧ e.get 5 = .ptr (s.length + 1) 0 ∧ e.get 7 = vf ∧ e.get 9 = .int .i64 F.length ∧ e.get 10 = vm ∧ e.get 13 = vy ∧ e.get 18 = vg ∧ e.get 22 = .int .i64 i) G.length ?_ ?_
  · refine ⟨.refl _ _, 0, G, by omega, rfl, hG, ?_, ?_, ?_, ?_, ?_, ?_, ?_, ?_⟩ <;> (try simp only [XX, CC, YY, Nat.reduceAdd, Nat.reduceSub, Nat.reduceLeDiff, Nat.reduceLT, Nat.reduceEqDiff, reduceIte, ↓reduceIte, Nat.reduceBEq, PP, g3, g5, g7, g9, g10, g13, g18]) <;> rfl
  clear g3 g5 g7 g9 g10 g13 g18 hi h
  rintro J d e u3 hJ ⟨hwp, i, L, hi, hL, hoL, g3, g5, g7, g9, g10, g13, g18, g22⟩
  simp only [XX, CC, YY, Nat.reduceAdd, Nat.reduceSub, Nat.reduceLeDiff, Nat.reduceLT, Nat.reduceEqDiff, reduceIte, ↓reduceIte, Nat.reduceBEq, PP, g18, g22, (hoL.rd cP_len).len, hL]
  by_cases h : i < G.length
  · obtain ⟨bb, t', l', z1, z2, z3, z4, z5⟩ := wipe_step hwp hoL (i := i) (by omega) q9
    simp only [XX, CC, YY, Nat.reduceAdd, Nat.reduceSub, Nat.reduceLeDiff, Nat.reduceLT, Nat.reduceEqDiff, reduceIte, ↓reduceIte, Nat.reduceBEq, PP, dec_t (show (i : Int) < G.length by omega)]
    refine (b9 _).use ?_
    simp only [XX, CC, YY, Nat.reduceAdd, Nat.reduceSub, Nat.reduceLeDiff, Nat.reduceLT, Nat.reduceEqDiff, reduceIte, ↓reduceIte, Nat.reduceBEq, PP, g18, g22, z1, z2]
    refine hJ (d - 1) _ _ (by omega) ⟨z3, i + 1, l', by omega, by omega, z4, ?_, ?_, ?_, ?_, ?_, ?_, ?_, ?_⟩ <;> (try simp only [XX, CC, YY, Nat.reduceAdd, Nat.reduceSub, Nat.reduceLeDiff, Nat.reduceLT, Nat.reduceEqDiff, reduceIte, ↓reduceIte, Nat.reduceBEq, PP, g3, g5, g7, g9, g10, g13, g18, g22])
    rw [w64_nat (by omega)]
  simp only [XX, CC, YY, Nat.reduceAdd, Nat.reduceSub, Nat.reduceLeDiff, Nat.reduceLT, Nat.reduceEqDiff, reduceIte, ↓reduceIte, Nat.reduceBEq, PP, dec_f (show ¬ (i : Int) < G.length by omega)]
  have hx := hwp.ext hx bG (by omega)
  have fw := hwp.at fw bG (by omega)
  have fb := hwp.at fb bG (by omega)
  have h1 := hwp.rd h1 bf bG (.inl (by omega))
  have h2 := hwp.rd h2 bm bG (.inl (by omega))
  have h3 := hwp.rd h3 bY bG (.inl (by omega))
  refine hlast s u3 _ vf vm vy w b p1 p2 F Y bits hw hF hFl hYl hx fw fb hbits ?_ ?_ ?_ ?_ ?_ ?_ h1 h2 h3 hY b1 b2 <;> (try simp only [XX, CC, YY, Nat.reduceAdd, Nat.reduceSub, Nat.reduceLeDiff, Nat.reduceLT, Nat.reduceEqDiff, reduceIte, ↓reduceIte, Nat.reduceBEq, PP, g3, g5, g7, g9, g10, g13])
end Go.Ev

/-! BuddyRow: the mathematics. -/
namespace Go.Ev.Bu
open Go.Ev
set_option linter.unusedVariables false
set_option linter.unusedSimpArgs false

def sumS : List Pfx → Nat
  | [] => 0
  | p :: l => sz p.2 + sumS l
theorem sumS_app : ∀ (a b : List Pfx), sumS (a ++ b) = sumS a + sumS b
  | [], b => by simp [sumS]
  | p :: a, b => by simp only [List.cons_append, sumS, sumS_app a b]; omega
theorem count_int (a n : Nat) : ∀ N : Nat, (List.range N).countP (fun x => decide (a ≤ x ∧ x < a + n)) = min N (a + n) - min N a
  | 0 => by simp
  | N + 1 => by
    rw [List.range_succ, List.countP_append, count_int a n N]
    simp only [List.countP_cons, List.countP_nil, Nat.zero_add]
    by_cases c : a ≤ N ∧ N < a + n
    · rw [if_pos (decide_eq_true c)]; omega
    · rw [if_neg (by simpa using c)]; omega
def memB (l : List Pfx) (x : Nat) : Bool := l.any fun p => decide (inB p x)
theorem memB_iff {l : List Pfx} {x : Nat} : memB l x = true ↔ mem l x := by
  unfold memB mem
  rw [List.any_eq_true]
  exact ⟨fun ⟨p, hp, h⟩ => ⟨p, hp, by simpa using h⟩, fun ⟨p, hp, h⟩ => ⟨p, hp, by simpa using h⟩⟩
theorem countP_or {α : Type} (p q : α → Bool) : ∀ (l : List α), (∀ x ∈ l, ¬ (p x = true ∧ q x = true)) → l.countP (fun x => p x || q x) = l.countP p + l.countP q
  | [], _ => by simp
  | x :: l, h => by
    rw [List.countP_cons, List.countP_cons, List.countP_cons, countP_or p q l fun y hy => h y (by simp [hy])]
    have := h x (by simp)
    cases hp : p x <;> cases hq : q x <;> simp [hp, hq] at * <;> omega
theorem sum_count (N : Nat) : ∀ {l : List Pfx}, l.Pairwise apart → (∀ p ∈ l, p.1 + sz p.2 ≤ N) → (List.range N).countP (memB l) = sumS l
  | [], _, _ => by
    simp only [sumS]
    rw [List.countP_eq_zero]
    intro x _
    simp [memB]
  | p :: l, h, hb => by
    have h1 := List.pairwise_cons.1 h
    have hp := hb p (by simp)
    have e : (List.range N).countP (memB (p :: l)) = (List.range N).countP (fun x => decide (p.1 ≤ x ∧ x < p.1 + sz p.2) || memB l x) := rfl
    rw [e, countP_or, count_int, sum_count N h1.2 fun q hq => hb q (by simp [hq]), sumS]
    · omega
    · rintro x _ ⟨k1, k2⟩
      obtain ⟨q, hq, hx⟩ := memB_iff.1 k2
      exact h1.1 q hq x (by simpa [inB] using k1) hx
/-- Blocks that are apart and make up w are as large as it. -/
theorem sum_whole {w : Pfx} {l : List Pfx} (hw : So w) (hwb : w.1 < 340282366920938463463374607431768211456) (h : l.Pairwise apart) (hc : ∀ p ∈ l, cov w p) (hm : ∀ x, mem l x ↔ inB w x) : sumS l = sz w.2 := by
  have hr := mult_room hw.1 hw.2.1 hwb hw.2.2
  have hb : ∀ p ∈ l, p.1 + sz p.2 ≤ w.1 + sz w.2 := by
    intro p hp
    have h1 := cov_sub (hc p hp) (x := p.1 + sz p.2 - 1) ⟨by have := sz_pos p.2; omega, by have := sz_pos p.2; omega⟩
    have := h1.2
    have := sz_pos p.2
    omega
  have h1 := sum_count (w.1 + sz w.2) h hb
  have h2 := sum_count (w.1 + sz w.2) (l := [w]) (by simp) (by simp)
  rw [← h1]
  have : (List.range (w.1 + sz w.2)).countP (memB l) = (List.range (w.1 + sz w.2)).countP (memB [w]) := by
    congr 1
    funext x
    rw [Bool.eq_iff_iff, memB_iff, memB_iff, hm, mem_one]
  rw [this, h2]
  simp [sumS]

theorem take_math {w : Pfx} {F : List Pfx} {bits : Int} (hw : Pf w) (hF : SndP w F) :
    ((takeT w F bits).2.2 = 1 ↔ ¬ (w.2 ≤ bits ∧ bits ≤ 128)) ∧ (w.2 ≤ bits ∧ bits ≤ 128 → ((takeT w F bits).2.2 = 0 ↔ fitsB F bits = true) ∧ ((takeT w F bits).2.2 = 0 ∨ (takeT w F bits).2.2 = 110)) ∧
    ((takeT w F bits).2.2 = 0 → (takeT w F bits).2.1.2 = bits ∧ cov w (takeT w F bits).2.1 ∧ (takeT w F bits).1 = subL w F [(takeT w F bits).2.1] ∧ ∀ x, inB (takeT w F bits).2.1 x → mem F x) := by
  have hs := (snd_iff (snd_pf hw hF)).2 hF
  unfold takeT
  by_cases c : w.2 ≤ bits ∧ bits ≤ 128
  · rw [if_pos ⟨hs, c⟩]
    have hbf := best_fits F bits
    cases hbo : best F bits with
    | none =>
      have hf := hbf.1 hbo
      refine ⟨⟨fun h => absurd h (by simp), fun h => absurd c h⟩, fun _ => ⟨⟨fun h => absurd h (by simp), fun h => by rw [hf] at h; cases h⟩, .inr rfl⟩, fun h => absurd h (by simp)⟩
    | some q =>
      have hf : fitsB F bits = true := by
        cases e : fitsB F bits with
        | true => rfl
        | false => rw [hbf.2 e] at hbo; cases hbo
      obtain ⟨h1, h2, h3⟩ := best_at hbo
      have hq := List.mem_of_getElem? h2
      obtain ⟨k1, k2⟩ := part_so (hF.2.1.so _ hq) h3 c.2
      refine ⟨⟨fun h => absurd h (by simp), fun h => absurd c h⟩, fun _ => ⟨⟨fun _ => hf, fun _ => rfl⟩, .inl rfl⟩, fun _ => ⟨rfl, cov_trans (hF.2.2 _ hq) k2, rfl, fun x hx => ⟨_, hq, cov_sub k2 hx⟩⟩⟩
  · rw [if_neg (fun h => c h.2)]
    exact ⟨⟨fun _ => c, fun _ => rfl⟩, fun h => absurd h c, fun h => absurd h (by simp)⟩

/-- What is free and what is taken. -/
structure RowM (w : Pfx) (F K : List Pfx) : Prop where
  ws : So w
  cv : ∀ p ∈ K, cov w p
  pw : K.Pairwise apart
  eq : F = subL w [w] K
theorem RowM.F {w : Pfx} {F K : List Pfx} (h : RowM w F K) : SndP w F ∧ ∀ x, mem F x ↔ inB w x ∧ ¬ mem K x := by
  obtain ⟨a, b⟩ := free_mem h.ws h.cv
  rw [← h.eq] at a b
  exact ⟨a, b⟩
theorem RowM.start {w : Pfx} (hw : So w) : RowM w [w] [] := ⟨hw, by simp, by simp, (whole_sub hw).symm⟩
theorem RowM.done {w : Pfx} {F : List Pfx} (h : RowM w F []) : F = [w] := by rw [h.eq, whole_sub h.ws]
theorem RowM.len {w : Pfx} {F K : List Pfx} (h : RowM w F K) : F.length ≤ 1 + 128 * (1 + K.length) := by rw [h.eq]; exact sub_le h.ws
theorem RowM.take {w b : Pfx} {F K : List Pfx} (h : RowM w F K) (hb : cov w b) (hin : ∀ x, inB b x → mem F x) : RowM w (subL w F [b]) (K ++ [b]) := by
  refine ⟨h.ws, fun p hp => ?_, List.pairwise_append.2 ⟨h.pw, by simp, fun p hp q hq x hx hy => ?_⟩, by rw [h.eq, free_step h.ws h.cv hb]⟩
  · rcases List.mem_append.1 hp with k | k
    · exact h.cv p k
    · simp at k; rw [k]; exact hb
  · simp at hq; subst hq
    exact ((h.F.2 x).1 (hin x hy)).2 ⟨p, hp, hx⟩
/-- One of the taken blocks is given back. -/
theorem RowM.give {w b : Pfx} {F K K' : List Pfx} (hw : Pf w) (h : RowM w F K) (hp : K.Perm (b :: K')) : giveT w F b = (subL w (b :: F) [], 0) ∧ RowM w (subL w (b :: F) []) K' := by
  obtain ⟨h1, h2⟩ := h.F
  have hs := (snd_iff (snd_pf hw h1)).2 h1
  have hbK : b ∈ K := hp.mem_iff.2 (by simp)
  have hbc := h.cv b hbK
  have hbs := (cov_so hbc).2
  have hpw : (b :: K').Pairwise apart := hp.pairwise h.pw (fun h => apart_symm h)
  have hpw' := List.pairwise_cons.1 hpw
  have m1 : metB F b = false := by
    cases e : metB F b with
    | false => rfl
    | true =>
      obtain ⟨x, hx, hy⟩ := (met_iff h1.2.1.so hbs).1 e
      exact absurd ⟨b, hbK, hy⟩ ((h2 x).1 hx).2
  have hcv : ∀ p ∈ K', cov w p := fun p hp' => h.cv p (hp.mem_iff.2 (by simp [hp']))
  refine ⟨by unfold giveT; rw [if_pos ⟨hs, hbc⟩, if_neg (by rw [m1]; simp)], h.ws, hcv, hpw'.2, ?_⟩
  have hyes : ∀ q ∈ b :: F, So q := fun q hq => by
    rcases List.mem_cons.1 hq with e | e
    · rw [e]; exact hbs
    · exact h1.2.1.so q e
  obtain ⟨k1, k2⟩ := sub_ok (w := w) (yes := b :: F) (no := []) h.ws hyes (by simp)
  refine sub_uniq h.ws (fun q hq => by simp at hq; rw [hq]; exact h.ws) (fun q hq => (cov_so (hcv q hq)).2) k1.2.1 fun x => ?_
  rw [k2, mem_cons, h2, mem_one, mem_perm hp, mem_cons]
  constructor
  · rintro ⟨a, c | c, _⟩
    · exact ⟨a, a, fun ⟨q, hq, hx⟩ => hpw'.1 q hq x c hx⟩
    · exact ⟨a, a, fun k => c.2 (.inr k)⟩
  · rintro ⟨a, _, c⟩
    refine ⟨a, ?_, mem_nil x⟩
    by_cases e : inB b x
    · exact .inl e
    · exact .inr ⟨a, fun k => k.elim e c⟩
/-- All blocks, free and taken. -/
theorem RowM.all {w : Pfx} {F K : List Pfx} (hw : Pf w) (h : RowM w F K) : (∀ p ∈ F ++ K, cov w p) ∧ (F ++ K).Pairwise apart ∧ sumS (F ++ K) = sz w.2 := by
  obtain ⟨h1, h2⟩ := h.F
  have hc : ∀ p ∈ F ++ K, cov w p := fun p hp => by
    rcases List.mem_append.1 hp with k | k
    · exact h1.2.2 p k
    · exact h.cv p k
  have hpw : (F ++ K).Pairwise apart := List.pairwise_append.2 ⟨h1.2.1.ap, h.pw, fun p hp q hq x hx hy => ((h2 x).1 ⟨p, hp, hx⟩).2 ⟨q, hq, hy⟩⟩
  refine ⟨hc, hpw, sum_whole h.ws hw.1 hpw hc fun x => ?_⟩
  rw [mem_append, h2]
  constructor
  · rintro (k | ⟨p, hp, hx⟩)
    · exact k.1
    · exact cov_sub (h.cv p hp) hx
  · intro k
    by_cases c : mem K x
    · exact .inr c
    · exact .inl ⟨k, c⟩
/-- The last one in place of the k-th. -/
theorem swap_perm {K : List Pfx} {k : Nat} {b q : Pfx} (hk : K[k]? = some b) (hq : K[K.length - 1]? = some q) : K.Perm (b :: (K.set k q).take (K.length - 1)) := by
  have hkl := (List.getElem?_eq_some_iff.1 hk).1
  obtain ⟨K0, rfl⟩ : ∃ K0, K = K0 ++ [q] := by
    refine ⟨K.take (K.length - 1), ?_⟩
    have h := (take_snoc hq)
    rw [show K.length - 1 + 1 = K.length by omega, List.take_length] at h
    exact h
  rw [List.length_append, List.length_singleton, Nat.add_sub_cancel]
  rw [List.length_append, List.length_singleton] at hkl
  by_cases c : k < K0.length
  · have hk0 : K0[k]? = some b := by rw [List.getElem?_append_left c] at hk; exact hk
    rw [List.set_append_left _ _ c, List.take_append_of_le_length (by simp), List.take_of_length_le (by simp)]
    have hb : b = K0[k] := (List.getElem?_eq_some_iff.1 hk0).2.symm
    have hsp : K0 = K0.take k ++ (b :: K0.drop (k + 1)) := by rw [hb, ← List.drop_eq_getElem_cons c, List.take_append_drop]
    have hset : K0.set k q = K0.take k ++ (q :: K0.drop (k + 1)) := by rw [List.set_eq_take_append_cons_drop, if_pos c]
    rw [hset]
    conv => lhs; rw [hsp]
    have p1 : (K0.take k ++ (b :: K0.drop (k + 1)) ++ [q]).Perm (b :: (K0.take k ++ K0.drop (k + 1)) ++ [q]) := (List.perm_middle).append_right _
    have p2 : (b :: (K0.take k ++ K0.drop (k + 1)) ++ [q]).Perm (b :: (K0.take k ++ (q :: K0.drop (k + 1)))) := by
      refine List.Perm.cons b ?_
      have p3 : (q :: (K0.take k ++ K0.drop (k + 1))).Perm (K0.take k ++ (q :: K0.drop (k + 1))) := List.perm_middle.symm
      exact List.perm_append_comm.trans p3
    exact p1.trans p2
  · have hk' : k = K0.length := by omega
    subst hk'
    rw [List.getElem?_append_right (Nat.le_refl _)] at hk
    simp at hk
    subst hk
    rw [List.set_append_right _ _ (Nat.le_refl _), List.take_append_of_le_length (Nat.le_refl _), List.take_length]
    exact List.perm_append_comm
end Go.Ev.Bu

/-! The law's apart. -/
namespace Go.Ev
set_option linter.unusedVariables false
set_option linter.unusedSimpArgs false
open Go.Ev.So Go.Ev.Bu

theorem stQ {t : St} {b x y : Nat} (h : t[b]? = some (.cells true (cA x))) (l : St) : stA (t ++ l) (some 2) (.ptr b 0) (aA y) = some (t.set b (.cells true (cA y)) ++ l) := by
  have hlt := (List.getElem?_eq_some_iff.1 h).1
  rw [st_agg (cA_len y), wr_own (cs := cA x) (by rw [List.getElem?_append_left hlt]; exact h), if_pos ⟨by simp [cA_len], cA_cell y⟩, List.set_append_left _ _ hlt]
  rfl
theorem span_so {p : Pfx} (h : So p) : spanV p = (p.1, lastN p.1 p.2) := if_pos h
theorem span_size {p : Pfx} (h : So p) (hp : p.1 < 340282366920938463463374607431768211456) : (lastN p.1 p.2 + 340282366920938463463374607431768211456 - p.1) % 340282366920938463463374607431768211456 = sz p.2 - 1 ∧ (sz p.2 - 1 + 1) % 340282366920938463463374607431768211456 = sz p.2 % 340282366920938463463374607431768211456 ∧ sz p.2 - 1 < 340282366920938463463374607431768211456 := by
  have h1 := lastN_lt h hp
  have h2 := sz_pos p.2
  have h3 := sz_le h.1
  have h4 : lastN p.1 p.2 = p.1 + (sz p.2 - 1) := rfl
  generalize lastN p.1 p.2 = y at *
  generalize sz p.2 = z at *
  generalize p.1 = x at *
  refine ⟨by omega, by congr 1; omega, by omega⟩
theorem sumS_take {l : List Pfx} {i : Nat} {q : Pfx} (h : l[i]? = some q) : sumS (l.take (i + 1)) = sumS (l.take i) + sz q.2 := by
  rw [take_snoc h, sumS_app]; simp [sumS]
theorem eqA_self (n : Nat) : eqA (.st (.one 0 .i (.one 1 .i .nil))) (aA n) (aA n) = some true := by rw [eq_A, decide_eq_true rfl]

set_option maxHeartbeats 4000000 in
theorem apart11_r (s : St) (vF vK : AV) (w : Pfx) (F K : List Pfx) (hw : Pf w) (hM : RowM w F K) (hFl : F.length < 100000) (hKl : K.length < 100000) (hF : Rd 3 cP s vF F) (hK : Rd 3 cP s vK K) :
    RunD T f_w11_apart [aP w, vF, vK] s (.bool true) s := by
  refine run_body (F := r_w11_apart) rfl (by simp [r_w11_apart]) ?_
  obtain ⟨hcov, hpw, hsum⟩ := hM.all hw
  have hSF := hM.F.1
  have hws := hM.ws
  have hsb := (snd_iff (snd_pf hw hSF)).2 hSF
  obtain ⟨N, hN⟩ : ∃ N, N = F.length + K.length := ⟨_, rfl⟩
  have hwN : IntKind.i64.wrap ((F.length : Int) + (K.length : Int)) = ((N : Nat) : Int) := by rw [w64_in (by omega) (by omega)]; omega
  have om : Own (s.length + 1) 3 cP (s ++ [.cells true (cP w), .cells true (List.replicate N [AV.int .u64 0, .int .u64 0, .int .i64 0]).flatten]) (.sl (s.length + 1) 0 3 0 none) ([] : List Pfx) := .inr ⟨s.length + 1, none, _, Nat.le_refl _, .inl rfl, rfl, by simp, un_make N⟩
  obtain ⟨m1, u1, e1, o1, e3, e4, e5, e6⟩ := own_app (by_ := 24) om (by simp) (hF.ext ⟨_, rfl⟩) cP_len cP_cell (by simp; omega)
  rw [List.nil_append] at o1
  have xu1 : Ext (s ++ [.cells true (cP w)]) u1 := e5 _ (by simp) ⟨[.cells true (List.replicate N [AV.int .u64 0, .int .u64 0, .int .i64 0]).flatten], by rw [List.append_assoc]; rfl⟩
  have hu1 := xu1.len
  have xs1 : Ext s u1 := Ext.trans ⟨_, rfl⟩ xu1
  obtain ⟨m2, u, q1, o2, q3, q4, q5, q6⟩ := own_app (by_ := 24) o1 (by simpa using hu1) (hK.ext xs1) cP_len cP_cell (by omega)
  have xu : Ext (s ++ [.cells true (cP w)]) u := q5 _ (by simp) xu1
  have xs : Ext s u := Ext.trans ⟨_, rfl⟩ xu
  have ra := o2.rd cP_len
  have fw := xu.at (b := s.length) (B := .cells true (cP w)) (by simp)
  have z2 : [AV.int .u64 0, AV.int .u64 0] = cA 0 := rfl
  have h01 : [AV.int .u64 0, AV.int .u64 1] = cA 1 := rfl
  simp only [r_w11_apart, XX, CC, YY, Nat.reduceAdd, Nat.reduceSub, Nat.reduceLeDiff, Nat.reduceLT, Nat.reduceEqDiff, reduceIte, ↓reduceIte, Nat.reduceBEq, PP, hF.len, hK.len, hwN, mks_0 (show N * (24 + 1) ≤ 35184372088832 by omega), e1, q1, z2]
  generalize hA : F ++ K = A at *
  have hAl : A.length = N := by rw [← hA, List.length_append, hN]
  have hpf : ∀ p ∈ A, Pf p := fun p hp => cov_Pf hw (hcov p hp)
  clear om e1 e3 e4 e5 e6 q1 q3 q4 q5 q6 o1 o2
  refine awp_rounds (fun d e t => Ext u t ∧ ∃ (i S : Nat), t[u.length]? = some (.cells true (cA S)) ∧ S = sumS (A.take i) % 340282366920938463463374607431768211456 ∧ i + d = N ∧ e.get 1 = vF ∧ e.get 3 = .ptr s.length 0 ∧ e.get 7 = m2 ∧ e.get 8 = .ptr u.length 0 ∧ e.get 9 = .int .i64 i) N ?_ ?_
  · refine ⟨⟨_, rfl⟩, 0, 0, by simp [setL, cA], rfl, by omega, ?_, ?_, ?_, ?_, ?_⟩ <;> (try simp only [XX, CC, YY, Nat.reduceAdd, Nat.reduceSub, Nat.reduceLeDiff, Nat.reduceLT, Nat.reduceEqDiff, reduceIte, ↓reduceIte, Nat.reduceBEq, PP]) <;> rfl
  rintro J d e t hJ ⟨hx, i, S, h0, hS, hi, g1, g3, g7, g8, g9⟩
  have rt := ra.ext hx
  have fwt := hx.at fw
  have kw := (blkP fwt).1
  have hSl : S < 340282366920938463463374607431768211456 := by rw [hS]; exact Nat.mod_lt _ (by decide)
  simp only [XX, CC, YY, Nat.reduceAdd, Nat.reduceSub, Nat.reduceLeDiff, Nat.reduceLT, Nat.reduceEqDiff, reduceIte, ↓reduceIte, Nat.reduceBEq, PP, g3, g7, g9, rt.len, hAl]
  by_cases h : i < N
  · obtain ⟨q, hq, _⟩ := drop_get (l := A) (i := i) (by omega)
    have hqA := List.mem_of_getElem? hq
    have hqc := hcov q hqA
    have hqs := (cov_so hqc).2
    have hqp := hpf q hqA
    obtain ⟨b, o, j1, j2, _, _, j3, _⟩ := rdP rt hq
    simp only [dec_t (show (i : Int) < N by omega), XX, CC, YY, Nat.reduceAdd, Nat.reduceSub, Nat.reduceLeDiff, Nat.reduceLT, Nat.reduceEqDiff, reduceIte, ↓reduceIte, Nat.reduceBEq, PP]
    refine drw_in [] rfl ?_
    simp only [List.append_nil, DD, CC, YY, Nat.reduceAdd, Nat.reduceSub, Nat.reduceLeDiff, Nat.reduceLT, Nat.reduceEqDiff, reduceIte, ↓reduceIte, Nat.reduceBEq, PP, g3, g7, g9, kw, j1, j2]
    refine dr_call (covers_r _ w q hw hqp) ?_
    simp only [DD, CC, YY, Nat.reduceAdd, Nat.reduceSub, Nat.reduceLeDiff, Nat.reduceLT, Nat.reduceEqDiff, reduceIte, ↓reduceIte, Nat.reduceBEq, PP, dec_t hqc, Bool.not_true]
    refine awp_rounds (fun d e t' => t' = t ∧ ∃ k : Nat, k + d = i ∧ e.get 1 = vF ∧ e.get 3 = .ptr s.length 0 ∧ e.get 7 = m2 ∧ e.get 8 = .ptr u.length 0 ∧ e.get 9 = .int .i64 i ∧ e.get 10 = .int .i64 k) i ?_ ?_
    · refine ⟨rfl, 0, by omega, ?_, ?_, ?_, ?_, ?_, ?_⟩ <;> (try simp only [XX, CC, YY, Nat.reduceAdd, Nat.reduceSub, Nat.reduceLeDiff, Nat.reduceLT, Nat.reduceEqDiff, reduceIte, ↓reduceIte, Nat.reduceBEq, PP, g1, g3, g7, g8, g9]) <;> rfl
    clear g1 g3 g7 g8 g9
    rintro J2 d2 e t' hJ2 ⟨rfl, k, hk, g1, g3, g7, g8, g9, g10⟩
    simp only [XX, CC, YY, Nat.reduceAdd, Nat.reduceSub, Nat.reduceLeDiff, Nat.reduceLT, Nat.reduceEqDiff, reduceIte, ↓reduceIte, Nat.reduceBEq, PP, g9, g10]
    by_cases hki : k < i
    · obtain ⟨p, hpk, _⟩ := drop_get (l := A) (i := k) (by omega)
      have hpA := List.mem_of_getElem? hpk
      have hps := (cov_so (hcov p hpA)).2
      obtain ⟨b0, o0, i1, i2, _⟩ := rdP rt hpk
      have hne : ¬ meetsN q p := by
        rw [meets_iff hqs hps]
        refine fun hn => hn ?_
        have hkl := (List.getElem?_eq_some_iff.1 hpk)
        have hil := (List.getElem?_eq_some_iff.1 hq)
        have := List.pairwise_iff_getElem.1 hpw k i hkl.1 hil.1 hki
        rw [hkl.2, hil.2] at this
        exact apart_symm this
      simp only [dec_t (show (k : Int) < i by omega), XX, CC, YY, Nat.reduceAdd, Nat.reduceSub, Nat.reduceLeDiff, Nat.reduceLT, Nat.reduceEqDiff, reduceIte, ↓reduceIte, Nat.reduceBEq, PP]
      refine drw_in [] rfl ?_
      simp only [List.append_nil, DD, CC, YY, Nat.reduceAdd, Nat.reduceSub, Nat.reduceLeDiff, Nat.reduceLT, Nat.reduceEqDiff, reduceIte, ↓reduceIte, Nat.reduceBEq, PP, g7, g9, g10, j1, j2, i1, i2]
      refine dr_call (meets_r _ q p hqp (hpf p hpA)) ?_
      simp only [DD, CC, YY, Nat.reduceAdd, Nat.reduceSub, Nat.reduceLeDiff, Nat.reduceLT, Nat.reduceEqDiff, reduceIte, ↓reduceIte, Nat.reduceBEq, PP, dec_f hne, g10]
      refine hJ2 (d2 - 1) _ _ (by omega) ⟨rfl, k + 1, by omega, ?_, ?_, ?_, ?_, ?_, ?_⟩ <;> (try simp only [XX, CC, YY, Nat.reduceAdd, Nat.reduceSub, Nat.reduceLeDiff, Nat.reduceLT, Nat.reduceEqDiff, reduceIte, ↓reduceIte, Nat.reduceBEq, PP, g1, g3, g7, g8, g9, g10])
      rw [w64_nat (by omega)]
    · clear hJ2
      obtain ⟨z1, z3, z4⟩ := span_size hqs hqp.1
      have hll := lastN_lt hqs hqp.1
      have kR := fun (l : List Blk) => blkR (t := t' ++ (.cells true (cR (q.1, lastN q.1 q.2)) :: l)) (b := t'.length) (q := (q.1, lastN q.1 q.2)) (by simp)
      have kR1 := fun l => (kR l).2.1
      have kR2 := fun l => (kR l).2.2.1
      have kN := fun (n : Nat) (x : Blk) (l : List Blk) => (blkA (t := t' ++ (x :: .cells true (cA n) :: l)) (b := t'.length + 1) (q := n) (by simp)).1
      have kS := fun l => (blkA h0).2 l
      have hsub := fun t => sub_r t (lastN q.1 q.2) q.1 hll hqp.1
      rw [z1] at hsub
      have hadd := fun t => add_r t (sz q.2 - 1) 1 z4 (by decide)
      rw [z3] at hadd
      have hadd2 := fun t => add_r t S (sz q.2 % 340282366920938463463374607431768211456) hSl (Nat.mod_lt _ (by decide))
      have hw1 : IntKind.i64.wrap ((i : Int) + 1) = ((i + 1 : Nat) : Int) := by rw [w64_in (by omega) (by omega)]; omega
      simp only [dec_f (show ¬ (k : Int) < i by omega), XX, CC, YY, Nat.reduceAdd, Nat.reduceSub, Nat.reduceLeDiff, Nat.reduceLT, Nat.reduceEqDiff, reduceIte, ↓reduceIte, Nat.reduceBEq, PP, g7, g9, j1, j2]
      refine (span_r _ q hqp).use ?_
      rw [span_so hqs]
      simp only [XX, CC, YY, Nat.reduceAdd, Nat.reduceSub, Nat.reduceLeDiff, Nat.reduceLT, Nat.reduceEqDiff, reduceIte, ↓reduceIte, Nat.reduceBEq, PP, kR1, kR2]
      refine (hsub _).use ?_
      simp only [XX, CC, YY, Nat.reduceAdd, Nat.reduceSub, Nat.reduceLeDiff, Nat.reduceLT, Nat.reduceEqDiff, reduceIte, ↓reduceIte, Nat.reduceBEq, PP, set_AA, kN, h01]
      refine (hadd _).use ?_
      simp only [XX, CC, YY, Nat.reduceAdd, Nat.reduceSub, Nat.reduceLeDiff, Nat.reduceLT, Nat.reduceEqDiff, reduceIte, ↓reduceIte, Nat.reduceBEq, PP, set_AA, kN, g8, kS]
      refine (hadd2 _).use ?_
      simp only [XX, CC, YY, Nat.reduceAdd, Nat.reduceSub, Nat.reduceLeDiff, Nat.reduceLT, Nat.reduceEqDiff, reduceIte, ↓reduceIte, Nat.reduceBEq, PP, set_AA, g8, stQ h0, g9, hw1]
      refine hJ (d - 1) _ _ (by omega) ⟨(hx.set (Nat.le_refl _) _).app _, i + 1, (S + sz q.2 % 340282366920938463463374607431768211456) % 340282366920938463463374607431768211456, ?_, ?_, by omega, ?_, ?_, ?_, ?_, ?_⟩ <;> (try simp only [XX, CC, YY, Nat.reduceAdd, Nat.reduceSub, Nat.reduceLeDiff, Nat.reduceLT, Nat.reduceEqDiff, reduceIte, ↓reduceIte, Nat.reduceBEq, PP, g1, g3, g7, g8, g9])
      · have := (List.getElem?_eq_some_iff.1 h0).1
        rw [List.getElem?_append_left (by simpa using this), key_set this]
      · rw [sumS_take hq, hS]; omega
  · rw [List.take_of_length_le (by omega), hsum] at hS
    subst hS
    obtain ⟨z1, z3, z4⟩ := span_size hws hw.1
    have hll := lastN_lt hws hw.1
    have kR := fun (l : List Blk) => blkR (t := t ++ (.cells true (cR (w.1, lastN w.1 w.2)) :: l)) (b := t.length) (q := (w.1, lastN w.1 w.2)) (by simp)
    have kR1 := fun l => (kR l).2.1
    have kR2 := fun l => (kR l).2.2.1
    have kN := fun (n : Nat) (x : Blk) (l : List Blk) => (blkA (t := t ++ (x :: .cells true (cA n) :: l)) (b := t.length + 1) (q := n) (by simp)).1
    have kS := fun l => (blkA h0).2 l
    have kwx := fun l => ldA_ext kw l
    have hsub := fun t => sub_r t (lastN w.1 w.2) w.1 hll hw.1
    rw [z1] at hsub
    have hadd := fun t => add_r t (sz w.2 - 1) 1 z4 (by decide)
    rw [z3] at hadd
    simp only [dec_f (show ¬ (i : Int) < N by omega), XX, CC, YY, Nat.reduceAdd, Nat.reduceSub, Nat.reduceLeDiff, Nat.reduceLT, Nat.reduceEqDiff, reduceIte, ↓reduceIte, Nat.reduceBEq, PP, g3, kw]
    refine (span_r _ w hw).use ?_
    rw [span_so hws]
    simp only [XX, CC, YY, Nat.reduceAdd, Nat.reduceSub, Nat.reduceLeDiff, Nat.reduceLT, Nat.reduceEqDiff, reduceIte, ↓reduceIte, Nat.reduceBEq, PP, kR1, kR2]
    refine (hsub _).use ?_
    simp only [XX, CC, YY, Nat.reduceAdd, Nat.reduceSub, Nat.reduceLeDiff, Nat.reduceLT, Nat.reduceEqDiff, reduceIte, ↓reduceIte, Nat.reduceBEq, PP, set_AA, kN, h01]
    refine (hadd _).use ?_
    have key : eqA (.st (.one 0 .i (.one 1 .i .nil))) (aA (sz w.2 % 340282366920938463463374607431768211456)) (aA (sz w.2 % 340282366920938463463374607431768211456)) = some true := eqA_self _
    simp only [XX, CC, YY, Nat.reduceAdd, Nat.reduceSub, Nat.reduceLeDiff, Nat.reduceLT, Nat.reduceEqDiff, reduceIte, ↓reduceIte, Nat.reduceBEq, PP, set_AA, kN, g1, g3, g8, kS, key, kwx, gv_tt]
    refine (sound11_r _ vF w F hw (by omega) (snd_pf hw hSF) ((hF.ext (xs.trans hx)).ext ⟨_, rfl⟩)).use ?_
    rw [hsb]
    (try simp only [XX, CC, YY, Nat.reduceAdd, Nat.reduceSub, Nat.reduceLeDiff, Nat.reduceLT, Nat.reduceEqDiff, reduceIte, ↓reduceIte, Nat.reduceBEq, PP, gv_tt])
    exact ret_drop ((xs.trans hx).app _) rfl ⟨rfl, rfl⟩
end Go.Ev

/-! The arguments' types: addresses and ranges. -/
namespace Go.Ev
open Go.ChangeShapes Go.WideShapes Go.ChangeAt Go.RowKit Go.Proofs
set_option maxRecDepth 100000
set_option linter.unusedVariables false
set_option linter.unusedSimpArgs false

theorem HL_of (x y : Int) (hx : (Lit.int .u64 x).wf = true) (hy : (Lit.int .u64 y).wf = true) : ∃ n : Nat, n < 340282366920938463463374607431768211456 ∧ x = H n ∧ y = L n := by
  have h1 : 0 ≤ x ∧ x ≤ 18446744073709551615 := by simpa [Lit.wf, IntKind.min, IntKind.max, IntKind.signed, IntKind.bits] using hx
  have h2 : 0 ≤ y ∧ y ≤ 18446744073709551615 := by simpa [Lit.wf, IntKind.min, IntKind.max, IntKind.signed, IntKind.bits] using hy
  exact ⟨x.toNat * 18446744073709551616 + y.toNat, by omega, by unfold H; omega, by unfold L; omega⟩

section
variable {Hh : Type} {enc : TypeId × Value → Hh} {w : World} {base : Nat} {spare : Nat → Bool} {held : Bool} {fuel : Nat} {cs : List Value} {x : DataW Hh × List MemPlace}
theorem trod_A (h : DataW.trod enc Try.prog w base spare held fuel 24 cs = some x) : ∃ q : Nat, q < 340282366920938463463374607431768211456 ∧ ∀ m, VRs m (cA q) cs := by
  obtain ⟨xs, n, _, hx, hl, hlen, hf⟩ := DataW.trod_struct Try.underlying24 h
  have hl' : cs.length = 2 := hl.trans (by kernel_rfl)
  obtain ⟨c0, c1, rfl⟩ : ∃ c0 c1 : Value, cs = [c0, c1] := by
    match cs, hl' with
    | [c0, c1], _ => exact ⟨_, _, rfl⟩
  have k0 : Try.prog.cellsOf 22 = 1 := by kernel_rfl
  have h0 : DataW.trod enc Try.prog w base spare held n 22 ((([c0, c1] : List Value).drop 0).take (Try.prog.cellsOf 22)) = xs[0]? := hf 0 _ rfl
  rw [k0, List.getElem?_eq_getElem (by rw [hlen]; decide)] at h0
  simp only [List.drop_succ_cons, List.drop_zero, List.take_succ_cons, List.take_zero] at h0
  obtain ⟨y0, e0, _, u0⟩ := DataW.trod_int Try.underlying22 h0
  simp only [List.cons.injEq, and_true] at e0
  have h1 : DataW.trod enc Try.prog w base spare held n 22 ((([c0, c1] : List Value).drop 1).take (Try.prog.cellsOf 22)) = xs[1]? := hf 1 _ rfl
  rw [k0, List.getElem?_eq_getElem (by rw [hlen]; decide)] at h1
  simp only [List.drop_succ_cons, List.drop_zero, List.take_succ_cons, List.take_zero] at h1
  obtain ⟨y1, e1, _, u1⟩ := DataW.trod_int Try.underlying22 h1
  simp only [List.cons.injEq, and_true] at e1
  subst e0
  subst e1
  obtain ⟨q, hq, rfl, rfl⟩ := HL_of y0 y1 u0 u1
  exact ⟨q, hq, fun m => ⟨_, _, rfl, rfl, _, _, rfl, rfl, rfl⟩⟩
theorem VRs.app {m : Inj} : ∀ {p q : List AV} {us vs : List Value}, VRs m p us → VRs m q vs → VRs m (p ++ q) (us ++ vs)
  | [], _, us, vs, h, k => by have : us = [] := h; subst this; exact k
  | a :: p, q, us, vs, ⟨v, us', e, h1, h2⟩, k => by subst e; exact ⟨v, _, rfl, h1, VRs.app h2 k⟩
theorem trod_R (h : DataW.trod enc Try.prog w base spare held fuel 49 cs = some x) : ∃ q : Nat × Nat, (q.1 < 340282366920938463463374607431768211456 ∧ q.2 < 340282366920938463463374607431768211456) ∧ ∀ m, VRs m (cR q) cs := by
  obtain ⟨xs, n, _, hx, hl, hlen, hf⟩ := DataW.trod_struct Try.underlying49 h
  have hl' : cs.length = 4 := hl.trans (by kernel_rfl)
  obtain ⟨c0, c1, c2, c3, rfl⟩ : ∃ c0 c1 c2 c3 : Value, cs = [c0, c1, c2, c3] := by
    match cs, hl' with
    | [c0, c1, c2, c3], _ => exact ⟨_, _, _, _, rfl⟩
  have k0 : Try.prog.cellsOf 24 = 2 := by kernel_rfl
  have h0 : DataW.trod enc Try.prog w base spare held n 24 ((([c0, c1, c2, c3] : List Value).drop 0).take (Try.prog.cellsOf 24)) = xs[0]? := hf 0 _ rfl
  rw [k0, List.getElem?_eq_getElem (by rw [hlen]; decide)] at h0
  have h1 : DataW.trod enc Try.prog w base spare held n 24 ((([c0, c1, c2, c3] : List Value).drop 2).take (Try.prog.cellsOf 24)) = xs[1]? := hf 1 _ rfl
  rw [k0, List.getElem?_eq_getElem (by rw [hlen]; decide)] at h1
  obtain ⟨q0, b0, r0⟩ := trod_A h0
  obtain ⟨q1, b1, r1⟩ := trod_A h1
  exact ⟨(q0, q1), ⟨b0, b1⟩, fun m => VRs.app (r0 m) (r1 m)⟩

/-- An address, a range by value. -/
theorem arg_A {v : Value} {d : DataW Hh} {p : List MemPlace} {b0 : Nat} {r : Reach} (hv : Value.okWide Try.prog w r b0 24 v) (h : DataW.Trod enc Try.prog w base spare held 24 v d p) : ∃ q : Nat, q < 340282366920938463463374607431768211456 ∧ ∀ m, VR m (aA q) v := by
  obtain ⟨cs, rfl, _⟩ := okWide_struct Try.underlying24 hv
  obtain ⟨fuel, hf⟩ := h
  obtain ⟨q, hq, hr⟩ := trod_A hf
  exact ⟨q, hq, fun m => ⟨cs, rfl, hr m⟩⟩
theorem arg_R {v : Value} {d : DataW Hh} {p : List MemPlace} {b0 : Nat} {r : Reach} (hv : Value.okWide Try.prog w r b0 49 v) (h : DataW.Trod enc Try.prog w base spare held 49 v d p) : ∃ q : Nat × Nat, (q.1 < 340282366920938463463374607431768211456 ∧ q.2 < 340282366920938463463374607431768211456) ∧ ∀ m, VR m (aR q) v := by
  obtain ⟨cs, rfl, _⟩ := okWide_struct Try.underlying49 hv
  obtain ⟨fuel, hf⟩ := h
  obtain ⟨q, hq, hr⟩ := trod_R hf
  exact ⟨q, hq, fun m => ⟨cs, rfl, hr m⟩⟩
end
end Go.Ev

/-! The arguments' types: prefixes, ints. -/
namespace Go.Ev
open Go.ChangeShapes Go.WideShapes Go.ChangeAt Go.RowKit Go.Proofs
set_option maxRecDepth 100000
set_option linter.unusedVariables false
set_option linter.unusedSimpArgs false

section
variable {Hh : Type} {enc : TypeId × Value → Hh} {w : World} {base : Nat} {spare : Nat → Bool} {held : Bool} {fuel : Nat} {cs : List Value} {x : DataW Hh × List MemPlace}
theorem i64_of (y : Int) (h : (Lit.int .i64 y).wf = true) : -9223372036854775808 ≤ y ∧ y ≤ 9223372036854775807 := by
  simpa [Lit.wf, IntKind.min, IntKind.max, IntKind.signed, IntKind.bits] using h
theorem arg_I {v : Value} {d : DataW Hh} {p : List MemPlace} {b0 : Nat} {r : Reach} (hv : Value.okWide Try.prog w r b0 3 v) (h : DataW.Trod enc Try.prog w base spare held 3 v d p) : ∃ q : Int, (-9223372036854775808 ≤ q ∧ q ≤ 9223372036854775807) ∧ ∀ m, VR m (.int .i64 q) v := by
  obtain ⟨y, rfl, _, _, u⟩ := open_int Try.underlying3 hv h
  exact ⟨y, i64_of y u, fun m => rfl⟩
theorem trod_P (h : DataW.trod enc Try.prog w base spare held fuel 26 cs = some x) : ∃ q : Nat × Int, Pf q ∧ ∀ m, VRs m (cP q) cs := by
  obtain ⟨xs, n, _, hx, hl, hlen, hf⟩ := DataW.trod_struct Try.underlying26 h
  have hl' : cs.length = 3 := hl.trans (by kernel_rfl)
  obtain ⟨c0, c1, c2, rfl⟩ : ∃ c0 c1 c2 : Value, cs = [c0, c1, c2] := by
    match cs, hl' with
    | [c0, c1, c2], _ => exact ⟨_, _, _, rfl⟩
  have k0 : Try.prog.cellsOf 24 = 2 := by kernel_rfl
  have k1 : Try.prog.cellsOf 3 = 1 := by kernel_rfl
  have h0 : DataW.trod enc Try.prog w base spare held n 24 ((([c0, c1, c2] : List Value).drop 0).take (Try.prog.cellsOf 24)) = xs[0]? := hf 0 _ rfl
  rw [k0, List.getElem?_eq_getElem (by rw [hlen]; decide)] at h0
  have h1 : DataW.trod enc Try.prog w base spare held n 3 ((([c0, c1, c2] : List Value).drop 2).take (Try.prog.cellsOf 3)) = xs[1]? := hf 1 _ rfl
  rw [k1, List.getElem?_eq_getElem (by rw [hlen]; decide)] at h1
  obtain ⟨q0, b0, r0⟩ := trod_A h0
  obtain ⟨y1, e1, _, u1⟩ := DataW.trod_int Try.underlying3 h1
  exact ⟨(q0, y1), ⟨b0, i64_of y1 u1⟩, fun m => VRs.app (r0 m) (by rw [show ([c2] : List Value) = [.int .i64 y1] from e1]; exact ⟨_, _, rfl, rfl, rfl⟩)⟩
theorem arg_P {v : Value} {d : DataW Hh} {p : List MemPlace} {b0 : Nat} {r : Reach} (hv : Value.okWide Try.prog w r b0 26 v) (h : DataW.Trod enc Try.prog w base spare held 26 v d p) : ∃ q : Nat × Int, Pf q ∧ ∀ m, VR m (aP q) v := by
  obtain ⟨cs, rfl, _⟩ := okWide_struct Try.underlying26 hv
  obtain ⟨fuel, hf⟩ := h
  obtain ⟨q, hq, hr⟩ := trod_P hf
  exact ⟨q, hq, fun m => ⟨cs, rfl, hr m⟩⟩
/-- An act: bits, back, n. -/
def cAct (q : Int × Bool × Int) : List AV := [.int .i64 q.1, .bool q.2.1, .int .i64 q.2.2]
theorem cAct_len (q : Int × Bool × Int) : (cAct q).length = 3 := id rfl
def ActQ (q : Int × Bool × Int) : Prop := (-9223372036854775808 ≤ q.1 ∧ q.1 ≤ 9223372036854775807) ∧ -9223372036854775808 ≤ q.2.2 ∧ q.2.2 ≤ 9223372036854775807
theorem trod_Act (h : DataW.trod enc Try.prog w base spare held fuel 43 cs = some x) : ∃ q : Int × Bool × Int, ActQ q ∧ ∀ m, VRs m (cAct q) cs := by
  obtain ⟨xs, n, _, hx, hl, hlen, hf⟩ := DataW.trod_struct Try.underlying43 h
  have hl' : cs.length = 3 := hl.trans (by kernel_rfl)
  obtain ⟨c0, c1, c2, rfl⟩ : ∃ c0 c1 c2 : Value, cs = [c0, c1, c2] := by
    match cs, hl' with
    | [c0, c1, c2], _ => exact ⟨_, _, _, rfl⟩
  have kI : Try.prog.cellsOf 3 = 1 := by kernel_rfl
  have kB : Try.prog.cellsOf 4 = 1 := by kernel_rfl
  have h0 : DataW.trod enc Try.prog w base spare held n 3 ((([c0, c1, c2] : List Value).drop 0).take (Try.prog.cellsOf 3)) = xs[0]? := hf 0 _ rfl
  rw [kI, List.getElem?_eq_getElem (by rw [hlen]; decide)] at h0
  have h1 : DataW.trod enc Try.prog w base spare held n 4 ((([c0, c1, c2] : List Value).drop 1).take (Try.prog.cellsOf 4)) = xs[1]? := hf 1 _ rfl
  rw [kB, List.getElem?_eq_getElem (by rw [hlen]; decide)] at h1
  have h2 : DataW.trod enc Try.prog w base spare held n 3 ((([c0, c1, c2] : List Value).drop 2).take (Try.prog.cellsOf 3)) = xs[2]? := hf 2 _ rfl
  rw [kI, List.getElem?_eq_getElem (by rw [hlen]; decide)] at h2
  obtain ⟨y0, e0, _, u0⟩ := DataW.trod_int Try.underlying3 h0
  obtain ⟨y1, e1, _⟩ := DataW.trod_bool Try.underlying4 h1
  obtain ⟨y2, e2, _, u2⟩ := DataW.trod_int Try.underlying3 h2
  obtain rfl : c0 = .int .i64 y0 := by simpa using e0
  obtain rfl : c1 = .bool y1 := by simpa using e1
  obtain rfl : c2 = .int .i64 y2 := by simpa using e2
  exact ⟨(y0, y1, y2), ⟨i64_of y0 u0, i64_of y2 u2⟩, fun m => ⟨_, _, rfl, rfl, _, _, rfl, rfl, _, _, rfl, rfl, rfl⟩⟩
end
end Go.Ev

/-! BuddyRow. -/
namespace Go.Ev
set_option linter.unusedVariables false
set_option linter.unusedSimpArgs false
open Go.Ev.So Go.Ev.Bu

theorem cAct_cell (q : Int × Bool × Int) : (cAct q).all AV.cell = true := id rfl
theorem set_Act (q : Int × Bool × Int) {a b c : AV} : setL [a, b, c] 0 (cAct q) = cAct q := id rfl
theorem bin_remN {x m : Nat} (hm : m ≠ 0) : binA .rem (.int .u64 (x : Int)) (.int .u64 (m : Int)) = some (.int .u64 ((x % m : Nat) : Int)) := by
  simp only [binA]
  rw [if_pos ⟨trivial, by omega⟩, Int.tmod_eq_emod_of_nonneg (by omega)]; rfl
theorem unders_enc {l : List Pfx} {cs : List AV} (h : unders 0 cs = true) : unders 0 (l.flatMap cP ++ cs) = true := by
  rw [unders_app, unders_flat cP_un l, h]; rfl
/-- The first m of a slice of one's own. -/
theorem own_cut {n : Nat} {t : St} {v : AV} {l : List Pfx} (h : Own n 3 cP t v l) (hn : v = .nils ∨ ∃ b o e n, v = .sl b o e n none) {m : Nat} (hm : m < l.length) :
    ∃ v', (∀ k : IntKind, slcA 3 v none (some (.int k (m : Int))) none = some v') ∧ Own n 3 cP t v' (l.take m) ∧ (v' = .nils ∨ ∃ b o e n, v' = .sl b o e n none) ∧ ∀ i o e k c, v' = .sl i o e k c → ∃ o e k c, v = .sl i o e k c := by
  rcases h with ⟨rfl, h⟩ | ⟨b, c, cs, h1, h2, rfl, h3, h4⟩
  · rw [h] at hm; simp at hm
  · obtain rfl : c = none := by
      rcases hn with hn | ⟨_, _, _, _, hn⟩
      · simp at hn
      · simp at hn; exact hn.2.2.2.2
    refine ⟨.sl b 0 3 m none, fun k => ?_, .inr ⟨b, none, (l.drop m).flatMap cP ++ cs, h1, .inl rfl, by rw [List.length_take, Nat.min_eq_left (by omega)], ?_, unders_enc h4⟩, .inr ⟨_, _, _, _, rfl⟩, fun i o e k c hv => ?_⟩
    · have h0 : (m : Int) ≤ (l.length : Int) := by omega
      simp [slcA, boundA, topA, h0]
    · rw [h3, ← List.append_assoc, ← List.flatMap_append, List.take_append_drop]
    · cases hv; exact ⟨_, _, _, _, rfl⟩

structure RowI (s t : St) (w : Pfx) (vF vK : AV) (F K : List Pfx) : Prop where
  hx : Ext (s ++ [.cells true (cP w)]) t
  oF : Own (s.length + 1) 3 cP t vF F
  oK : Own (s.length + 1) 3 cP t vK K
  ap : ∀ i o e k c o' e' k' c', vF = .sl i o e k c → vK ≠ .sl i o' e' k' c'
  nc : vK = .nils ∨ ∃ b o e n, vK = .sl b o e n none
  m : RowM w F K
theorem RowI.ext {s t t' : St} {w : Pfx} {vF vK : AV} {F K : List Pfx} (h : RowI s t w vF vK F K) (x : Ext t t') : RowI s t' w vF vK F K :=
  ⟨h.hx.trans x, h.oF.ext x, h.oK.ext x, h.ap, h.nc, h.m⟩
theorem RowI.xs {s t : St} {w : Pfx} {vF vK : AV} {F K : List Pfx} (h : RowI s t w vF vK F K) : Ext s t := Ext.trans ⟨_, rfl⟩ h.hx
/-- A block was taken. -/
theorem RowI.take {s t u t2 : St} {w b : Pfx} {vF vK vF' vK' : AV} {F K : List Pfx} (h : RowI s t w vF vK F K) (hb : cov w b) (hin : ∀ x, inB b x → mem F x) (x : Ext t u) (ho : Own t.length 3 cP u vF' (subL w F [b])) (hK : K.length < 1000)
    (ha : appA (u ++ [.cells true (cP b), .cells true (cP b)]) 3 24 vK (.sl (u.length + 1) 0 3 1 (some 1)) = some (vK', t2)) : RowI s t2 w vF' vK' (subL w F [b]) (K ++ [b]) ∧ t.length ≤ t2.length := by
  have htl := h.hx.len
  simp at htl
  have hul := x.len
  have xr : Ext u (u ++ [.cells true (cP b), .cells true (cP b)]) := ⟨_, rfl⟩
  have oK2 : Own (s.length + 1) 3 cP (u ++ [.cells true (cP b), .cells true (cP b)]) vK K := (h.oK.ext x).ext xr
  obtain ⟨v', t', e1, e2, e3, e4, e5, e6⟩ := own_app (by_ := 24) (y := .sl (u.length + 1) 0 3 1 (some 1)) (l2 := [b]) oK2 (by simp; omega) (rd_lit (by simp) cP_len rfl) cP_len cP_cell (by simp; omega)
  rw [ha] at e1
  obtain ⟨rfl, rfl⟩ : vK' = v' ∧ t2 = t' := by simpa using e1
  have bK := BIn.of cP_len h.oK
  have bF := BIn.of cP_len ho
  simp at e3
  refine ⟨⟨e5 _ (by simp) ((h.hx.trans x).trans xr), ?_, e2, ?_, ?_, h.m.take hb hin⟩, by omega⟩
  · refine (((ho.ext xr).mono (m := s.length + 1) (by omega))).keep fun i hi hv => ?_
    obtain ⟨o, e, k, c, hv⟩ := hv
    have hb := bF _ _ _ _ _ hv
    refine e4 i (by simp; omega) fun o e k c hk => ?_
    have := bK _ _ _ _ _ hk
    omega
  · intro i o e k c o' e' k' c' hv hk
    have hb := bF _ _ _ _ _ hv
    rcases e6 _ _ _ _ _ hk with h2 | h2
    · have := bK _ _ _ _ _ h2; omega
    · simp at h2; omega
  · rcases e2 with ⟨rfl, _⟩ | ⟨b', c, cs, _, _, rfl, _⟩
    · exact .inl rfl
    · rw [app_none ha h.nc]; exact .inr ⟨_, _, _, _, rfl⟩
/-- One was given back. -/
theorem RowI.give {s t u : St} {w b q : Pfx} {vF vK vF' : AV} {F K : List Pfx} (hw : Pf w) (h : RowI s t w vF vK F K) {k : Nat} (hk : K[k]? = some b) (hq : K[K.length - 1]? = some q) (x : Ext t u) (ho : Own t.length 3 cP u vF' (subL w (b :: F) [])) :
    ∃ c u' vK', (∀ kk : IntKind, ixaA 3 vK (.int kk (k : Int)) = some (.ptr c (k * 3))) ∧ stA u (some 3) (.ptr c (k * 3)) (aP q) = some u' ∧ (∀ kk : IntKind, slcA 3 vK none (some (.int kk ((K.length - 1 : Nat) : Int))) none = some vK') ∧
      ∃ K', RowI s u' w vF' vK' (subL w (b :: F) []) K' ∧ K'.length + 1 = K.length := by
  have hkl := (List.getElem?_eq_some_iff.1 hk).1
  have htl := h.hx.len
  simp at htl
  have bK := BIn.of cP_len h.oK
  have bF := BIn.of cP_len ho
  obtain ⟨c, B, h1, ⟨o, e', kk, cc, hv⟩, h2, h3, _, h4⟩ := own_at cP_len cP_cell (h.oK.ext x) hkl q
  obtain ⟨vK', a1, a2, a3, a4⟩ := own_cut h4 h.nc (m := K.length - 1) (by simp; omega)
  have hp := swap_perm hk hq
  have hc := bK _ _ _ _ _ hv
  refine ⟨c, u.set c B, vK', h2, h3, a1, _, ⟨?_, ?_, a2, ?_, a3, (h.m.give hw hp).2⟩, ?_⟩
  · exact (h.hx.trans x).set (by simp; omega) _
  · refine ((ho.mono (m := s.length + 1) (by omega))).keep fun i hi hvi => ?_
    obtain ⟨o2, e2, k2, c2, hvi⟩ := hvi
    have := bF _ _ _ _ _ hvi
    rw [List.getElem?_set, if_neg (by omega)]
  · intro i o1 e1 k1 c1 o2 e2 k2 c2 hv1 hv2
    have := bF _ _ _ _ _ hv1
    obtain ⟨o3, e3, k3, c3, hv3⟩ := a4 _ _ _ _ _ hv2
    have := bK _ _ _ _ _ hv3
    omega
  · rw [List.length_take, List.length_set]; omega

def rowC : RC := r_w11_BuddyRow.body.snd.snd.snd.snd.snd.snd
set_option maxHeartbeats 4000000 in
/-- All are given back. -/
theorem row_tail (s t : St) (e : Env) (w : Pfx) (vF vK : AV) (F K : List Pfx) (hw : Pf w) (h : RowI s t w vF vK F K) (hKl : K.length < 1000) (g2 : e.get 2 = .ptr s.length 0) (g8 : e.get 8 = vF) (g9 : e.get 9 = vK) :
    awp (Run T) rowC (endK [.tmp 4] s fun r _ => r = .bool true) e t := by
  have fi : ((0 : Int) == 0) = true := rfl
  simp only [rowC, RC.snd, r_w11_BuddyRow, XX, CC, YY, Nat.reduceAdd, Nat.reduceSub, Nat.reduceLeDiff, Nat.reduceLT, Nat.reduceEqDiff, reduceIte, ↓reduceIte, Nat.reduceBEq, PP]
  refine awp_rounds (fun d e t => ∃ (vF vK : AV) (F K : List Pfx), Ext (s ++ [.cells true (cP w)]) t ∧ Rd 3 cP t vF F ∧ Rd 3 cP t vK K ∧ RowM w F K ∧ K.length = d ∧ K.length < 1000 ∧ e.get 2 = .ptr s.length 0 ∧ e.get 8 = vF ∧ e.get 9 = vK) K.length ?_ ?_
  · exact ⟨vF, vK, F, K, h.hx, h.oF.rd cP_len, h.oK.rd cP_len, h.m, rfl, hKl, g2, g8, g9⟩
  clear g2 g8 g9 h hKl
  rintro J d e t hJ ⟨vF, vK, F, K, hx, rF, rK, hm, hd, hKl, g2, g8, g9⟩
  have fw := hx.at (b := s.length) (B := .cells true (cP w)) (by simp)
  have kw := (blkP fw).1
  have hFl := hm.len
  have hSF := hm.F.1
  have rl : lenlA vK = some (.int .i64 (d : Int)) := by rw [← hd]; exact rK.len
  simp only [XX, CC, YY, Nat.reduceAdd, Nat.reduceSub, Nat.reduceLeDiff, Nat.reduceLT, Nat.reduceEqDiff, reduceIte, ↓reduceIte, Nat.reduceBEq, PP, g9, rl]
  cases K with
  | cons b K' =>
    have hg := hm.give hw (List.Perm.refl _)
    obtain ⟨b0, o0, j1, j2, _⟩ := rdP rK (i := 0) (q := b) rfl
    have j1' : ixaA 3 vK (.int .i64 0) = some (.ptr b0 o0) := j1 .i64
    obtain ⟨v1, a1, r1⟩ := rd_drop (n := 1) rK cP_len (by simp)
    have a1' : slcA 3 vK (some (.int .i64 1)) none none = some v1 := a1 .i64
    have hbp := cov_Pf hw (hm.cv b (by simp))
    have hd0 : (d : Int) > 0 := by simp at hd; omega
    simp only [dec_t hd0, XX, CC, YY, Nat.reduceAdd, Nat.reduceSub, Nat.reduceLeDiff, Nat.reduceLT, Nat.reduceEqDiff, reduceIte, ↓reduceIte, Nat.reduceBEq, PP]
    refine drw_in [] rfl ?_
    simp only [List.append_nil, DD, CC, YY, Nat.reduceAdd, Nat.reduceSub, Nat.reduceLeDiff, Nat.reduceLT, Nat.reduceEqDiff, reduceIte, ↓reduceIte, Nat.reduceBEq, PP, g2, g8, g9, kw, j1', j2]
    refine dr_calln (give_r t vF w b F hw hbp (by simp at hKl hFl; omega) (snd_pf hw hSF) rF) (fun v t h => by obtain ⟨r, _, h⟩ := h; exact h.ext) (by simp) (by simp) ?_
    rintro a u ⟨r, rfl, ho⟩
    rw [hg.1] at ho ⊢
    have x := ho.ext
    simp only [DD, CC, YY, Nat.reduceAdd, Nat.reduceSub, Nat.reduceLeDiff, Nat.reduceLT, Nat.reduceEqDiff, reduceIte, ↓reduceIte, Nat.reduceBEq, PP, fi, Bool.not_true, g9, a1']
    refine hJ (d - 1) _ _ (by simp at hd; omega) ⟨r, v1, _, K', hx.trans x, ho.rd cP_len, r1.ext x, hg.2, by simp at hd; omega, by simp at hKl; omega, ?_, ?_, ?_⟩ <;> (try simp only [XX, CC, YY, Nat.reduceAdd, Nat.reduceSub, Nat.reduceLeDiff, Nat.reduceLT, Nat.reduceEqDiff, reduceIte, ↓reduceIte, Nat.reduceBEq, PP, g2, g8, g9])
  | nil =>
    have hF := hm.done
    subst hF
    have hd0 : ¬ (d : Int) > 0 := by simp at hd; omega
    simp only [dec_f hd0, XX, CC, YY, Nat.reduceAdd, Nat.reduceSub, Nat.reduceLeDiff, Nat.reduceLT, Nat.reduceEqDiff, reduceIte, ↓reduceIte, Nat.reduceBEq, PP, g2, g8, kw, set_P]
    have hk : RunD T f_w11_same [vF, .sl t.length 0 3 1 (some 1)] (t ++ [.cells true (cP w)]) (.bool true) (t ++ [.cells true (cP w)]) := same_self _ _ _ [w] (by simp) (rF.ext ⟨_, rfl⟩) (rd_lit (by simp) cP_len rfl)
    refine hk.use ?_
    (try simp only [XX, CC, YY, Nat.reduceAdd, Nat.reduceSub, Nat.reduceLeDiff, Nat.reduceLT, Nat.reduceEqDiff, reduceIte, ↓reduceIte, Nat.reduceBEq, PP])
    exact ret_drop (Ext.trans (Ext.trans ⟨_, rfl⟩ hx) ⟨_, rfl⟩) rfl rfl
end Go.Ev

/-! BuddyRow's run. -/
namespace Go.Ev
set_option linter.unusedVariables false
set_option linter.unusedSimpArgs false
open Go.Ev.So Go.Ev.Bu

theorem blkAct {t : St} {b : Nat} {q : Int × Bool × Int} (h : t[b]? = some (.cells true (cAct q))) :
    ldA t none (.ptr b 0) = some (.int .i64 q.1) ∧ ldA t none (.ptr b 1) = some (.bool q.2.1) ∧ ldA t none (.ptr b 2) = some (.int .i64 q.2.2) := by
  refine ⟨?_, ?_, ?_⟩ <;> rw [ld_own h] <;> rfl
def RC.els : RC → RC
  | .cond _ _ b => b
  | c => c
def elsC : RC := r_w11_BuddyRow.body.snd.snd.snd.snd.snd.fst.snd.inn.inn.snd.fst.inn.snd.fst.snd.els
set_option maxHeartbeats 4000000 in
theorem row_take (s t : St) (e : Env) (w : Pfx) (vF vK : AV) (F K : List Pfx) (q : Int × Bool × Int) (Q : XE → Env → St → Prop) (hw : Pf w) (hI : RowI s t w vF vK F K) (hKl : K.length < 100)
    (g2 : e.get 2 = .ptr s.length 0) (g8 : e.get 8 = vF) (g9 : e.get 9 = vK) (g11 : e.get 11 = .ptr t.length 0)
    (hQ1 : ∀ e' t' vF' vK' F' K', RowI s t' w vF' vK' F' K' → K'.length ≤ K.length + 1 → e'.get 1 = e.get 1 → e'.get 2 = e.get 2 → e'.get 8 = vF' → e'.get 9 = vK' → e'.get 10 = e.get 10 → Q .nrm e' t')
    (hQ2 : ∀ e' t', RowI s t' w vF vK F K → e'.get 1 = e.get 1 → e'.get 2 = e.get 2 → e'.get 8 = vF → e'.get 9 = vK → e'.get 10 = e.get 10 → Q (.exit 1) e' t') :
    awp (Run T) elsC Q e (t ++ [.cells true (cAct q)]) := by
  have hFl := hI.m.len
  have hSF := hI.m.F.1
  have hFp := snd_pf hw hSF
  have fwt := hI.hx.at (b := s.length) (B := .cells true (cP w)) (by simp)
  have hx1 : Ext t (t ++ [.cells true (cAct q)]) := ⟨_, rfl⟩
  have fw1 := hx1.at fwt
  have kw1 := (blkP fw1).1
  have fa1 := (show (t ++ [.cells true (cAct q)])[t.length]? = some (.cells true (cAct q)) by simp)
  have ka1 := (blkAct fa1).1
  have rF := hI.oF.rd cP_len
  obtain ⟨tm1, tm2, tm3⟩ := take_math (bits := q.1) hw hSF
  generalize ht1 : t ++ [Blk.cells true (cAct q)] = t1 at *
  simp only [elsC, RC.els, RC.inn, RC.fst, RC.snd, r_w11_BuddyRow, XX, CC, YY, Nat.reduceAdd, Nat.reduceSub, Nat.reduceLeDiff, Nat.reduceLT, Nat.reduceEqDiff, reduceIte, ↓reduceIte, Nat.reduceBEq, PP, g2, g8, g11, kw1, ka1]
  refine Run.mono _ _ _ _ _ ?_ (take_r t1 vF w F q.1 hw (by omega) hFp (rF.ext hx1))
  rintro a u ⟨vF', rfl, ho⟩
  have x1 := ho.ext
  have xu := hx1.trans x1
  generalize hX : takeT w F q.1 = X at *
  have kax := fun l => ldA_ext (blkAct (x1.at fa1)).1 l
  have kwx3 := fun l => ldA_ext (blkP (x1.at fw1)).2.2 l
  have kwx1 := fun l => ldA_ext (blkP (x1.at fw1)).1 l
  have kp := fun (l : List Blk) => (blkP (t := u ++ (.cells true (cP X.2.1) :: l)) (b := u.length) (q := X.2.1) (by simp)).1
  have kp2 := fun (l : List Blk) => (blkP (t := u ++ (.cells true (cP X.2.1) :: l)) (b := u.length) (q := X.2.1) (by simp)).2.2
  have i1 : ((1 : Int) == 1) = true := rfl
  have i0 : ((0 : Int) == 0) = true := rfl
  have i110 : ((110 : Int) == 110) = true := rfl
  have i1100 : ((110 : Int) == 0) = false := rfl
  have bff : (false == false) = true := rfl
  have btt : (true == true) = true := rfl
  have xk : Ext t (u ++ [.cells true (cP X.2.1)]) := xu.app _
  have em : (q.1 < w.2 ∨ (¬ q.1 < w.2 ∧ q.1 > 128)) ∨ (¬ q.1 < w.2 ∧ ¬ q.1 > 128) := by omega
  rcases em with (c | c) | c
  · have e1 := tm1.2 (by omega)
    simp only [XX, CC, YY, Nat.reduceAdd, Nat.reduceSub, Nat.reduceLeDiff, Nat.reduceLT, Nat.reduceEqDiff, reduceIte, ↓reduceIte, Nat.reduceBEq, PP, cP_cell, set_P, g2, g11, kax, kwx3, dec_t c, gv_ft, e1, i1, Bool.not_true]
    refine hQ2 _ _ (hI.ext xk) ?_ ?_ ?_ ?_ ?_ <;> (try simp only [XX, CC, YY, Nat.reduceAdd, Nat.reduceSub, Nat.reduceLeDiff, Nat.reduceLT, Nat.reduceEqDiff, reduceIte, ↓reduceIte, Nat.reduceBEq, PP, g2, g8, g9])
  · have e1 := tm1.2 (by omega)
    simp only [XX, CC, YY, Nat.reduceAdd, Nat.reduceSub, Nat.reduceLeDiff, Nat.reduceLT, Nat.reduceEqDiff, reduceIte, ↓reduceIte, Nat.reduceBEq, PP, cP_cell, set_P, g2, g11, kax, kwx3, dec_f c.1, dec_t c.2, gv_ff, e1, i1, Bool.not_true]
    refine hQ2 _ _ (hI.ext xk) ?_ ?_ ?_ ?_ ?_ <;> (try simp only [XX, CC, YY, Nat.reduceAdd, Nat.reduceSub, Nat.reduceLeDiff, Nat.reduceLT, Nat.reduceEqDiff, reduceIte, ↓reduceIte, Nat.reduceBEq, PP, g2, g8, g9])
  · obtain ⟨n1, n2⟩ := tm2 (by omega)
    have hfit := fits_r (u ++ [.cells true (cP X.2.1)]) vF F q.1 (by omega) hFp (rF.ext xk)
    rcases n2 with c0 | c0
    · have hf := n1.1 c0
      obtain ⟨m1, m2, m3, m4⟩ := tm3 c0
      rw [hf] at hfit
      have i2 : (X.2.1.2 == q.1) = true := by simp [m1]
      have hcv := covers_r (u ++ [.cells true (cP X.2.1)]) w X.2.1 hw (cov_Pf hw m2)
      rw [dec_t m2] at hcv
      rw [m3] at ho
      have oF' : Own t.length 3 cP u vF' (subL w F [X.2.1]) := ho.own.mono (m := t.length) (by rw [← ht1]; simp)
      have oK2 := (hI.oK.ext xu).app [.cells true (cP X.2.1), .cells true (cP X.2.1)]
      have h1l := hI.hx.len
      simp at h1l
      have h2l := xu.len
      obtain ⟨vK', t2, a1, _⟩ := own_app (by_ := 24) (y := .sl (u.length + 1) 0 3 1 (some 1)) (l2 := [X.2.1]) oK2 (by simp; omega) (rd_lit (by simp) cP_len rfl) cP_len cP_cell (by simp; omega)
      obtain ⟨hI', _⟩ := hI.take m2 m4 xu oF' (by omega) a1
      simp only [XX, CC, YY, Nat.reduceAdd, Nat.reduceSub, Nat.reduceLeDiff, Nat.reduceLT, Nat.reduceEqDiff, reduceIte, ↓reduceIte, Nat.reduceBEq, PP, cP_cell, set_P, g2, g8, g11, kax, kwx3, dec_f c.1, dec_f c.2, gv_ff, c0, i0]
      refine hfit.use ?_
      simp only [XX, CC, YY, Nat.reduceAdd, Nat.reduceSub, Nat.reduceLeDiff, Nat.reduceLT, Nat.reduceEqDiff, reduceIte, ↓reduceIte, Nat.reduceBEq, PP, btt, Bool.not_true, gv_ff, i0, gv_tf, g2, g11, kax, kp, kp2, i2, kwx1]
      refine hcv.use ?_
      simp only [XX, CC, YY, Nat.reduceAdd, Nat.reduceSub, Nat.reduceLeDiff, Nat.reduceLT, Nat.reduceEqDiff, reduceIte, ↓reduceIte, Nat.reduceBEq, PP, Bool.not_true, g9, kp, set_P, a1]
      refine hQ1 _ _ vF' vK' _ _ hI' (by simp) ?_ ?_ ?_ ?_ ?_ <;> (try simp only [XX, CC, YY, Nat.reduceAdd, Nat.reduceSub, Nat.reduceLeDiff, Nat.reduceLT, Nat.reduceEqDiff, reduceIte, ↓reduceIte, Nat.reduceBEq, PP, g2, g8, g9])
    · have hf : fitsB F q.1 = false := by
        cases e : fitsB F q.1 with
        | false => rfl
        | true => have := n1.2 e; rw [c0] at this; cases this
      rw [hf] at hfit
      simp only [XX, CC, YY, Nat.reduceAdd, Nat.reduceSub, Nat.reduceLeDiff, Nat.reduceLT, Nat.reduceEqDiff, reduceIte, ↓reduceIte, Nat.reduceBEq, PP, cP_cell, set_P, g2, g8, g11, kax, kwx3, dec_f c.1, dec_f c.2, gv_ff, c0, i1100]
      refine hfit.use ?_
      simp only [XX, CC, YY, Nat.reduceAdd, Nat.reduceSub, Nat.reduceLeDiff, Nat.reduceLT, Nat.reduceEqDiff, reduceIte, ↓reduceIte, Nat.reduceBEq, PP, bff, Bool.not_true, Bool.not_false, gv_ff, i1100, i110, gv_tt]
      refine hQ2 _ _ (hI.ext xk) ?_ ?_ ?_ ?_ ?_ <;> (try simp only [XX, CC, YY, Nat.reduceAdd, Nat.reduceSub, Nat.reduceLeDiff, Nat.reduceLT, Nat.reduceEqDiff, reduceIte, ↓reduceIte, Nat.reduceBEq, PP, g2, g8, g9])

set_option maxHeartbeats 16000000 in
theorem row11_r (s : St) (v : AV) (w : Pfx) (l : List (Int × Bool × Int)) (hw : Pf w) (hl : l.length < 4611686018427387904) (hp : ∀ p ∈ l, ActQ p) (hv : Rd 3 cAct s v l) :
    Run T f_w11_BuddyRow [aP w, v] s fun r _ => r = .bool true := by
  refine run_body (F := r_w11_BuddyRow) rfl (by simp [r_w11_BuddyRow]) ?_
  have kw0 := (blkP (t := s ++ [.cells true (cP w)]) (b := s.length) (q := w) (by simp)).1
  obtain ⟨TAIL, hT⟩ : ∃ c, c = rowC := ⟨_, rfl⟩
  have htail := row_tail
  rw [← hT] at htail
  have hbody : r_w11_BuddyRow.body = .seq r_w11_BuddyRow.body.fst (.seq r_w11_BuddyRow.body.snd.fst (.seq r_w11_BuddyRow.body.snd.snd.fst (.seq r_w11_BuddyRow.body.snd.snd.snd.fst (.seq r_w11_BuddyRow.body.snd.snd.snd.snd.fst (.seq r_w11_BuddyRow.body.snd.snd.snd.snd.snd.fst TAIL))))) := by rw [hT]; rfl
  rw [hbody]
  clear hT hbody
  simp only [r_w11_BuddyRow, RC.fst, RC.snd, XX, CC, YY, Nat.reduceAdd, Nat.reduceSub, Nat.reduceLeDiff, Nat.reduceLT, Nat.reduceEqDiff, reduceIte, ↓reduceIte, Nat.reduceBEq, PP]
  refine (awake11_r _).use ?_
  simp only [XX, CC, YY, Nat.reduceAdd, Nat.reduceSub, Nat.reduceLeDiff, Nat.reduceLT, Nat.reduceEqDiff, reduceIte, ↓reduceIte, Nat.reduceBEq, PP, Bool.not_true, kw0]
  refine (sound_r _ w hw).use ?_
  rcases (Classical.em (soundN w.1 w.2)).symm with c | c
  · simp only [XX, CC, YY, Nat.reduceAdd, Nat.reduceSub, Nat.reduceLeDiff, Nat.reduceLT, Nat.reduceEqDiff, reduceIte, ↓reduceIte, Nat.reduceBEq, PP, dec_f c, Bool.not_false, kw0]
    have e1 : takeT w [] 64 = ([], (0, 0), 1) := by unfold takeT; rw [if_neg (fun h => c (sndB_none h.1))]
    refine Run.mono _ _ _ _ _ ?_ (take_r _ .nils w [] 64 hw (by simp) (by simp) .nil)
    rintro a t ⟨r, rfl, ho⟩
    rw [e1] at ho ⊢
    have x := ho.ext
    simp only [XX, CC, YY, Nat.reduceAdd, Nat.reduceSub, Nat.reduceLeDiff, Nat.reduceLT, Nat.reduceEqDiff, reduceIte, ↓reduceIte, Nat.reduceBEq, PP, cP_cell, set_P, show ((1 : Int) == 1) = true from rfl]
    exact ret_drop (Ext.trans ⟨_, rfl⟩ (x.app _)) rfl rfl
  simp only [XX, CC, YY, Nat.reduceAdd, Nat.reduceSub, Nat.reduceLeDiff, Nat.reduceLT, Nat.reduceEqDiff, reduceIte, ↓reduceIte, Nat.reduceBEq, PP, dec_t c, Bool.not_true, kw0, set_P]
  refine awp_rounds (fun d e t => ∃ (i : Nat) (vF vK : AV) (F K : List Pfx), RowI s t w vF vK F K ∧ K.length ≤ i ∧ i ≤ 80 ∧ i + d = l.length ∧ e.get 1 = v ∧ e.get 2 = .ptr s.length 0 ∧ e.get 8 = vF ∧ e.get 9 = vK ∧ e.get 10 = .int .i64 i) l.length ?_ ?_
  · refine ⟨0, .sl (s.length + 1) 0 3 1 (some 1), .nils, [w], [], ⟨⟨[.cells true (cP w)], by rw [List.append_assoc]; rfl⟩, .inr ⟨s.length + 1, some 1, [], Nat.le_refl _, .inr rfl, rfl, by simp, rfl⟩, .nil, (fun i o e k c o' e' k' c' h h' => by cases h'), .inl rfl, .start c⟩, by simp, by omega, by omega, ?_, ?_, ?_, ?_, ?_⟩ <;> (try simp only [XX, CC, YY, Nat.reduceAdd, Nat.reduceSub, Nat.reduceLeDiff, Nat.reduceLT, Nat.reduceEqDiff, reduceIte, ↓reduceIte, Nat.reduceBEq, PP]) <;> rfl
  rintro J d e t hJ ⟨i, vF, vK, F, K, hI, hKi, hi80, hi, g1, g2, g8, g9, g10⟩
  have hvt := hv.ext hI.xs
  have fi : ((0 : Int) == 0) = true := rfl
  have fin : ∀ e : Env, e.get 2 = .ptr s.length 0 → e.get 8 = vF → e.get 9 = vK → awp (Run T) TAIL (endK [.tmp 4] s fun r _ => r = .bool true) e t := fun e h2 h8 h9 => htail s t e w vF vK F K hw hI (by omega) h2 h8 h9
  simp only [XX, CC, YY, Nat.reduceAdd, Nat.reduceSub, Nat.reduceLeDiff, Nat.reduceLT, Nat.reduceEqDiff, reduceIte, ↓reduceIte, Nat.reduceBEq, PP, g1, g10, hvt.len]
  rcases (Classical.em (i < l.length)).symm with h | h
  · simp only [XX, CC, YY, Nat.reduceAdd, Nat.reduceSub, Nat.reduceLeDiff, Nat.reduceLT, Nat.reduceEqDiff, reduceIte, ↓reduceIte, Nat.reduceBEq, PP, dec_f (show ¬ (i : Int) < l.length by omega), gv_tf]
    refine fin _ ?_ ?_ ?_ <;> (try simp only [XX, CC, YY, Nat.reduceAdd, Nat.reduceSub, Nat.reduceLeDiff, Nat.reduceLT, Nat.reduceEqDiff, reduceIte, ↓reduceIte, Nat.reduceBEq, PP, g2, g8, g9])
  rcases (Classical.em (i < 80)).symm with h80 | h80
  · simp only [XX, CC, YY, Nat.reduceAdd, Nat.reduceSub, Nat.reduceLeDiff, Nat.reduceLT, Nat.reduceEqDiff, reduceIte, ↓reduceIte, Nat.reduceBEq, PP, dec_t (show (i : Int) < l.length by omega), gv_tt, g10, dec_f (show ¬ (i : Int) < 80 by omega)]
    refine fin _ ?_ ?_ ?_ <;> (try simp only [XX, CC, YY, Nat.reduceAdd, Nat.reduceSub, Nat.reduceLeDiff, Nat.reduceLT, Nat.reduceEqDiff, reduceIte, ↓reduceIte, Nat.reduceBEq, PP, g2, g8, g9])
  clear fin htail
  obtain ⟨q, hq, _⟩ := drop_get (l := l) (i := i) h
  obtain ⟨b0, o0, j1, j2⟩ := hvt.get cAct_len hq
  have j3 : ldA t (some 3) (.ptr b0 o0) = some (.agg (cAct q)) := j2 (some 3) 0 (.agg (cAct q)) rfl
  have hqa := hp q (List.mem_of_getElem? hq)
  have hFl := hI.m.len
  have hSF := hI.m.F.1
  have hFp := snd_pf hw hSF
  have hw1 : IntKind.i64.wrap ((i : Int) + 1) = ((i + 1 : Nat) : Int) := by rw [w64_in (by omega) (by omega)]; omega
  have hcell := cAct_cell q
  have hA0 : (cAct q)[0]? = some (.int .i64 q.1) := rfl
  have hA1 : (cAct q)[1]? = some (.bool q.2.1) := rfl
  have hA2 : (cAct q)[2]? = some (.int .i64 q.2.2) := rfl
  have hlen3 := cAct_len q
  -- the act's block
  have kq := fun (l : List Blk) => blkAct (t := t ++ (.cells true (cAct q) :: l)) (b := t.length) (q := q) (by simp)
  have kq0 := fun l => (kq l).1
  have kq1 := fun l => (kq l).2.1
  have kq2 := fun l => (kq l).2.2
  have fwt := hI.hx.at (b := s.length) (B := .cells true (cP w)) (by simp)
  have kwx := fun l => ldA_ext (blkP fwt).1 l
  have kw3x := fun l => ldA_ext (blkP fwt).2.2 l
  have rF := hI.oF.rd cP_len
  have rK := hI.oK.rd cP_len
  have rl : lenlA vK = some (.int .i64 (K.length : Int)) := rK.len
  have hx1 : Ext t (t ++ [.cells true (cAct q)]) := ⟨_, rfl⟩
  have next : ∀ (e' : Env) (t' : St) (vF' vK' : AV) (F' K' : List Pfx), RowI s t' w vF' vK' F' K' → K'.length ≤ i + 1 → e'.get 1 = v → e'.get 2 = .ptr s.length 0 → e'.get 8 = vF' → e'.get 9 = vK' → e'.get 10 = .int .i64 (i + 1 : Nat) → J e' t' :=
    fun e' t' vF' vK' F' K' a1 a2 a3 a4 a5 a6 a7 => hJ (d - 1) _ _ (by omega) ⟨i + 1, vF', vK', F', K', a1, a2, by omega, by omega, a3, a4, a5, a6, a7⟩
  have em1 : q.2.1 = true ∧ 0 < K.length ∨ ¬ (q.2.1 = true ∧ 0 < K.length) := Classical.em _
  rcases em1 with ⟨cb, ck⟩ | cb
  · -- one is given back
    obtain ⟨x, hx, hxl⟩ : ∃ x : Nat, IntKind.u64.wrap q.2.2 = (x : Int) ∧ x < 18446744073709551616 := ⟨(q.2.2 % 18446744073709551616).toNat, by rw [wu64]; omega, by omega⟩
    have hwk : IntKind.u64.wrap (K.length : Int) = (K.length : Int) := wu64_in (by omega) (by omega)
    have hrem := bin_remN (x := x) (m := K.length) (by omega)
    have hkl : x % K.length < K.length := Nat.mod_lt _ ck
    obtain ⟨k, hk⟩ : ∃ k, k = x % K.length := ⟨_, rfl⟩
    rw [← hk] at hrem hkl
    have hwi : IntKind.i64.wrap (k : Int) = (k : Int) := w64_in (by omega) (by omega)
    obtain ⟨b, hbk, _⟩ := drop_get (l := K) (i := k) hkl
    obtain ⟨z, hz, _⟩ := drop_get (l := K) (i := K.length - 1) (by omega)
    obtain ⟨bb, ob, i1, i2, _, _, i3, _⟩ := rdP rK hbk
    have hbp := cov_Pf hw (hI.m.cv b (List.mem_of_getElem? hbk))
    have hwl : IntKind.i64.wrap ((K.length : Int) - 1) = ((K.length - 1 : Nat) : Int) := by rw [w64_in (by omega) (by omega)]; omega
    have hgm := (hI.m.give hw (swap_perm hbk hz)).1
    simp only [XX, CC, YY, Nat.reduceAdd, Nat.reduceSub, Nat.reduceLeDiff, Nat.reduceLT, Nat.reduceEqDiff, reduceIte, ↓reduceIte, Nat.reduceBEq, PP, dec_t (show (i : Int) < l.length by omega), gv_tt, g10, dec_t (show (i : Int) < 80 by omega), g1, j1, j3, hcell, hlen3, set_Act, hA1, hA2, cb, g9, rl, dec_t (show (K.length : Int) > 0 by omega), kq2, hx, hwk, hrem, hwi]
    refine drw_in [] rfl ?_
    simp only [List.append_nil, DD, CC, YY, Nat.reduceAdd, Nat.reduceSub, Nat.reduceLeDiff, Nat.reduceLT, Nat.reduceEqDiff, reduceIte, ↓reduceIte, Nat.reduceBEq, PP, g2, g8, g9, kwx, i1, i3]
    refine dr_calln (give_r _ vF w b F hw hbp (by omega) hFp (rF.ext hx1)) (fun v t h => by obtain ⟨r, _, h⟩ := h; exact h.ext) (by simp) (by simp) ?_
    rintro a u ⟨vF', rfl, ho⟩
    rw [hgm] at ho ⊢
    have x1 := ho.ext
    have xu := hx1.trans x1
    obtain ⟨bz, oz, p1, p2, _⟩ := rdP (rK.ext xu) hz
    obtain ⟨c', u', vK', s1, s2, s3, K', hI', hK'⟩ := hI.give hw hbk hz xu (ho.own.mono (m := t.length) (by simp))
    simp only [DD, CC, YY, Nat.reduceAdd, Nat.reduceSub, Nat.reduceLeDiff, Nat.reduceLT, Nat.reduceEqDiff, reduceIte, ↓reduceIte, Nat.reduceBEq, PP, fi, Bool.not_true, g9, rl, hwl, p1, p2, s1, s2, s3]
    have fw' := hI'.hx.at (b := s.length) (B := .cells true (cP w)) (by simp)
    have kw' := (blkP fw').1
    have hF'l := hI'.m.len
    simp only [XX, CC, YY, Nat.reduceAdd, Nat.reduceSub, Nat.reduceLeDiff, Nat.reduceLT, Nat.reduceEqDiff, reduceIte, ↓reduceIte, Nat.reduceBEq, PP, g2, kw']
    refine (apart11_r u' vF' vK' w _ K' hw hI'.m (by omega) (by omega) (hI'.oF.rd cP_len) (hI'.oK.rd cP_len)).use ?_
    simp only [XX, CC, YY, Nat.reduceAdd, Nat.reduceSub, Nat.reduceLeDiff, Nat.reduceLT, Nat.reduceEqDiff, reduceIte, ↓reduceIte, Nat.reduceBEq, PP, Bool.not_true, g10, hw1]
    refine next _ _ vF' vK' _ K' hI' (by omega) ?_ ?_ ?_ ?_ ?_ <;> (try simp only [XX, CC, YY, Nat.reduceAdd, Nat.reduceSub, Nat.reduceLeDiff, Nat.reduceLT, Nat.reduceEqDiff, reduceIte, ↓reduceIte, Nat.reduceBEq, PP, g1, g2, g8, g9, g10])
  · -- one is taken
    have hd1 := dec_t (show (i : Int) < l.length by omega)
    have hd2 := dec_t (show (i : Int) < 80 by omega)
    obtain ⟨ELSE, hE⟩ : ∃ c, c = elsC := ⟨_, rfl⟩
    have htake := row_take
    rw [← hE] at htake
    simp only [elsC, RC.els, RC.inn, RC.fst, RC.snd, r_w11_BuddyRow] at hE
    have ecb : q.2.1 = false ∨ q.2.1 = true ∧ ¬ (K.length : Int) > 0 := by
      cases e : q.2.1 with
      | false => exact .inl rfl
      | true => exact .inr ⟨rfl, fun h => cb ⟨e, by omega⟩⟩
    rcases ecb with e | ⟨e, e'⟩
    · simp only [← hE, XX, CC, YY, Nat.reduceAdd, Nat.reduceSub, Nat.reduceLeDiff, Nat.reduceLT, Nat.reduceEqDiff, reduceIte, ↓reduceIte, Nat.reduceBEq, PP, hd1, gv_tt, g10, hd2, g1, j1, j3, hcell, hlen3, set_Act, hA1, e, gv_tf]
      refine htake s t _ w vF vK F K q _ hw hI (by omega) ?_ ?_ ?_ ?_ ?_ ?_ <;> (try simp only [XX, CC, YY, Nat.reduceAdd, Nat.reduceSub, Nat.reduceLeDiff, Nat.reduceLT, Nat.reduceEqDiff, reduceIte, ↓reduceIte, Nat.reduceBEq, PP, g1, g2, g8, g9, g10])
      · intro e' t' vF' vK' F' K' hI' hl' q1 q2 q8 q9 q10
        have kw' := (blkP (hI'.hx.at (b := s.length) (B := .cells true (cP w)) (by simp))).1
        have hF'l := hI'.m.len
        simp only [XX, CC, YY, Nat.reduceAdd, Nat.reduceSub, Nat.reduceLeDiff, Nat.reduceLT, Nat.reduceEqDiff, reduceIte, ↓reduceIte, Nat.reduceBEq, PP, q2, q8, q9, kw']
        refine (apart11_r t' vF' vK' w F' K' hw hI'.m (by omega) (by omega) (hI'.oF.rd cP_len) (hI'.oK.rd cP_len)).use ?_
        simp only [XX, CC, YY, Nat.reduceAdd, Nat.reduceSub, Nat.reduceLeDiff, Nat.reduceLT, Nat.reduceEqDiff, reduceIte, ↓reduceIte, Nat.reduceBEq, PP, Bool.not_true, q10, hw1]
        refine next _ _ vF' vK' F' K' hI' (by omega) ?_ ?_ ?_ ?_ ?_ <;> (try simp only [XX, CC, YY, Nat.reduceAdd, Nat.reduceSub, Nat.reduceLeDiff, Nat.reduceLT, Nat.reduceEqDiff, reduceIte, ↓reduceIte, Nat.reduceBEq, PP, q1, q2, q8, q9, q10])
      · intro e' t' hI' q1 q2 q8 q9 q10
        simp only [XX, CC, YY, Nat.reduceAdd, Nat.reduceSub, Nat.reduceLeDiff, Nat.reduceLT, Nat.reduceEqDiff, reduceIte, ↓reduceIte, Nat.reduceBEq, PP, q10, hw1]
        refine next _ _ vF vK F K hI' (by omega) ?_ ?_ ?_ ?_ ?_ <;> (try simp only [XX, CC, YY, Nat.reduceAdd, Nat.reduceSub, Nat.reduceLeDiff, Nat.reduceLT, Nat.reduceEqDiff, reduceIte, ↓reduceIte, Nat.reduceBEq, PP, q1, q2, q8, q9, q10])
    · simp only [← hE, XX, CC, YY, Nat.reduceAdd, Nat.reduceSub, Nat.reduceLeDiff, Nat.reduceLT, Nat.reduceEqDiff, reduceIte, ↓reduceIte, Nat.reduceBEq, PP, hd1, gv_tt, g10, hd2, g1, j1, j3, hcell, hlen3, set_Act, hA1, e, g9, rl, dec_f e']
      refine htake s t _ w vF vK F K q _ hw hI (by omega) ?_ ?_ ?_ ?_ ?_ ?_ <;> (try simp only [XX, CC, YY, Nat.reduceAdd, Nat.reduceSub, Nat.reduceLeDiff, Nat.reduceLT, Nat.reduceEqDiff, reduceIte, ↓reduceIte, Nat.reduceBEq, PP, g1, g2, g8, g9, g10])
      · intro e' t' vF' vK' F' K' hI' hl' q1 q2 q8 q9 q10
        have kw' := (blkP (hI'.hx.at (b := s.length) (B := .cells true (cP w)) (by simp))).1
        have hF'l := hI'.m.len
        simp only [XX, CC, YY, Nat.reduceAdd, Nat.reduceSub, Nat.reduceLeDiff, Nat.reduceLT, Nat.reduceEqDiff, reduceIte, ↓reduceIte, Nat.reduceBEq, PP, q2, q8, q9, kw']
        refine (apart11_r t' vF' vK' w F' K' hw hI'.m (by omega) (by omega) (hI'.oF.rd cP_len) (hI'.oK.rd cP_len)).use ?_
        simp only [XX, CC, YY, Nat.reduceAdd, Nat.reduceSub, Nat.reduceLeDiff, Nat.reduceLT, Nat.reduceEqDiff, reduceIte, ↓reduceIte, Nat.reduceBEq, PP, Bool.not_true, q10, hw1]
        refine next _ _ vF' vK' F' K' hI' (by omega) ?_ ?_ ?_ ?_ ?_ <;> (try simp only [XX, CC, YY, Nat.reduceAdd, Nat.reduceSub, Nat.reduceLeDiff, Nat.reduceLT, Nat.reduceEqDiff, reduceIte, ↓reduceIte, Nat.reduceBEq, PP, q1, q2, q8, q9, q10])
      · intro e' t' hI' q1 q2 q8 q9 q10
        simp only [XX, CC, YY, Nat.reduceAdd, Nat.reduceSub, Nat.reduceLeDiff, Nat.reduceLT, Nat.reduceEqDiff, reduceIte, ↓reduceIte, Nat.reduceBEq, PP, q10, hw1]
        refine next _ _ vF vK F K hI' (by omega) ?_ ?_ ?_ ?_ ?_ <;> (try simp only [XX, CC, YY, Nat.reduceAdd, Nat.reduceSub, Nat.reduceLeDiff, Nat.reduceLT, Nat.reduceEqDiff, reduceIte, ↓reduceIte, Nat.reduceBEq, PP, q1, q2, q8, q9, q10])
end Go.Ev
