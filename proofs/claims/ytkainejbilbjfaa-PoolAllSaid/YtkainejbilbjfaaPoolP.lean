import Derived.Test.YtkainejbilbjfaaPoolG
/-! PoolPicks. -/
namespace Go.Ev
set_option linter.unusedVariables false
set_option linter.unusedSimpArgs false
open Go.Ev.Sp

section
variable {α : Type} {e : Nat} {enc : α → List AV} {s : St} {v : AV} {l : List α}
theorem flatn_drop (he : ∀ x, (enc x).length = e) : ∀ (l : List α) (n : Nat), (l.drop n).flatMap enc = (l.flatMap enc).drop (n * e)
  | l, 0 => by simp
  | [], n + 1 => by simp
  | x :: l, n + 1 => by
    rw [List.drop_succ_cons, List.flatMap_cons, flatn_drop he l n, Nat.succ_mul, Nat.add_comm, ← he x, ← List.drop_drop, List.drop_left]
/-- A slice behind its first n. -/
theorem rd_drop {n : Nat} (h : Rd e enc s v l) (he : ∀ x, (enc x).length = e) (hn : n ≤ l.length) : ∃ v', (∀ k : IntKind, slcA e v (some (.int k (n : Int))) none none = some v') ∧ Rd e enc s v' (l.drop n) := by
  have h1 := h.len
  have h2 := h.cells
  have h3 := h.under
  cases v with
  | nils =>
    simp [lenlA] at h1
    have : l = [] := List.length_eq_zero_iff.1 (by omega)
    subst this
    simp at hn
    subst hn
    exact ⟨.nils, fun k => by simp [slcA, boundA], by simpa using h⟩
  | sl b o es m c =>
    simp [lenlA] at h1
    have hm : m = l.length := by omega
    subst hm
    simp only [cellsA] at h2
    split at h2 <;> try (simp at h2; done)
    rename_i cs hcs
    split at h2 <;> simp at h2
    rename_i hc
    obtain ⟨rfl, hc⟩ := hc
    have hmul : l.length * es = n * es + (l.length - n) * es := by rw [← Nat.add_mul]; congr 1; omega
    refine ⟨.sl b (o + n * es) es (l.length - n) (c.map (· - n)), fun k => ?_, by simp [lenlA], ?_, h3⟩
    · have h0 : (0 : Int) ≤ (n : Int) ∧ (n : Int) ≤ (l.length : Int) := by omega
      simp [slcA, boundA, h0.2]
    · simp only [cellsA, hcs, true_and]
      rw [if_pos (by omega), flatn_drop he, ← h2, List.drop_take, List.drop_drop]
      congr 2
      omega
  | _ => simp [lenlA] at h1
end

theorem nth_none : ∀ {s : List (Nat × Nat)} {lo n : Nat}, Snd 340282366920938463463374607431768211456 lo s → (nthL s n = none ↔ cnt s ≤ n)
  | [], _, n, _ => by simp [nthL, cnt]
  | q :: s, lo, n, h => by
    have h2 := h.2.1
    rw [cnt_cons]
    unfold nthL
    split
    · rw [nth_none h.2.2.2]; omega
    · simp; omega
/-- What a draw picks of a set. -/
theorem pick_spec {F : List (Nat × Nat)} (hF : Snd 340282366920938463463374607431768211456 0 F) (d : Nat) (hd : d < 340282366920938463463374607431768211456) : (F = [] ∧ pickV F d = .tup [aA 0, .bool false]) ∨ (F ≠ [] ∧ ∃ n x, pickV F d = .tup [aA x, .bool true] ∧ n = d % cnt F ∧ nthL F n = some x ∧ x < 340282366920938463463374607431768211456 ∧ mem F x) := by
  have hs := (sndB_iff (Snd.toWf hF)).2 hF
  have hcl := cnt_le hF
  by_cases h0 : F = []
  · subst h0; exact .inl ⟨rfl, rfl⟩
  · have hpos : 0 < cnt F := by cases F with | nil => exact absurd rfl h0 | cons q l => rw [cnt_cons]; omega
    have hlen : 0 < F.length := List.length_pos_iff.2 h0
    have hnn : nthL F (d % cnt F) ≠ none := fun h => by
      have := (nth_none hF).1 h
      have := Nat.mod_lt d hpos
      omega
    obtain ⟨x, hx⟩ := Option.ne_none_iff_exists'.1 hnn
    have hxw := nthL_lt hF hx
    refine .inr ⟨h0, d % cnt F, x, ?_, rfl, hx, hxw.1, hxw.2⟩
    unfold pickV
    rw [if_pos hs]
    by_cases hall : cnt F = 340282366920938463463374607431768211456
    · rw [if_pos ⟨hlen, by rw [hall]⟩]
      unfold nthV
      rw [hall, Nat.mod_eq_of_lt hd] at hx
      rw [if_pos hs, hx]
    · have hm : cnt F % 340282366920938463463374607431768211456 = cnt F := Nat.mod_eq_of_lt (by omega)
      rw [if_neg (by rw [hm]; omega), hm, if_neg (by omega)]
      unfold nthV
      rw [if_pos hs, hx]
theorem mem_pts (l : List Nat) (x : Nat) : mem (pts l) x ↔ x ∈ l := by
  simp only [mem, pts, List.mem_map]
  constructor
  · rintro ⟨r, ⟨a, ha, rfl⟩, h1, h2⟩
    have : a = x := by simp at h1 h2; omega
    rw [← this]; exact ha
  · intro h; exact ⟨(x, x), ⟨x, h, rfl⟩, Nat.le_refl _, Nat.le_refl _⟩
theorem inL_take {l : List (Nat × Nat)} {i : Nat} {q : Nat × Nat} (h : l[i]? = some q) (x : Nat) : inL (l.take (i + 1)) x = (inL (l.take i) x || (decide (q.1 ≤ x) && decide (x ≤ q.2))) := by
  unfold inL
  rw [List.take_add_one, h, Option.toList_some, List.any_append]
  simp
theorem quo2 {n : Nat} (h : n < 1000000) : binA .quo (.int .i64 (n : Int)) (.int .i64 2) = some (.int .i64 ((n / 2 : Nat) : Int)) := by
  simp only [binA]
  rw [if_pos ⟨trivial, by decide⟩, Int.tdiv_eq_ediv_of_nonneg (by omega), show (n : Int) / 2 = ((n / 2 : Nat) : Int) by omega, w64_in (by omega) (by omega)]

def pkA : RC := r_w12_PoolPicks.body.snd.snd.snd.snd.snd.snd.snd.snd.snd.snd.snd
def pkW : RC := pkA.snd.snd.snd
set_option maxHeartbeats 4000000 in
/-- What is picked lies in one of the ranges and is none of those that are out. -/
theorem pk_tail (s t : St) (v w vf : AV) (ps F : List (Nat × Nat)) (tk : List Nat) (x p : Nat) (e : Env) (hl : ps.length ≤ 100) (hS : Wf ps) (hv : Rd 4 cR t v ps) (hl' : tk.length ≤ 100) (hO : ∀ x ∈ tk, x < 340282366920938463463374607431768211456) (hw : Rd 2 cA t w tk)
    (hF : Snd 340282366920938463463374607431768211456 0 F) (lF : F.length < 1000000) (hf : Rd 4 cR t vf F) (hx : Ext s t) (hxM : x < 340282366920938463463374607431768211456) (hin : inL ps x = true) (hno : x ∉ tk) (hinF : inL F x = true) (hp : t[p]? = some (.cells true (cA x)))
    (g0 : e.get 0 = v) (g1 : e.get 1 = w) (g10 : e.get 10 = vf) (g11 : e.get 11 = .ptr p 0) :
    awp (Run T) pkA (endK [.tmp 6] s fun r _ => r = .bool true) e t := by
  have kx := blkA hp
  have wF := Snd.toWf hF
  have oF := (sndB_iff wF).2 hF
  have hhas := has_r t vf F x (by omega) wF hf
  rw [oF, hinF] at hhas
  simp only [pkA, r_w12_PoolPicks, RC.fst, RC.snd, XX, CC, Nat.reduceAdd, Nat.reduceSub, Nat.reduceLeDiff, Nat.reduceLT, Nat.reduceEqDiff, reduceIte, ↓reduceIte, Nat.reduceBEq]
  refine awp_rounds (fun d e t' => t' = t ∧ ∃ i : Nat, i + d = ps.length ∧ e.get 0 = v ∧ e.get 1 = w ∧ e.get 10 = vf ∧ e.get 11 = .ptr p 0 ∧ e.get 13 = .bool (inL (ps.take i) x) ∧ e.get 14 = .int .i64 i) ps.length ?_ ?_
  · refine ⟨rfl, 0, by omega, ?_, ?_, ?_, ?_, ?_, ?_⟩ <;> (try simp only [XX, CC, Nat.reduceAdd, Nat.reduceSub, Nat.reduceLeDiff, Nat.reduceLT, Nat.reduceEqDiff, reduceIte, ↓reduceIte, Nat.reduceBEq, g0, g1, g10, g11]) <;> rfl
  rintro J d e t' hJ ⟨ht, i, hi, g0, g1, g10, g11, g13, g14⟩
  subst ht
  simp only [XX, CC, Nat.reduceAdd, Nat.reduceSub, Nat.reduceLeDiff, Nat.reduceLT, Nat.reduceEqDiff, reduceIte, ↓reduceIte, Nat.reduceBEq, g0, g1, g10, g11, g13, g14, hv.len]
  by_cases h : i < ps.length
  · obtain ⟨q, hq, hd⟩ := drop_get h
    obtain ⟨b2, o2, h1, h2⟩ := rdR hv hq
    have hnx := inL_take hq x
    have hwi : IntKind.i64.wrap ((i : Int) + 1) = ((i + 1 : Nat) : Int) := w64_nat (by omega)
    have again : ∀ e', e'.get 0 = v → e'.get 1 = w → e'.get 10 = vf → e'.get 11 = .ptr p 0 → e'.get 13 = .bool (inL (ps.take (i + 1)) x) → e'.get 14 = .int .i64 (i + 1 : Nat) → J e' t' := fun e' k0 k1 k10 k11 k13 k14 => hJ (d - 1) e' t' (by omega) ⟨rfl, i + 1, by omega, k0, k1, k10, k11, k13, k14⟩
    cases c0 : inL (ps.take i) x
    · rw [c0] at g13 hnx
      cases c1 : decide (q.1 ≤ x)
      · rw [c1] at hnx
        simp only [dec_t (show (i : Int) < ps.length by omega), XX, CC, Nat.reduceAdd, Nat.reduceSub, Nat.reduceLeDiff, Nat.reduceLT, Nat.reduceEqDiff, reduceIte, ↓reduceIte, Nat.reduceBEq, g0, g1, g10, g11, g13, g14]
        refine drw_in [] rfl ?_
        simp only [List.append_nil, DD, CC, Nat.reduceAdd, Nat.reduceSub, Nat.reduceLeDiff, Nat.reduceLT, Nat.reduceEqDiff, reduceIte, ↓reduceIte, Nat.reduceBEq, g0, g13, g14, g11, h1, h2, kx]
        refine dr_call (cmp_r _ q.1 x) ?_
        simp only [DD, CC, Nat.reduceAdd, Nat.reduceSub, Nat.reduceLeDiff, Nat.reduceLT, Nat.reduceEqDiff, reduceIte, ↓reduceIte, Nat.reduceBEq, cmpN_dle, c1, g14, hwi]
        refine again _ ?_ ?_ ?_ ?_ ?_ ?_ <;> (try simp only [XX, CC, Nat.reduceAdd, Nat.reduceSub, Nat.reduceLeDiff, Nat.reduceLT, Nat.reduceEqDiff, reduceIte, ↓reduceIte, Nat.reduceBEq, g0, g1, g10, g11])
        rw [hnx]; rfl
      · rw [c1] at hnx
        simp only [dec_t (show (i : Int) < ps.length by omega), XX, CC, Nat.reduceAdd, Nat.reduceSub, Nat.reduceLeDiff, Nat.reduceLT, Nat.reduceEqDiff, reduceIte, ↓reduceIte, Nat.reduceBEq, g0, g1, g10, g11, g13, g14]
        refine drw_in [] rfl ?_
        simp only [List.append_nil, DD, CC, Nat.reduceAdd, Nat.reduceSub, Nat.reduceLeDiff, Nat.reduceLT, Nat.reduceEqDiff, reduceIte, ↓reduceIte, Nat.reduceBEq, g0, g13, g14, g11, h1, h2, kx]
        refine dr_call (cmp_r _ q.1 x) ?_
        simp only [DD, CC, Nat.reduceAdd, Nat.reduceSub, Nat.reduceLeDiff, Nat.reduceLT, Nat.reduceEqDiff, reduceIte, ↓reduceIte, Nat.reduceBEq, cmpN_dle, c1, g0, g11, g14, h1, h2, kx]
        refine dr_call (cmp_r _ x q.2) ?_
        simp only [DD, CC, Nat.reduceAdd, Nat.reduceSub, Nat.reduceLeDiff, Nat.reduceLT, Nat.reduceEqDiff, reduceIte, ↓reduceIte, Nat.reduceBEq, cmpN_dle, g14, hwi]
        refine again _ ?_ ?_ ?_ ?_ ?_ ?_ <;> (try simp only [XX, CC, Nat.reduceAdd, Nat.reduceSub, Nat.reduceLeDiff, Nat.reduceLT, Nat.reduceEqDiff, reduceIte, ↓reduceIte, Nat.reduceBEq, g0, g1, g10, g11])
        rw [hnx]; simp
    · rw [c0] at g13 hnx
      simp only [dec_t (show (i : Int) < ps.length by omega), XX, CC, Nat.reduceAdd, Nat.reduceSub, Nat.reduceLeDiff, Nat.reduceLT, Nat.reduceEqDiff, reduceIte, ↓reduceIte, Nat.reduceBEq, g0, g1, g10, g11, g13, g14]
      refine drw_in [] rfl ?_
      simp only [List.append_nil, DD, CC, Nat.reduceAdd, Nat.reduceSub, Nat.reduceLeDiff, Nat.reduceLT, Nat.reduceEqDiff, reduceIte, ↓reduceIte, Nat.reduceBEq, g13, g14, hwi]
      refine again _ ?_ ?_ ?_ ?_ ?_ ?_ <;> (try simp only [XX, CC, Nat.reduceAdd, Nat.reduceSub, Nat.reduceLeDiff, Nat.reduceLT, Nat.reduceEqDiff, reduceIte, ↓reduceIte, Nat.reduceBEq, g0, g1, g10, g11])
      rw [hnx]; rfl
  · rw [List.take_of_length_le (by omega), hin] at g13
    simp only [dec_f (show ¬ (i : Int) < ps.length by omega), XX, CC, Nat.reduceAdd, Nat.reduceSub, Nat.reduceLeDiff, Nat.reduceLT, Nat.reduceEqDiff, reduceIte, ↓reduceIte, Nat.reduceBEq]
    refine awp_rounds (fun d e t'' => t'' = t' ∧ ∃ i : Nat, i + d = tk.length ∧ e.get 1 = w ∧ e.get 10 = vf ∧ e.get 11 = .ptr p 0 ∧ e.get 13 = .bool true ∧ e.get 15 = .int .i64 i) tk.length ?_ ?_
    · refine ⟨rfl, 0, by omega, ?_, ?_, ?_, ?_, ?_⟩ <;> (try simp only [XX, CC, Nat.reduceAdd, Nat.reduceSub, Nat.reduceLeDiff, Nat.reduceLT, Nat.reduceEqDiff, reduceIte, ↓reduceIte, Nat.reduceBEq, g1, g10, g11, g13]) <;> rfl
    rintro J2 d2 e2 t2 hJ2 ⟨ht2, i, hi, g1, g10, g11, g13, g15⟩
    subst ht2
    simp only [XX, CC, Nat.reduceAdd, Nat.reduceSub, Nat.reduceLeDiff, Nat.reduceLT, Nat.reduceEqDiff, reduceIte, ↓reduceIte, Nat.reduceBEq, g1, g10, g11, g13, g15, hw.len]
    by_cases h : i < tk.length
    · obtain ⟨a, ha, hd⟩ := drop_get h
      obtain ⟨b2, o2, h1, h2⟩ := rdA hw ha
      have hax : ¬ a = x := fun h => hno (by rw [← h]; exact List.mem_of_getElem? ha)
      simp only [dec_t (show (i : Int) < tk.length by omega), XX, CC, Nat.reduceAdd, Nat.reduceSub, Nat.reduceLeDiff, Nat.reduceLT, Nat.reduceEqDiff, reduceIte, ↓reduceIte, Nat.reduceBEq, g1, g10, g11, g13, g15]
      refine drw_in [] rfl ?_
      simp only [List.append_nil, DD, CC, Nat.reduceAdd, Nat.reduceSub, Nat.reduceLeDiff, Nat.reduceLT, Nat.reduceEqDiff, reduceIte, ↓reduceIte, Nat.reduceBEq, g1, g11, g15, h1, h2, kx, eq_A, dec_f hax]
      refine hJ2 (d2 - 1) _ _ (by omega) ⟨rfl, i + 1, by omega, ?_, ?_, ?_, ?_, ?_⟩ <;> (try simp only [XX, CC, Nat.reduceAdd, Nat.reduceSub, Nat.reduceLeDiff, Nat.reduceLT, Nat.reduceEqDiff, reduceIte, ↓reduceIte, Nat.reduceBEq, g1, g10, g11, g13, g15])
      rw [w64_nat (by omega)]
    · simp only [dec_f (show ¬ (i : Int) < tk.length by omega), XX, CC, Nat.reduceAdd, Nat.reduceSub, Nat.reduceLeDiff, Nat.reduceLT, Nat.reduceEqDiff, reduceIte, ↓reduceIte, Nat.reduceBEq, g13, g10, g11, kx]
      refine hhas.use ?_
      (try simp only [XX, CC, Nat.reduceAdd, Nat.reduceSub, Nat.reduceLeDiff, Nat.reduceLT, Nat.reduceEqDiff, reduceIte, ↓reduceIte, Nat.reduceBEq])
      exact ret_drop (k := fun r _ => r = AV.bool true) hx rfl rfl
end Go.Ev
