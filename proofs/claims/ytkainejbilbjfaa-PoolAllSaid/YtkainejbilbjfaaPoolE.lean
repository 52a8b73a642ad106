import Derived.Test.YtkainejbilbjfaaPoolD
/-! pool.Own, to its sort; the awake's three leases. -/
namespace Go.Ev
set_option linter.unusedVariables false
set_option linter.unusedSimpArgs false
open Go.Ev.Sp

structure Lse where
  k : Int
  a : Nat
  b1 : AV
  b2 : AV
  b3 : AV
  b4 : AV
  b5 : AV
def cL (q : Lse) : List AV := [.int .i64 q.k, .int .u64 (H q.a), .int .u64 (L q.a), q.b1, q.b2, q.b3, q.b4, q.b5]
def Lse.ok (q : Lse) : Bool := q.b1.cell && (q.b2.cell && (q.b3.cell && (q.b4.cell && q.b5.cell)))
theorem cL_len (q : Lse) : (cL q).length = 8 := rfl
theorem cL_cell {q : Lse} (h : q.ok = true) : (cL q).all AV.cell = true := by
  unfold Lse.ok at h
  simp only [Bool.and_eq_true] at h
  simp only [cL, List.all_cons, List.all_nil, cell_int, h.1, h.2.1, h.2.2.1, h.2.2.2.1, h.2.2.2.2, Bool.and_self]
/-- The addresses of a kind. -/
def ofKind (kind : Int) (l : List Lse) : List Nat := (l.filter fun q => decide (q.k = kind)).map Lse.a
def ownC : RC := .seq r_pool_Own.body.snd.snd.snd.fst r_pool_Own.body.snd.snd.snd.snd

set_option maxHeartbeats 4000000 in
theorem own_pre (s : St) (v : AV) (l : List Lse) (kind : Int) (hl : l.length < 1000000) (hok : ∀ q ∈ l, q.ok = true) (hv : Rd 8 cL s v l) (k : AV → St → Prop)
    (htail : ∀ (e : Env) (t : St) (vo : AV), Ext s t → Own s.length 2 cA t vo (ofKind kind l) → e.get 5 = vo → awp (Run T) ownC (endK [.tmp 4] s k) e t) :
    Run T f_pool_Own [v, .int .i64 kind] s k := by
  refine run_body (F := r_pool_Own) rfl (by simp [r_pool_Own]) ?_
  obtain ⟨TAIL, hT⟩ : ∃ c, c = ownC := ⟨_, rfl⟩
  have hbody : r_pool_Own.body = .seq r_pool_Own.body.fst (.seq r_pool_Own.body.snd.fst (.seq r_pool_Own.body.snd.snd.fst TAIL)) := by rw [hT]; rfl
  rw [← hT] at htail
  rw [hbody]
  simp only [r_pool_Own, RC.fst, RC.snd, XX, CC, Nat.reduceAdd, Nat.reduceSub, Nat.reduceLeDiff, Nat.reduceLT, Nat.reduceEqDiff, reduceIte, ↓reduceIte, Nat.reduceBEq, hv.len]
  refine awp_rounds (fun d e t => Ext s t ∧ ∃ (i : Nat) (vo : AV), i + d = l.length ∧ e.get 1 = .int .i64 kind ∧ e.get 5 = vo ∧ e.get 8 = v ∧ e.get 9 = .int .i64 l.length ∧ e.get 10 = .int .i64 i ∧ Own s.length 2 cA t vo (ofKind kind (l.take i))) l.length ?_ ?_
  · refine ⟨.refl s, 0, .nils, by omega, ?_, ?_, ?_, ?_, ?_, .nil⟩ <;> (try simp only [XX, CC, Nat.reduceAdd, Nat.reduceSub, Nat.reduceLeDiff, Nat.reduceLT, Nat.reduceEqDiff, reduceIte, ↓reduceIte, Nat.reduceBEq, hv.len]) <;> rfl
  rintro J d e t hJ ⟨hx, i, vo, hi, g1, g5, g8, g9, g10, ho⟩
  have hvt := hv.ext hx
  simp only [XX, CC, Nat.reduceAdd, Nat.reduceSub, Nat.reduceLeDiff, Nat.reduceLT, Nat.reduceEqDiff, reduceIte, ↓reduceIte, Nat.reduceBEq, g1, g5, g8, g9, g10]
  by_cases h : i < l.length
  · obtain ⟨q, hq, hd⟩ := drop_get h
    have hqo := hok q (List.mem_of_getElem? hq)
    obtain ⟨b2, o2, h1, h2⟩ := hvt.get cL_len hq
    have h3 := h2 (some 8) 0 (.agg (cL q)) rfl
    rw [Nat.add_zero] at h3
    have hw8 : stA [Blk.cells true [AV.int .i64 0, .int .u64 0, .int .u64 0, .int .i64 0, .int .i64 0, .str (bts []), .int .u32 0, .int .i64 0]] (some 8) (.ptr 0 0) (.agg (cL q)) = some [Blk.cells true (cL q)] := by
      rw [st_agg (cL_len q), wr_own (cs := [AV.int .i64 0, .int .u64 0, .int .u64 0, .int .i64 0, .int .i64 0, .str (bts []), .int .u32 0, .int .i64 0]) rfl, if_pos ⟨by rw [cL_len]; decide, cL_cell hqo⟩]
      rfl
    have hA : ldA [Blk.cells true (cL q)] none (.ptr 0 0) = some (.int .i64 q.k) := rfl
    have hB : ldA [Blk.cells true (cL q)] (some 2) (.ptr 0 1) = some (aA q.a) := rfl
    have hA1 := fun m => ldA_ext (s := t ++ [Blk.cells true (cL q)]) (n := none) (p := .ptr t.length 0) (v := .int .i64 q.k) (by rw [ld_own get_last]; rfl) m
    have hB1 := fun m => ldA_ext (s := t ++ [Blk.cells true (cL q)]) (n := some 2) (p := .ptr t.length 1) (v := aA q.a) (by rw [ld_own get_last]; rfl) m
    simp only [List.append_assoc, List.singleton_append] at hA1 hB1
    have htk : ofKind kind (l.take (i + 1)) = ofKind kind (l.take i) ++ (if q.k = kind then [q.a] else []) := by
      unfold ofKind
      rw [List.take_add_one, hq, Option.toList_some, List.filter_append, List.map_append]
      congr 1
      by_cases c : q.k = kind <;> simp [c]
    by_cases hk : q.k = kind
    · rw [if_pos hk] at htk
      have hb : (q.k == kind) = true := by simp [hk]
      obtain ⟨v', t', e1, e2, e3, e4, e5, e6⟩ := own_app (by_ := 16) (y := .sl (t.length + 1) 0 2 1 (some 1)) (l2 := [q.a]) (ho.app [Blk.cells true (cL q), .cells true (cA q.a)]) (by have := hx.len; simp; omega) (rd_lit (by simp) cA_len rfl) cA_len cA_cell (by
        have : (ofKind kind (l.take i)).length ≤ (l.take i).length := by unfold ofKind; rw [List.length_map]; exact List.length_filter_le _ _
        have := List.length_take_le i l
        simp; omega)
      simp only [dec_t (show (i : Int) < l.length by omega), XX, CC, Nat.reduceAdd, Nat.reduceSub, Nat.reduceLeDiff, Nat.reduceLT, Nat.reduceEqDiff, reduceIte, ↓reduceIte, Nat.reduceBEq, g1, g5, g8, g9, g10, h1, h3, hw8, hA, hB, hA1, hB1, hb, e1]
      refine hJ (d - 1) _ _ (by omega) ⟨e5 s (Nat.le_refl _) (hx.app _), i + 1, v', by omega, ?_, ?_, ?_, ?_, ?_, ?_⟩ <;> (try simp only [XX, CC, Nat.reduceAdd, Nat.reduceSub, Nat.reduceLeDiff, Nat.reduceLT, Nat.reduceEqDiff, reduceIte, ↓reduceIte, Nat.reduceBEq, g1, g5, g8, g9, g10])
      · rw [w64_nat (by omega)]
      · rw [htk]; exact e2
    · rw [if_neg hk, List.append_nil] at htk
      have hb : (q.k == kind) = false := by simp [hk]
      simp only [dec_t (show (i : Int) < l.length by omega), XX, CC, Nat.reduceAdd, Nat.reduceSub, Nat.reduceLeDiff, Nat.reduceLT, Nat.reduceEqDiff, reduceIte, ↓reduceIte, Nat.reduceBEq, g1, g5, g8, g9, g10, h1, h3, hw8, hA, hB, hA1, hB1, hb]
      refine hJ (d - 1) _ _ (by omega) ⟨hx.app _, i + 1, vo, by omega, ?_, ?_, ?_, ?_, ?_, ?_⟩ <;> (try simp only [XX, CC, Nat.reduceAdd, Nat.reduceSub, Nat.reduceLeDiff, Nat.reduceLT, Nat.reduceEqDiff, reduceIte, ↓reduceIte, Nat.reduceBEq, g1, g5, g8, g9, g10])
      · rw [w64_nat (by omega)]
      · rw [htk]; exact ho.app _
  · simp only [dec_f (show ¬ (i : Int) < l.length by omega), XX, CC, Nat.reduceAdd, Nat.reduceSub, Nat.reduceLeDiff, Nat.reduceLT, Nat.reduceEqDiff, reduceIte, ↓reduceIte, Nat.reduceBEq, g1, g5, g8, g9, g10]
    rw [List.take_of_length_le (by omega)] at ho
    refine htail _ t vo hx ho ?_
    simp only [XX, CC, Nat.reduceAdd, Nat.reduceSub, Nat.reduceLeDiff, Nat.reduceLT, Nat.reduceEqDiff, reduceIte, ↓reduceIte, Nat.reduceBEq, g5]

set_option maxHeartbeats 4000000 in
/-- The awake's Own: two of the kind, the second one the lower. -/
theorem own2_r (s : St) (v : AV) (l : List Lse) (kind : Int) (x y : Nat) (hxy : y < x) (hl : l.length < 1000000) (hok : ∀ q ∈ l, q.ok = true) (hv : Rd 8 cL s v l) (hk : ofKind kind l = [x, y]) :
    Run T f_pool_Own [v, .int .i64 kind] s (Out 2 cA s [y, x]) := by
  refine own_pre s v l kind hl hok hv _ ?_
  intro e t vo hx ho g5
  rw [hk] at ho
  have hlen := (ho.rd cA_len).len
  rcases ho with ⟨_, h⟩ | ⟨b, c, cs, h1, h2, rfl, h3, h4⟩
  · cases h
  have hb := (List.getElem?_eq_some_iff.1 h3).1
  have ix0 : ixaA 2 (.sl b 0 2 [x, y].length c) (.int .i64 0) = some (.ptr b 0) := ixa_nat (i := 0) (by simp)
  have ix1 : ixaA 2 (.sl b 0 2 [x, y].length c) (.int .i64 1) = some (.ptr b 2) := ixa_nat (i := 1) (by simp)
  have l0 : ldA t (some 2) (.ptr b 0) = some (aA x) := by rw [ld_own h3]; rfl
  have l1 : ldA t (some 2) (.ptr b 2) = some (aA y) := by rw [ld_own h3]; rfl
  have w1 : wrA t b 2 (cA x) = some (t.set b (.cells true ([x, x].flatMap cA ++ cs))) := by
    rw [wr_own h3, if_pos ⟨by simp [cA], cA_cell x⟩]; rfl
  have h3' : (t.set b (.cells true ([x, x].flatMap cA ++ cs)))[b]? = some (.cells true ([x, x].flatMap cA ++ cs)) := key_set hb
  have w2 : wrA (t.set b (.cells true ([x, x].flatMap cA ++ cs))) b 0 (cA y) = some (t.set b (.cells true ([y, x].flatMap cA ++ cs))) := by
    rw [wr_own h3', if_pos ⟨by simp [cA], cA_cell y⟩, List.set_set]; rfl
  have h5 : (t.set b (.cells true ([y, x].flatMap cA ++ cs)))[b]? = some (.cells true ([y, x].flatMap cA ++ cs)) := key_set hb
  have l0' : ldA (t.set b (.cells true ([y, x].flatMap cA ++ cs))) (some 2) (.ptr b 0) = some (aA y) := by rw [ld_own h5]; rfl
  have l1' : ldA (t.set b (.cells true ([y, x].flatMap cA ++ cs))) (some 2) (.ptr b 2) = some (aA x) := by rw [ld_own h5]; rfl
  simp only [ownC, r_pool_Own, RC.fst, RC.snd, XX, CC, Nat.reduceAdd, Nat.reduceSub, Nat.reduceLeDiff, Nat.reduceLT, Nat.reduceEqDiff, reduceIte, ↓reduceIte, Nat.reduceBEq, g5]
  refine Run.mono _ _ _ _ _ ?_ (sort2_r t _ x y b _ _ hxy hb hlen ix0 ix1 l0 l1 w1 w2)
  rintro a t' rfl
  (try simp only [XX, CC, Nat.reduceAdd, Nat.reduceSub, Nat.reduceLeDiff, Nat.reduceLT, Nat.reduceEqDiff, reduceIte, ↓reduceIte, Nat.reduceBEq, g5])
  refine Run.mono _ _ _ _ _ ?_ (comp2_r _ _ y x b (by omega) hlen ix0 ix1 l0' l1')
  rintro a t' ⟨rfl, rfl⟩
  (try simp only [XX, CC, Nat.reduceAdd, Nat.reduceSub, Nat.reduceLeDiff, Nat.reduceLT, Nat.reduceEqDiff, reduceIte, ↓reduceIte, Nat.reduceBEq])
  refine ret_own1 (l := [y, x]) (.inr ⟨b, c, cs, h1, h2, rfl, h5, h4⟩) (Nat.le_refl _) (hx.set h1 _) cA_un fun v' s' h => h
end Go.Ev
