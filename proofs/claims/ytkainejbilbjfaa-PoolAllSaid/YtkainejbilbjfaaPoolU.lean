import Derived.Test.YtkainejbilbjfaaPoolT
/-! PoolAll, the second loop; the run. -/
namespace Go.Ev
set_option linter.unusedVariables false
set_option linter.unusedSimpArgs false
open Go.Ev.Sp

set_option maxHeartbeats 2000000 in
theorem all2 (s t0 : St) (vf vd : AV) (F : List (Nat × Nat)) (ds : List Nat) (e : Env) (Q : XE → Env → St → Prop) (hF : Snd 340282366920938463463374607431768211456 0 F) (lF : F.length < 1000) (hf : Rd 4 cR t0 vf F) (ld_ : ds.length < 4611686018427387904) (hD : ∀ x ∈ ds, x < 18446744073709551616) (hd : Rd 1 cU t0 vd ds) (hs : Ext s t0)
    (g2 : e.get 2 = vd) (g7 : e.get 7 = vf) (g10 : e.get 10 = .bool (allB F)) (g16 : e.get 16 = .ptr t0.length 0) (g17 : e.get 17 = .nils) (g18 : e.get 18 = .int .i64 0)
    (hR : ∀ e' t', Ext s t' → e'.get 6 = .bool true → Q .ret e' t') (hK : ∀ e' t', Ext s t' → Q .nrm e' t') : awp (Run T) allL2 Q e (t0 ++ [.cells true (cA (cnt F % 340282366920938463463374607431768211456))]) := by
  have wF := Snd.toWf hF
  have oF := (sndB_iff wF).2 hF
  have b00 : ((0 : Int) == 0) = true := rfl
  obtain ⟨LAST, hL⟩ : ∃ c, c = r_w12_PoolAll.body.snd.snd.snd.snd.snd.snd.snd.snd.snd.fst.snd.inn.inn.snd.fst.inn.snd.snd.snd.snd := ⟨_, rfl⟩
  rw [show allL2 = (let b := allL2.inn.inn; let c := b.snd.fst.inn; .block 2 (.loop (.seq b.fst (.seq (.block 3 (.seq c.fst (.seq c.snd.fst (.seq c.snd.snd.fst (.seq c.snd.snd.snd.fst LAST))))) b.snd.snd)))) by rw [hL]; rfl]
  simp only [allL2, r_w12_PoolAll, RC.fst, RC.snd, RC.inn, XX, CC, Nat.reduceAdd, Nat.reduceSub, Nat.reduceLeDiff, Nat.reduceLT, Nat.reduceEqDiff, reduceIte, ↓reduceIte, Nat.reduceBEq]
  have hG0 : lessL F (builtL [] (pts [])) = F := rfl
  refine awp_rounds (fun d e1 t => ∃ (i : Nat) (vg : AV) (g : List Nat), i + d = ds.length ∧ Ext (t0 ++ [.cells true (cA (cnt (lessL F (builtL [] (pts g))) % 340282366920938463463374607431768211456))]) t ∧ Own (t0.length + 1) 2 cA t vg g ∧ (∀ a ∈ g, a < 340282366920938463463374607431768211456) ∧ g.length ≤ i ∧ i ≤ 200 ∧
    e1.get 2 = vd ∧ e1.get 7 = vf ∧ e1.get 10 = .bool (allB (lessL F (builtL [] (pts g)))) ∧ e1.get 16 = .ptr t0.length 0 ∧ e1.get 17 = vg ∧ e1.get 18 = .int .i64 i) ds.length ?_ ?_
  · refine ⟨0, .nils, [], by omega, .refl _, .nil, (fun a ha => by cases ha), by simp, by omega, g2, g7, ?_, g16, g17, g18⟩
    rw [hG0]; exact g10
  rintro J d e1 t hJ ⟨i, vg, g, hi, hx, ho, hg, hgl, hi2, g2, g7, g10, g16, g17, g18⟩
  have hP := builtL_snd (set := []) (l := pts g) trivial (pts_wf hg)
  have nP := builtL_len (pts g) []
  have npg : (pts g).length = g.length := by simp [pts]
  simp only [List.length_nil, Nat.zero_add] at nP
  have hG := lessL_snd hF hP
  have nG := lessL_len hF hP
  have hone := fun x hxM hx => cnt_one hF hg (x := x) hxM hx
  have hx0 := ext_l hx
  have hbox := ext_box hx
  have kl := blkA hbox
  have hdt := hd.ext hx0
  have hft := hf.ext hx0
  have hfree := free_r t vf vg F g (by omega) wF hft (by omega) hg (ho.rd cA_len)
  rw [oF] at hfree
  generalize lessL F (builtL [] (pts g)) = G at hG nG hone hx hbox kl hfree g10
  have wG := Snd.toWf hG
  have oG := (sndB_iff wG).2 hG
  have hcl := cnt_le hG
  simp only [XX, CC, Nat.reduceAdd, Nat.reduceSub, Nat.reduceLeDiff, Nat.reduceLT, Nat.reduceEqDiff, reduceIte, ↓reduceIte, Nat.reduceBEq, g2, g7, g10, g16, g17, g18, hdt.len]
  by_cases h : i < ds.length
  · by_cases h2 : i < 200
    · obtain ⟨dv, hdv, hdd⟩ := drop_get h
      have hdw := hD dv (List.mem_of_getElem? hdv)
      obtain ⟨b2, o2, h3, h4⟩ := hdt.get cU_len hdv
      have h5 := h4 none 0 (.int .u64 dv) rfl
      rw [Nat.add_zero] at h5
      have h5' := fun t1 (x : Ext t t1) => show ldA t1 none (.ptr b2 o2) = some (.int .u64 dv) by obtain ⟨z, rfl⟩ := x; exact ldA_ext h5 z
      rcases pick_spec hG dv (by omega) with ⟨hG0, hpk⟩ | ⟨hGn, n, x, hpk, _, _, hxM, hxG⟩
      · have hall : allB G = false := by subst hG0; rfl
        have hcn : cnt G % 340282366920938463463374607431768211456 = 0 := by subst hG0; rfl
        rw [hall] at g10
        simp only [dec_t (show (i : Int) < ds.length by omega), dec_t (show (i : Int) < 200 by omega), XX, CC, Nat.reduceAdd, Nat.reduceSub, Nat.reduceLeDiff, Nat.reduceLT, Nat.reduceEqDiff, reduceIte, ↓reduceIte, Nat.reduceBEq, g2, g7, g10, g16, g17, g18]
        refine Run.mono _ _ _ _ _ ?_ hfree
        intro r t1 hh
        obtain ⟨vh, rfl, o1⟩ := hh.yes rfl rfl
        have x1 := o1.ext
        have h5 := h5' t1 x1
        have kl := blkA (ext_box (hx.trans x1))
        rw [hcn] at kl
        simp only [XX, CC, Nat.reduceAdd, Nat.reduceSub, Nat.reduceLeDiff, Nat.reduceLT, Nat.reduceEqDiff, reduceIte, ↓reduceIte, Nat.reduceBEq, g2, g18, h3, h5]
        refine (pick_r _ vh G dv hdw (by omega) wG (o1.rd cR_len)).use ?_
        rw [hpk]
        simp only [XX, CC, Nat.reduceAdd, Nat.reduceSub, Nat.reduceLeDiff, Nat.reduceLT, Nat.reduceEqDiff, reduceIte, ↓reduceIte, Nat.reduceBEq, b00, Bool.not_true, g10, g16, kl, eq_A0, decide_true, show (false == false) = true from rfl, Bool.not_false]
        refine hR _ _ ((hs.trans (hx0.trans x1)).app _) ?_
        simp only [XX, CC, Nat.reduceAdd, Nat.reduceSub, Nat.reduceLeDiff, Nat.reduceLT, Nat.reduceEqDiff, reduceIte, ↓reduceIte, Nat.reduceBEq]
      · have hGpos := cnt_pos hGn
        have hor : (allB G = true ∧ cnt G = 340282366920938463463374607431768211456) ∨ (allB G = false ∧ cnt G % 340282366920938463463374607431768211456 ≠ 0) := by
          unfold allB
          by_cases hc : cnt G = 340282366920938463463374607431768211456
          · exact .inl ⟨decide_eq_true ⟨List.length_pos_iff.2 hGn, by rw [hc]⟩, hc⟩
          · have hm : cnt G % 340282366920938463463374607431768211456 = cnt G := Nat.mod_eq_of_lt (by omega)
            exact .inr ⟨decide_eq_false (by rw [hm]; omega), by rw [hm]; omega⟩
        have hone := hone x hxM hxG
        have hg' : ∀ a ∈ g ++ [x], a < 340282366920938463463374607431768211456 := fun a ha => (List.mem_append.1 ha).elim (hg a) fun h => by simp at h; subst h; exact hxM
        have hP' := builtL_snd (set := []) (l := pts (g ++ [x])) trivial (pts_wf hg')
        have nP' := builtL_len (pts (g ++ [x])) []
        have npg' : (pts (g ++ [x])).length = g.length + 1 := by simp [pts]
        simp only [List.length_nil, Nat.zero_add] at nP'
        have hG' := lessL_snd hF hP'
        have nG' := lessL_len hF hP'
        have hfree' := fun t vg' (hx : Ext t0 t) (ho : Rd 2 cA t vg' (g ++ [x])) => free_r t vf vg' F (g ++ [x]) (by omega) wF (hf.ext hx) (by simp; omega) hg' ho
        rw [oF] at hfree'
        have hJ' := fun e' t' vg' (h1 : Ext (t0 ++ [.cells true (cA (cnt (lessL F (builtL [] (pts (g ++ [x])))) % 340282366920938463463374607431768211456))]) t') (h2 : Own (t0.length + 1) 2 cA t' vg' (g ++ [x])) a b c f q => hJ (d - 1) e' t' (by omega) ⟨i + 1, vg', g ++ [x], by omega, h1, h2, hg', by simp; omega, by omega, a, b, c, f, q⟩
        generalize lessL F (builtL [] (pts (g ++ [x]))) = G' at hone hG' nG' hfree' hJ'
        have hcl' := cnt_le hG'
        have hall' : allB G' = false := by
          unfold allB
          have : cnt G' < 340282366920938463463374607431768211456 := by omega
          by_cases h0 : G' = []
          · subst h0; rfl
          · have := cnt_pos h0
            exact decide_eq_false (by rw [Nat.mod_eq_of_lt (by omega)]; omega)
        have hleft : (cnt G % 340282366920938463463374607431768211456 + 340282366920938463463374607431768211456 - 1) % 340282366920938463463374607431768211456 = cnt G' % 340282366920938463463374607431768211456 := by omega
        rw [hall'] at hJ'
        have hcm : cnt G % 340282366920938463463374607431768211456 < 340282366920938463463374607431768211456 := Nat.mod_lt _ (by decide)
        have hq : ∀ z : Nat, eqA (.st (.one 0 .i (.one 1 .i .nil))) (aA z) (aA z) = some true := fun z => by rw [eq_A, dec_t rfl]
        -- behind the taking
        have hlast : ∀ (e : Env) (t : St) (al : Bool), Ext (t0 ++ [.cells true (cA (cnt G % 340282366920938463463374607431768211456))]) t → Own (t0.length + 1) 2 cA t vg g → t0.length + 1 ≤ t.length → e.get 2 = vd → e.get 7 = vf → e.get 10 = .bool al → e.get 16 = .ptr t0.length 0 → e.get 17 = vg → e.get 18 = .int .i64 i →
            (∃ p, e.get 21 = .ptr p 0 ∧ t[p]? = some (.cells true (cA x))) → ∀ Q1 : XE → Env → St → Prop, (∀ e' t' vg', Ext (t0 ++ [.cells true (cA (cnt G' % 340282366920938463463374607431768211456))]) t' → Own (t0.length + 1) 2 cA t' vg' (g ++ [x]) → e'.get 2 = vd → e'.get 7 = vf → e'.get 10 = .bool false → e'.get 16 = .ptr t0.length 0 → e'.get 17 = vg' → e'.get 18 = .int .i64 i → Q1 .nrm e' t') → awp (Run T) LAST Q1 e t := by
          intro e t al hx ho htl g2 g7 g10 g16 g17 g18 ⟨p, g21, hp⟩ Q1 hK1
          have kx := blkA hp
          have hbox := ext_box hx
          obtain ⟨v', t', e1, e2, e3, e4, e5, e6⟩ := own_app (by_ := 16) (y := .sl t.length 0 2 1 (some 1)) (l2 := [x]) (ho.app [.cells true (cA x)]) (by simp; omega) (rd_lit (by simp) cA_len rfl) cA_len cA_cell (by simp; omega)
          have hx' : Ext (t0 ++ [.cells true (cA (cnt G % 340282366920938463463374607431768211456))]) t' := e5 _ (by simp) (hx.app _)
          have hbox' := ext_box hx'
          have kl' := blkA hbox'
          have hlt := (List.getElem?_eq_some_iff.1 hbox').1
          have hx2 : Ext (t0 ++ [.cells true (cA (cnt G' % 340282366920938463463374607431768211456))]) (t'.set t0.length (.cells true (cA (cnt G' % 340282366920938463463374607431768211456)))) := ext_two hx'
          have ho2 : Own (t0.length + 1) 2 cA (t'.set t0.length (.cells true (cA (cnt G' % 340282366920938463463374607431768211456)))) v' (g ++ [x]) := e2.set (by omega) _
          have hf2 := hfree' _ v' (ext_l hx2) (ho2.rd cA_len)
          rw [hL]
          have fin : ∀ e : Env, e.get 2 = vd → e.get 7 = vf → e.get 10 = .bool false → e.get 16 = .ptr t0.length 0 → e.get 17 = v' → e.get 18 = .int .i64 i → awp (Run T) r_w12_PoolAll.body.snd.snd.snd.snd.snd.snd.snd.snd.snd.fst.snd.inn.inn.snd.fst.inn.snd.snd.snd.snd.snd.snd.snd Q1 e (t'.set t0.length (.cells true (cA (cnt G' % 340282366920938463463374607431768211456)))) := by
            intro e g2 g7 g10 g16 g17 g18
            simp only [r_w12_PoolAll, RC.fst, RC.snd, RC.inn, XX, CC, Nat.reduceAdd, Nat.reduceSub, Nat.reduceLeDiff, Nat.reduceLT, Nat.reduceEqDiff, reduceIte, ↓reduceIte, Nat.reduceBEq, g7, g17]
            refine Run.mono _ _ _ _ _ ?_ hf2
            intro r t3 hh
            obtain ⟨v3, rfl, o3⟩ := hh.yes rfl rfl
            have hx3 := hx2.trans o3.ext
            have kb3 := (blkA (ext_box hx3)).2
            have km := (blkA (t := t3 ++ [.cells true (cA (cnt G' % 340282366920938463463374607431768211456))]) (b := t3.length) (q := cnt G' % 340282366920938463463374607431768211456) (by simp)).1
            simp only [XX, CC, Nat.reduceAdd, Nat.reduceSub, Nat.reduceLeDiff, Nat.reduceLT, Nat.reduceEqDiff, reduceIte, ↓reduceIte, Nat.reduceBEq]
            refine (count_r _ v3 G' (by omega) (Snd.toWf hG') (o3.rd cR_len)).use ?_
            rw [cV hG']
            simp only [XX, CC, Nat.reduceAdd, Nat.reduceSub, Nat.reduceLeDiff, Nat.reduceLT, Nat.reduceEqDiff, reduceIte, ↓reduceIte, Nat.reduceBEq, g16, kb3, hq, Bool.not_true]
            obtain ⟨z, rfl⟩ := o3.ext
            refine hK1 _ _ v' (hx3.app _) ((ho2.app _).app _) ?_ ?_ ?_ ?_ ?_ ?_ <;> simp only [XX, CC, Nat.reduceAdd, Nat.reduceSub, Nat.reduceLeDiff, Nat.reduceLT, Nat.reduceEqDiff, reduceIte, ↓reduceIte, Nat.reduceBEq, g2, g7, g10, g16, g17, g18]
          have wB : wrA t' t0.length 0 (cA (cnt G' % 340282366920938463463374607431768211456)) = _ := wr_A hbox'
          cases al with
          | true =>
            obtain ⟨FIN, hFn⟩ : ∃ c, c = r_w12_PoolAll.body.snd.snd.snd.snd.snd.snd.snd.snd.snd.fst.snd.inn.inn.snd.fst.inn.snd.snd.snd.snd.snd.snd.snd := ⟨_, rfl⟩
            rw [← hFn] at fin
            rw [show r_w12_PoolAll.body.snd.snd.snd.snd.snd.snd.snd.snd.snd.fst.snd.inn.inn.snd.fst.inn.snd.snd.snd.snd = (let b := r_w12_PoolAll.body.snd.snd.snd.snd.snd.snd.snd.snd.snd.fst.snd.inn.inn.snd.fst.inn.snd.snd.snd.snd; .seq b.fst (.seq b.snd.fst (.seq b.snd.snd.fst FIN))) by rw [hFn]; rfl]
            simp only [r_w12_PoolAll, RC.fst, RC.snd, RC.inn, XX, CC, Nat.reduceAdd, Nat.reduceSub, Nat.reduceLeDiff, Nat.reduceLT, Nat.reduceEqDiff, reduceIte, ↓reduceIte, Nat.reduceBEq, g10, g16, g17, g21, kx, e1, kl', one_cells]
            refine (sub_r _ _ 1 hcm (by decide)).use ?_
            rw [hleft]
            simp only [XX, CC, Nat.reduceAdd, Nat.reduceSub, Nat.reduceLeDiff, Nat.reduceLT, Nat.reduceEqDiff, reduceIte, ↓reduceIte, Nat.reduceBEq, g10, g16, wB]
            refine fin _ ?_ ?_ ?_ ?_ ?_ ?_ <;> simp only [XX, CC, Nat.reduceAdd, Nat.reduceSub, Nat.reduceLeDiff, Nat.reduceLT, Nat.reduceEqDiff, reduceIte, ↓reduceIte, Nat.reduceBEq, g2, g7, g10, g16, g17, g18]
          | false =>
            obtain ⟨FIN, hFn⟩ : ∃ c, c = r_w12_PoolAll.body.snd.snd.snd.snd.snd.snd.snd.snd.snd.fst.snd.inn.inn.snd.fst.inn.snd.snd.snd.snd.snd.snd.snd := ⟨_, rfl⟩
            rw [← hFn] at fin
            rw [show r_w12_PoolAll.body.snd.snd.snd.snd.snd.snd.snd.snd.snd.fst.snd.inn.inn.snd.fst.inn.snd.snd.snd.snd = (let b := r_w12_PoolAll.body.snd.snd.snd.snd.snd.snd.snd.snd.snd.fst.snd.inn.inn.snd.fst.inn.snd.snd.snd.snd; .seq b.fst (.seq b.snd.fst (.seq b.snd.snd.fst FIN))) by rw [hFn]; rfl]
            simp only [r_w12_PoolAll, RC.fst, RC.snd, RC.inn, XX, CC, Nat.reduceAdd, Nat.reduceSub, Nat.reduceLeDiff, Nat.reduceLT, Nat.reduceEqDiff, reduceIte, ↓reduceIte, Nat.reduceBEq, g10, g16, g17, g21, kx, e1, kl', one_cells]
            refine (sub_r _ _ 1 hcm (by decide)).use ?_
            rw [hleft]
            simp only [XX, CC, Nat.reduceAdd, Nat.reduceSub, Nat.reduceLeDiff, Nat.reduceLT, Nat.reduceEqDiff, reduceIte, ↓reduceIte, Nat.reduceBEq, g10, g16, wB]
            refine fin _ ?_ ?_ ?_ ?_ ?_ ?_ <;> simp only [XX, CC, Nat.reduceAdd, Nat.reduceSub, Nat.reduceLeDiff, Nat.reduceLT, Nat.reduceEqDiff, reduceIte, ↓reduceIte, Nat.reduceBEq, g2, g7, g10, g16, g17, g18]
        have htlen : t0.length + 1 ≤ t.length := by have := (List.getElem?_eq_some_iff.1 hbox).1; omega
        rcases hor with ⟨hall, hcm'⟩ | ⟨hall, hcm'⟩
        · clear hJ
          rw [hall] at g10
          simp only [dec_t (show (i : Int) < ds.length by omega), dec_t (show (i : Int) < 200 by omega), XX, CC, Nat.reduceAdd, Nat.reduceSub, Nat.reduceLeDiff, Nat.reduceLT, Nat.reduceEqDiff, reduceIte, ↓reduceIte, Nat.reduceBEq, g2, g7, g10, g16, g17, g18]
          refine Run.mono _ _ _ _ _ ?_ hfree
          intro r t1 hh
          obtain ⟨vh, rfl, o1⟩ := hh.yes rfl rfl
          have x1 := o1.ext
          have ho1 : Own (t0.length + 1) 2 cA t1 vg g := by obtain ⟨z, rfl⟩ := x1; exact ho.app z
          have hlen1 := x1.len
          have h5 := h5' t1 x1
          have kl := blkA (ext_box (hx.trans x1))
          simp only [XX, CC, Nat.reduceAdd, Nat.reduceSub, Nat.reduceLeDiff, Nat.reduceLT, Nat.reduceEqDiff, reduceIte, ↓reduceIte, Nat.reduceBEq, g2, g18, h3, h5]
          refine (pick_r _ vh G dv hdw (by omega) wG (o1.rd cR_len)).use ?_
          rw [hpk]
          simp only [XX, CC, Nat.reduceAdd, Nat.reduceSub, Nat.reduceLeDiff, Nat.reduceLT, Nat.reduceEqDiff, reduceIte, ↓reduceIte, Nat.reduceBEq, b00, Bool.not_true, g10, g16, kl, show (true == true) = true from rfl, Bool.not_true]
          refine hlast _ _ true ((hx.trans x1).app _) (ho1.app _) (by simp; omega) ?_ ?_ ?_ ?_ ?_ ?_ ⟨t1.length, ?_, by simp⟩ _ ?_ <;> (try simp only [XX, CC, Nat.reduceAdd, Nat.reduceSub, Nat.reduceLeDiff, Nat.reduceLT, Nat.reduceEqDiff, reduceIte, ↓reduceIte, Nat.reduceBEq, g2, g7, g10, g16, g17, g18])
          intro e' t' vg' x1 x2 a2 a7 a10 a16 a17 a18
          simp only [XX, CC, Nat.reduceAdd, Nat.reduceSub, Nat.reduceLeDiff, Nat.reduceLT, Nat.reduceEqDiff, reduceIte, ↓reduceIte, Nat.reduceBEq, a18]
          refine hJ' _ _ vg' x1 x2 ?_ ?_ ?_ ?_ ⟨?_, ?_⟩ <;> (try simp only [XX, CC, Nat.reduceAdd, Nat.reduceSub, Nat.reduceLeDiff, Nat.reduceLT, Nat.reduceEqDiff, reduceIte, ↓reduceIte, Nat.reduceBEq, a2, a7, a10, a16, a17, a18])
          rw [w64_nat (by omega)]
        · clear hJ
          rw [hall] at g10
          simp only [dec_t (show (i : Int) < ds.length by omega), dec_t (show (i : Int) < 200 by omega), XX, CC, Nat.reduceAdd, Nat.reduceSub, Nat.reduceLeDiff, Nat.reduceLT, Nat.reduceEqDiff, reduceIte, ↓reduceIte, Nat.reduceBEq, g2, g7, g10, g16, g17, g18]
          refine Run.mono _ _ _ _ _ ?_ hfree
          intro r t1 hh
          obtain ⟨vh, rfl, o1⟩ := hh.yes rfl rfl
          have x1 := o1.ext
          have ho1 : Own (t0.length + 1) 2 cA t1 vg g := by obtain ⟨z, rfl⟩ := x1; exact ho.app z
          have hlen1 := x1.len
          have h5 := h5' t1 x1
          have kl := blkA (ext_box (hx.trans x1))
          simp only [XX, CC, Nat.reduceAdd, Nat.reduceSub, Nat.reduceLeDiff, Nat.reduceLT, Nat.reduceEqDiff, reduceIte, ↓reduceIte, Nat.reduceBEq, g2, g18, h3, h5]
          refine (pick_r _ vh G dv hdw (by omega) wG (o1.rd cR_len)).use ?_
          rw [hpk]
          simp only [XX, CC, Nat.reduceAdd, Nat.reduceSub, Nat.reduceLeDiff, Nat.reduceLT, Nat.reduceEqDiff, reduceIte, ↓reduceIte, Nat.reduceBEq, b00, Bool.not_true, g10, g16, kl, eq_A0, dec_f hcm', show (true == true) = true from rfl, Bool.not_true, Bool.not_false]
          refine hlast _ _ false ((hx.trans x1).app _) (ho1.app _) (by simp; omega) ?_ ?_ ?_ ?_ ?_ ?_ ⟨t1.length, ?_, by simp⟩ _ ?_ <;> (try simp only [XX, CC, Nat.reduceAdd, Nat.reduceSub, Nat.reduceLeDiff, Nat.reduceLT, Nat.reduceEqDiff, reduceIte, ↓reduceIte, Nat.reduceBEq, g2, g7, g10, g16, g17, g18])
          intro e' t' vg' x1 x2 a2 a7 a10 a16 a17 a18
          simp only [XX, CC, Nat.reduceAdd, Nat.reduceSub, Nat.reduceLeDiff, Nat.reduceLT, Nat.reduceEqDiff, reduceIte, ↓reduceIte, Nat.reduceBEq, a18]
          refine hJ' _ _ vg' x1 x2 ?_ ?_ ?_ ?_ ⟨?_, ?_⟩ <;> (try simp only [XX, CC, Nat.reduceAdd, Nat.reduceSub, Nat.reduceLeDiff, Nat.reduceLT, Nat.reduceEqDiff, reduceIte, ↓reduceIte, Nat.reduceBEq, a2, a7, a10, a16, a17, a18])
          rw [w64_nat (by omega)]
    · simp only [dec_t (show (i : Int) < ds.length by omega), dec_f (show ¬ (i : Int) < 200 by omega), XX, CC, Nat.reduceAdd, Nat.reduceSub, Nat.reduceLeDiff, Nat.reduceLT, Nat.reduceEqDiff, reduceIte, ↓reduceIte, Nat.reduceBEq, g18]
      exact hK _ _ (hs.trans hx0)
  · simp only [dec_f (show ¬ (i : Int) < ds.length by omega), XX, CC, Nat.reduceAdd, Nat.reduceSub, Nat.reduceLeDiff, Nat.reduceLT, Nat.reduceEqDiff, reduceIte, ↓reduceIte, Nat.reduceBEq]
    exact hK _ _ (hs.trans hx0)

set_option maxHeartbeats 4000000 in
theorem all_r (s : St) (v w vd : AV) (ps : List (Nat × Nat)) (tk ds : List Nat) (hl : ps.length < 4611686018427387904) (hS : Wf ps) (hv : Rd 4 cR s v ps) (hl' : tk.length < 4611686018427387904) (hO : ∀ x ∈ tk, x < 340282366920938463463374607431768211456) (hw : Rd 2 cA s w tk)
    (hdl : ds.length < 4611686018427387904) (hD : ∀ x ∈ ds, x < 18446744073709551616) (hd : Rd 1 cU s vd ds) :
    Run T f_w12_PoolAll [v, w, vd] s (fun r _ => r = .bool true) := by
  refine run_body (F := r_w12_PoolAll) rfl (by simp [r_w12_PoolAll]) ?_
  by_cases g1 : ps.length > 100
  · simp only [r_w12_PoolAll, XX, CC, Nat.reduceAdd, Nat.reduceSub, Nat.reduceLeDiff, Nat.reduceLT, Nat.reduceEqDiff, reduceIte, ↓reduceIte, Nat.reduceBEq]
    refine (awake_r _).use ?_
    simp only [XX, CC, Nat.reduceAdd, Nat.reduceSub, Nat.reduceLeDiff, Nat.reduceLT, Nat.reduceEqDiff, reduceIte, ↓reduceIte, Nat.reduceBEq, Bool.not_true, hv.len, dec_t (show (ps.length : Int) > 100 by omega)]
    exact ret_drop (k := fun r _ => r = AV.bool true) (.refl _) rfl rfl
  by_cases g2 : tk.length > 100
  · simp only [r_w12_PoolAll, XX, CC, Nat.reduceAdd, Nat.reduceSub, Nat.reduceLeDiff, Nat.reduceLT, Nat.reduceEqDiff, reduceIte, ↓reduceIte, Nat.reduceBEq]
    refine (awake_r _).use ?_
    simp only [XX, CC, Nat.reduceAdd, Nat.reduceSub, Nat.reduceLeDiff, Nat.reduceLT, Nat.reduceEqDiff, reduceIte, ↓reduceIte, Nat.reduceBEq, Bool.not_true, hv.len, hw.len, dec_f (show ¬ (ps.length : Int) > 100 by omega), dec_t (show (tk.length : Int) > 100 by omega)]
    exact ret_drop (k := fun r _ => r = AV.bool true) (.refl _) rfl rfl
  have b00 : ((0 : Int) == 0) = true := rfl
  have b10 : ((1 : Int) == 0) = false := rfl
  have b11 : ((1 : Int) == 1) = true := rfl
  have hbuild := build_r s v w ps tk (by omega) hS hv (by omega) hO hw
  have hor : (ps.all fun r => decide (r.1 ≤ r.2)) = true ∨ (ps.all fun r => decide (r.1 ≤ r.2)) = false := by cases (ps.all fun r => decide (r.1 ≤ r.2)) <;> simp
  rcases hor with hall | hall
  · rw [hall] at hbuild
    have hB := builtL_snd (set := []) (l := ps) trivial hS
    have hP1 := builtL_snd (set := []) (l := pts tk) trivial (pts_wf hO)
    have n1 := builtL_len ps []
    have n2 := builtL_len (pts tk) []
    have n4 : (pts tk).length ≤ 100 := by simp [pts]; omega
    simp only [List.length_nil, Nat.zero_add] at n1 n2
    have hF := lessL_snd hB hP1
    have nF := lessL_len hB hP1
    generalize lessL (builtL [] ps) (builtL [] (pts tk)) = F at hbuild hF nF
    have wF := Snd.toWf hF
    have hall1 := fun t vf p e Q hf hp g7 g9 g10 g11 hK => all1 t vf F p e Q hF (by omega) hf hp g7 g9 g10 g11 hK
    have hall2 := fun t0 vf e Q hf hd hs g2 g7 g10 g16 g17 g18 hR hK => all2 s t0 vf vd F ds e Q hF (by omega) hf hdl hD hd hs g2 g7 g10 g16 g17 g18 hR hK
    obtain ⟨L1, h1⟩ : ∃ c, c = allL1 := ⟨_, rfl⟩
    obtain ⟨L2, h2⟩ : ∃ c, c = allL2 := ⟨_, rfl⟩
    rw [← h1] at hall1
    rw [← h2] at hall2
    have hbody : r_w12_PoolAll.body = (let b := r_w12_PoolAll.body; .seq b.fst (.seq b.snd.fst (.seq b.snd.snd.fst (.seq b.snd.snd.snd.fst (.seq b.snd.snd.snd.snd.fst (.seq b.snd.snd.snd.snd.snd.fst (.seq (.seq b.snd.snd.snd.snd.snd.snd.fst.fst L1)
      (.seq b.snd.snd.snd.snd.snd.snd.snd.fst (.seq b.snd.snd.snd.snd.snd.snd.snd.snd.fst (.seq (.seq b.snd.snd.snd.snd.snd.snd.snd.snd.snd.fst.fst L2) b.snd.snd.snd.snd.snd.snd.snd.snd.snd.snd)))))))))) := by rw [h1, h2]; rfl
    rw [hbody]
    clear hbody h1 h2
    simp only [r_w12_PoolAll, RC.fst, RC.snd, XX, CC, Nat.reduceAdd, Nat.reduceSub, Nat.reduceLeDiff, Nat.reduceLT, Nat.reduceEqDiff, reduceIte, ↓reduceIte, Nat.reduceBEq]
    refine (awake_r _).use ?_
    simp only [XX, CC, Nat.reduceAdd, Nat.reduceSub, Nat.reduceLeDiff, Nat.reduceLT, Nat.reduceEqDiff, reduceIte, ↓reduceIte, Nat.reduceBEq, Bool.not_true, hv.len, hw.len, dec_f (show ¬ (ps.length : Int) > 100 by omega), dec_f (show ¬ (tk.length : Int) > 100 by omega)]
    refine Run.mono _ _ _ _ _ ?_ hbuild
    intro r t1 hh1
    obtain ⟨vf, rfl, o1⟩ := hh1.yes rfl rfl
    have rF := o1.rd cR_len
    have x1 := o1.ext
    simp only [XX, CC, Nat.reduceAdd, Nat.reduceSub, Nat.reduceLeDiff, Nat.reduceLT, Nat.reduceEqDiff, reduceIte, ↓reduceIte, Nat.reduceBEq, b00, Bool.not_true]
    refine (count_r _ vf F (by omega) wF rF).use ?_
    rw [cV hF]
    simp only [XX, CC, Nat.reduceAdd, Nat.reduceSub, Nat.reduceLeDiff, Nat.reduceLT, Nat.reduceEqDiff, reduceIte, ↓reduceIte, Nat.reduceBEq]
    refine hall1 _ vf t1.length _ _ (rF.ext ⟨_, rfl⟩) (by simp) ?_ ?_ ?_ ?_ ?_ <;> (try simp only [XX, CC, Nat.reduceAdd, Nat.reduceSub, Nat.reduceLeDiff, Nat.reduceLT, Nat.reduceEqDiff, reduceIte, ↓reduceIte, Nat.reduceBEq]) <;> (try rfl)
    intro e' t' x2 k2 k7 k9 k10
    have kb := blkA (x2.get_some (i := t1.length) (b := .cells true (cA (cnt F % 340282366920938463463374607431768211456))) (by simp))
    simp only [XX, CC, Nat.reduceAdd, Nat.reduceSub, Nat.reduceLeDiff, Nat.reduceLT, Nat.reduceEqDiff, reduceIte, ↓reduceIte, Nat.reduceBEq, k9, kb]
    refine hall2 t' vf _ _ (rF.ext (((Ext.refl _).app _).trans x2)) (hd.ext ((x1.app _).trans x2)) ((x1.app _).trans x2) ?_ ?_ ?_ ?_ ?_ ?_ ?_ ?_ <;> (try simp only [XX, CC, Nat.reduceAdd, Nat.reduceSub, Nat.reduceLeDiff, Nat.reduceLT, Nat.reduceEqDiff, reduceIte, ↓reduceIte, Nat.reduceBEq, k2, k7, k9, k10])
    · intro e' t' x g6
      (try simp only [XX, CC, Nat.reduceAdd, Nat.reduceSub, Nat.reduceLeDiff, Nat.reduceLT, Nat.reduceEqDiff, reduceIte, ↓reduceIte, Nat.reduceBEq])
      rw [g6]
      exact ret_drop (k := fun r _ => r = AV.bool true) x rfl rfl
    · intro e' t' x
      (try simp only [XX, CC, Nat.reduceAdd, Nat.reduceSub, Nat.reduceLeDiff, Nat.reduceLT, Nat.reduceEqDiff, reduceIte, ↓reduceIte, Nat.reduceBEq])
      exact ret_drop (k := fun r _ => r = AV.bool true) x rfl rfl
  · rw [hall] at hbuild
    simp only [r_w12_PoolAll, RC.fst, RC.snd, XX, CC, Nat.reduceAdd, Nat.reduceSub, Nat.reduceLeDiff, Nat.reduceLT, Nat.reduceEqDiff, reduceIte, ↓reduceIte, Nat.reduceBEq]
    refine (awake_r _).use ?_
    simp only [XX, CC, Nat.reduceAdd, Nat.reduceSub, Nat.reduceLeDiff, Nat.reduceLT, Nat.reduceEqDiff, reduceIte, ↓reduceIte, Nat.reduceBEq, Bool.not_true, hv.len, hw.len, dec_f (show ¬ (ps.length : Int) > 100 by omega), dec_f (show ¬ (tk.length : Int) > 100 by omega)]
    refine Run.mono _ _ _ _ _ ?_ hbuild
    intro r t1 hh1
    obtain ⟨va, rfl, o1⟩ := hh1.nope
    simp only [XX, CC, Nat.reduceAdd, Nat.reduceSub, Nat.reduceLeDiff, Nat.reduceLT, Nat.reduceEqDiff, reduceIte, ↓reduceIte, Nat.reduceBEq, b10, b11, Bool.not_false]
    exact ret_drop (k := fun r _ => r = AV.bool true) o1.ext rfl rfl
end Go.Ev
