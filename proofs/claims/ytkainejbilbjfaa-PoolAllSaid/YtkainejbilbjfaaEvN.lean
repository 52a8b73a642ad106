import Derived.Test.YtkainejbilbjfaaEvM
/-! Regions that draw their order: soundness, the end. -/
namespace Go.Ev
set_option linter.unusedVariables false
set_option linter.unusedSimpArgs false
variable {P : Program} {E : Ex}

section
variable {X : Oracle} {ops : Array Oper} {N : Nat} {rs : List ROp} {B : List Nat} {n0 : Nat} {bs : List Blk} {EV : Nat → Env} {SV : Nat → St} {BV : Nat → Option Nat}
variable {m0 : Inj} {s0 : St} {w0 : World} {lst : Nat → Bool} {c : Nat} {m : Inj} {a : Act} {w : World}

theorem isAt_of {rs : List ROp} {p : RO → Bool} {i : Nat} {r : ROp} (h : rs[i]? = some r) : isAt rs p i = p r.op := by unfold isAt; rw [h]

theorem Sim.slots {m : Inj} {s : St} {w : World} (h : Sim m s w) (bs : List Blk) : Sim m (s ++ bs) w ∧ Goes m s w m (s ++ bs) w := by
  have get : ∀ {i l}, m i = some l → (s ++ bs)[i]? = s[i]? := fun hi => List.getElem?_append_left (h.lt hi).1
  have hro : ∀ {i l}, m i = some l → (ro (s ++ bs) i ↔ ro s i) := fun hi => by unfold ro; rw [get hi]
  refine ⟨⟨?_, ?_⟩, ⟨Inj.le_refl m, fun _ _ e => .inl e, by simp, rfl, rfl, rfl, Nat.le_refl _, ?_⟩⟩
  · intro i l hi
    obtain ⟨b, o, h1, h2, h3⟩ := h.at_ i l hi
    exact ⟨b, o, by rw [get hi]; exact h1, h2, h3⟩
  · intro i j l l' hi hj hc hn
    rw [hro hi] at hn
    rw [get hj]
    exact h.inj i j l l' hi hj hc hn
  · intro c hc hH
    exact ⟨rfl, fun i l hi hlc => (hro hi).2 (hH i l hi hlc)⟩

/-- Where the store stands at an effect that may come up. -/
theorem DInv.atEff (C : Ctx P E X ops N rs B n0 bs EV SV BV) (I : DInv ops N rs n0 bs EV SV m0 s0 w0 lst c m a w) {i : Nat} {o : Oper} {r : ROp} (R : Rdy ops lst i o) (hr : rs[i]? = some r) (he : isEff r.op = true) : SV c = SV i ∧ c ≤ i := by
  have hil : i < rs.length := (List.getElem?_eq_some_iff.1 hr).1
  have hci : c ≤ i := by
    rcases I.cur0 with rfl | ⟨t, rfl, ht, hte⟩
    · omega
    · rcases Nat.lt_trichotomy t i with h | h | h
      · omega
      · subst h; rw [R.un] at ht; simp at ht
      · exfalso
        have htl : t < rs.length := by
          unfold isAt at hte; split at hte
          · rename_i hh; exact (List.getElem?_eq_some_iff.1 hh).1
          · simp at hte
        have hrt := List.getElem?_eq_getElem htl
        obtain ⟨o', ho'⟩ := C.oper hrt
        have hna := I.notAhead C R ho' ht
        rw [isAt_of hrt] at hte
        rcases okT_spec C.okT h hr hrt with h' | ⟨_, h' | h'⟩
        · rw [hna] at h'; simp at h'
        · rw [he] at h'; simp at h'
        · rw [hte] at h'; simp at h'
  refine ⟨?_, hci⟩
  have := C.sv_same (i - c) c (by omega) (fun l h1 h2 => by
    cases hh : isAt rs isEff l with
    | false => rfl
    | true =>
      exfalso
      have hll : l < rs.length := by omega
      have hrl := List.getElem?_eq_getElem hll
      rw [isAt_of hrl] at hh
      have hd : lst l = true := by
        rcases okT_spec C.okT (show l < i by omega) hrl hr with h' | ⟨_, h' | h'⟩
        · exact I.aheadDone C R (C.lt hrl) h'
        · rw [hh] at h'; simp at h'
        · rw [he] at h'; simp at h'
      have := I.cur1 l hd (by rw [isAt_of hrl]; exact hh)
      omega)
  rw [show c + (i - c) = i by omega] at this
  exact this.symm

/-- What a load that may come up sees. -/
theorem DInv.atLd (C : Ctx P E X ops N rs B n0 bs EV SV BV) (I : DInv ops N rs n0 bs EV SV m0 s0 w0 lst c m a w) {i : Nat} {o : Oper} {r : ROp} (R : Rdy ops lst i o) (hr : rs[i]? = some r) (hl : isLd r.op = true) (hc : c ≤ rs.length) {b : Nat} (hb : BV i = some b)
    (hcl : ∀ t ∈ (mkD rs B i r).cl, t < i → (SV t)[b]? = (SV (t + 1))[b]?) : (SV c)[b]? = (SV i)[b]? := by
  have hil : i < rs.length := (List.getElem?_eq_some_iff.1 hr).1
  rcases Nat.lt_or_ge i c with hic | hic
  · -- effects behind it in the text are done already
    have := C.sv_const (b := b) (c - i) i (by omega) (fun l h1 h2 h3 => by
      have hll : l < rs.length := by omega
      have hrl := List.getElem?_eq_getElem hll
      have hel : isEff (rs[l]).op = true := by rw [isAt_of hrl] at h3; exact h3
      have hli : l ≠ i := by
        intro e; subst e
        rw [hr] at hrl; cases hrl
        unfold isEff at hel; simp_all
      -- the effect l is done, or it is at c's own end
      rcases C.tr l _ hrl with ⟨t, want, bb, g1, g2, g3, g4, g5, g6⟩ | ⟨_, hrun⟩
      · rw [g5]
      · unfold RunStep at hrun
        have hkd : (mkD rs B l rs[l]).kind = .eff := by
          rw [mkD_kind]
          unfold isEff at hel
          simp only [Bool.and_eq_true, Bool.not_eq_true'] at hel
          simp [hel.1.1, hel.1.2, hel.2]
        rw [hkd] at hrun
        obtain ⟨v, _, _, _, h4⟩ := hrun
        refine h4 i ?_ (by omega) b hb
        have hdl : lst l = true := by
          rcases I.cur0 with rfl | ⟨t, rfl, ht, hte⟩
          · omega
          · rcases Nat.lt_trichotomy l t with h | h | h
            · have htl : t < rs.length := by omega
              have hrt := List.getElem?_eq_getElem htl
              rw [isAt_of hrt] at hte
              obtain ⟨ot, hot⟩ := C.oper hrt
              rcases okT_spec C.okT h hrl hrt with h' | ⟨_, h' | h'⟩
              · exact closed_ahead C.okB I.closed t ot hot (I.closed t ot hot ht) l (C.lt hrl) h'
              · rw [hel] at h'; simp at h'
              · rw [hte] at h'; simp at h'
            · subst h; exact ht
            · omega
        obtain ⟨ol, hol⟩ := C.oper hrl
        have hna := I.notAhead C R hol hdl
        have hnl : isLd (rs[l]).op = false := by unfold isEff at hel; simp only [Bool.and_eq_true, Bool.not_eq_true'] at hel; exact hel.2
        simp only [mkD, List.mem_filter, List.mem_range, hna, hnl, Bool.not_false, Bool.true_and, Bool.false_eq_true, if_false]
        exact ⟨by omega, by rw [isAt_of hr]; exact hl⟩)
    rw [show i + (c - i) = c by omega] at this
    exact this
  · have := C.sv_const (b := b) (i - c) c (by omega) (fun l h1 h2 h3 => by
      have hll : l < rs.length := by omega
      have hrl := List.getElem?_eq_getElem hll
      refine (hcl l ?_ (by omega)).symm
      have hdl : lst l = false := by
        cases hh : lst l with
        | false => rfl
        | true => have := I.cur1 l hh h3; omega
      have hna : ahead B i l = false := by
        cases hh : ahead B i l with
        | false => rfl
        | true => have := I.aheadDone C R (C.lt hrl) hh; rw [hdl] at this; simp at this
      simp only [mkD, List.mem_filter, List.mem_range, hna, hl, Bool.not_false, Bool.true_and, if_true]
      exact ⟨by omega, h3⟩)
    rw [show c + (i - c) = i by omega] at this
    exact this.symm

theorem DInv.cur_le (C : Ctx P E X ops N rs B n0 bs EV SV BV) (I : DInv ops N rs n0 bs EV SV m0 s0 w0 lst c m a w) : c ≤ rs.length := by
  rcases I.cur0 with rfl | ⟨t, rfl, ht, hte⟩
  · omega
  · unfold isAt at hte; split at hte
    · rename_i hh; exact (List.getElem?_eq_some_iff.1 hh).1
    · simp at hte

theorem slot_lt {rs : List ROp} {i : Nat} (h : isAt rs isNew i = true) : slotOf rs i < (rs.filter fun r => isNew r.op).length := by
  have h1 := slotOf_lt (rs := rs) (i := i) (j := rs.length) (by unfold isAt at h; split at h; (rename_i hh; exact (List.getElem?_eq_some_iff.1 hh).1); simp at h) h
  have h2 : slotOf rs rs.length = (rs.filter fun r => isNew r.op).length := by unfold slotOf; rw [List.take_length]
  omega

theorem lstPut_true {i t : Nat} (h : lst t = true) : lstPut lst i t = true := by unfold lstPut; split <;> simp_all

/-- A ready operation is run. -/
theorem DInv.run (C : Ctx P E X ops N rs B n0 bs EV SV BV) (I : DInv ops N rs n0 bs EV SV m0 s0 w0 lst c m a w) {i : Nat} {o : Oper} (R : Rdy ops lst i o) (hn0 : s0.length ≤ n0) {K : Act → World → Prop} {Q : Exit → Act → World → Prop}
    (hK : ∀ c' m' a' w', DInv ops N rs n0 bs EV SV m0 s0 w0 (lstPut lst i) c' m' a' w' → K a' w') : wpOp P ops Q i K a w := by
  obtain ⟨r, hr, hcr⟩ := C.comp i o R.op
  obtain ⟨h1, h2, h3, h4⟩ := compR1_spec hcr
  have hd : dstOk N r.dst = true := by rw [h1]; exact h2
  have hcur0 : c = 0 ∨ ∃ t, c = t + 1 ∧ lstPut lst i t = true ∧ isAt rs isEff t = true := by
    rcases I.cur0 with h | ⟨t, e, ht, hte⟩
    · exact .inl h
    · exact .inr ⟨t, e, lstPut_true ht, hte⟩
  have hcur1 : isEff r.op = false → ∀ t, lstPut lst i t = true → isAt rs isEff t = true → t < c := by
    intro hne t ht hte
    by_cases hti : t = i
    · subst hti; rw [isAt_of hr, hne] at hte; simp at hte
    · rw [lstPut_ne lst hti] at ht; exact I.cur1 t ht hte
  have hE := I.envOnly C R hr
  -- the steps that change nothing but a temporary
  have plain : ∀ (v : AV) (u : Value), isEff r.op = false → EV (i + 1) = putO (EV i) r.dst v → VR m v u → isNew r.op = false → K (a.put o.dst u) w := by
    intro v u hne hev hv hnn
    rw [← h1]
    refine hK c m _ w (I.step C R hr hev (Inj.le_refl m) hv hd hcur0 (hcur1 hne) I.sim I.goes fun j hj hlj => ?_)
    obtain ⟨_, hlj⟩ := lstPut_false hlj
    exact I.unl j hj hlj
  have skip : ∀ (u : Value), u = .tuple #[] → EV (i + 1) = putO (EV i) r.dst (.tup []) → SV (i + 1) = SV i → K (a.put o.dst u) w := by
    intro u hu hev hsv
    have hu0 : VR m (.tup []) u := ⟨#[], hu, rfl⟩
    rw [← h1]
    by_cases hne : isEff r.op = true
    · obtain ⟨e1, e2⟩ := I.atEff C R hr hne
      refine hK (i + 1) m _ w (I.step C R hr hev (Inj.le_refl m) (u := u) hu0 hd (.inr ⟨i, rfl, lstPut_self lst i, by rw [isAt_of hr]; exact hne⟩) ?_ (by rw [hsv, ← e1]; exact I.sim) (by rw [hsv, ← e1]; exact I.goes) ?_)
      · intro t ht hte
        by_cases hti : t = i
        · omega
        · rw [lstPut_ne lst hti] at ht; have := I.cur1 t ht hte; omega
      · intro j hj hlj
        obtain ⟨_, hlj⟩ := lstPut_false hlj
        have := I.unl j hj hlj
        rw [hsv, ← e1]; exact this
    · have hne : isEff r.op = false := by simpa using hne
      refine hK c m _ w (I.step C R hr hev (Inj.le_refl m) (u := u) hu0 hd hcur0 (hcur1 hne) I.sim I.goes fun j hj hlj => ?_)
      obtain ⟨_, hlj⟩ := lstPut_false hlj
      exact I.unl j hj hlj
  have fresh : ∀ {m' : Inj}, (∀ j l, m' j = some l → m j = some l ∨ (SV c).length ≤ j) → ∀ j, isAt rs isNew j = true → lst j = false → m' (n0 + slotOf rs j) = none := by
    intro m' hnew j hj hlj
    obtain ⟨u1, u2⟩ := I.unl j hj hlj
    cases hm : m' (n0 + slotOf rs j) with
    | none => rfl
    | some l =>
      exfalso
      rcases hnew _ _ hm with h | h
      · rw [u1] at h; simp at h
      · have hsl := slot_lt hj
        rw [← C.slots] at hsl
        rw [List.getElem?_eq_none h, List.getElem?_eq_getElem hsl] at u2
        simp at u2
  unfold wpOp
  simp only [R.op]
  rcases C.tr i r hr with ⟨t, want, b, g1, g2, g3, g4, g5, g6⟩ | ⟨hg, hrun⟩
  · -- not wanted
    have g1' : r.g = some (t, want) := g1
    have ht := I.operand C R hr (names_guard g1')
    rw [g1'] at h3
    rw [guard_run h3 ht g2, if_neg (by simp [g3])]
    exact skip undef rfl g4 g5
  · have hw : Region.wanted o (yielded ops a.tmps) = true := by
      rcases hg with hg | ⟨t, want, hg, hb⟩
      · have hg' : r.g = none := hg
        rw [hg'] at h3
        exact guard_none_run h3 _
      · have hg' : r.g = some (t, want) := hg
        have ht := I.operand C R hr (names_guard hg')
        rw [hg'] at h3
        exact guard_run h3 ht hb
    rw [if_pos hw]
    left
    unfold RunStep at hrun
    have hmk : (mkD rs B i r).o = r := rfl
    rw [hmk, mkD_kind] at hrun
    by_cases hp : r.op.isPure = true
    · rw [if_pos hp] at hrun
      obtain ⟨v, hv, hev, hsv⟩ := hrun
      rcases h4 with h4 | h4
      · have hv' : pureA r.op ((EV i).only r.names) = some v := by
          rw [← hv]; exact pureA_congr fun t ht => only_same (names_temps ht)
        obtain ⟨u, hu, hru⟩ := pure_sound hp C.hE h4 hE hv'
        refine wp_value (hru w) (plain v u ?_ hev hu ?_)
        · unfold isEff; simp [hp]
        · revert hp; cases r.op <;> simp [RO.isPure, isNew]
      · rw [h4] at hp; simp [RO.isPure] at hp
    · rw [if_neg hp] at hrun
      by_cases hn : isNew r.op = true
      · rw [if_pos hn] at hrun
        obtain ⟨⟨v, blk⟩, hv, hbs, hev, hsv⟩ := hrun
        rcases h4 with h4 | h4
        · have hv' : newA r.op ((EV i).only r.names) (n0 + slotOf rs i) = some (v, blk) := by
            rw [← hv]; exact newA_congr fun t ht => only_same (names_temps ht)
          obtain ⟨cs, vs, t, u, hblk, hvr, hru, hres⟩ := new_run hn h4 hE hv'
          have hat : isAt rs isNew i = true := by rw [isAt_of hr]; exact hn
          obtain ⟨un1, un2⟩ := I.unl i hat R.un
          obtain ⟨s1, s2, s3⟩ := I.sim.allocAt (t := t) un1 (cs := cs) (by rw [un2]; simp only at hbs; rw [hbs, hblk]) hvr
          refine wp_value (hru w) ?_
          rw [← h1]
          have hne : isEff r.op = false := by unfold isEff; simp [hn]
          refine hK c _ _ _ (I.step C R hr hev s2 (hres _ _ (put_self _ _ _)) hd hcur0 (hcur1 hne) s1 ⟨Inj.le_trans I.goes.le s2, ?_, I.goes.len, I.goes.os, I.goes.tape, I.goes.output, Nat.le_trans I.goes.size (by show _ ≤ (w.heap.push _).size; simp), ?_⟩ ?_)
          · intro j l hj
            unfold Inj.put at hj
            split at hj
            · right; omega
            · exact I.goes.new j l hj
          · intro cc hcc hH
            obtain ⟨k1, k2⟩ := I.goes.keep cc hcc hH
            refine ⟨(s3 cc (Nat.lt_of_lt_of_le hcc I.goes.size)).trans k1, fun j l hj hlc => ?_⟩
            unfold Inj.put at hj
            split at hj
            · simp at hj; subst hj; simp at hlc; have := I.goes.size; omega
            · exact k2 j l hj hlc
          · intro j hj hlj
            obtain ⟨hji, hlj⟩ := lstPut_false hlj
            obtain ⟨u1, u2⟩ := I.unl j hj hlj
            refine ⟨?_, u2⟩
            unfold Inj.put
            rw [if_neg]
            · exact u1
            · intro e
              exact hji (slotOf_inj hj hat (by omega))
        · rw [h4] at hn; simp [isNew] at hn
      · rw [if_neg hn] at hrun
        rcases h4 with h4 | h4
        · by_cases hl : isLd r.op = true
          · rw [if_pos hl] at hrun
            obtain ⟨n, x, b, oo, v, hop, hx, hv, hev, hsv, hb, hcl⟩ := hrun
            have hsame := I.atLd C R hr hl (I.cur_le C) hb hcl
            have hop' : r.op = .ld n x := hop
            have hne : isEff r.op = false := by unfold isEff; simp [hl]
            have hld : opA X r.op ((EV i).only r.names) (SV c) (fun v' s' => v' = v ∧ s' = SV c) := by
              rw [opA_congr (e' := EV i) fun t ht => only_same (names_temps ht), hop']
              refine ⟨v, ?_, rfl, rfl⟩
              rw [hx]
              rw [← hv]
              simp only [ldA, rdB, hsame]
            refine op_sound C.hX C.hE h4 hE I.sim hld fun v' s' m' u w' hk hS hG hv' => ?_
            obtain ⟨rfl, rfl⟩ := hk
            rw [← h1]
            refine hK c m' _ w' (I.step C R hr hev hG.le hv' hd hcur0 (hcur1 hne) hS (I.goes.trans hG) fun j hj hlj => ?_)
            obtain ⟨_, hlj⟩ := lstPut_false hlj
            exact ⟨fresh hG.new j hj hlj, (I.unl j hj hlj).2⟩
          · rw [if_neg hl] at hrun
            obtain ⟨v, hop, hev, hfr, _⟩ := hrun
            have hne : isEff r.op = true := by unfold isEff; simp [hp, hn, hl]
            obtain ⟨e1, e2⟩ := I.atEff C R hr hne
            have hop' : opA X r.op ((EV i).only r.names) (SV c) (fun v' s'' => v' = v ∧ s'' = SV (i + 1)) := by
              rw [opA_congr (e' := EV i) fun t ht => only_same (names_temps ht), e1]
              exact hop
            refine op_sound C.hX C.hE h4 hE I.sim hop' fun v' s' m' u w' hk hS hG hv' => ?_
            obtain ⟨rfl, rfl⟩ := hk
            rw [← h1]
            refine hK (i + 1) m' _ w' (I.step C R hr hev hG.le hv' hd (.inr ⟨i, rfl, lstPut_self lst i, by rw [isAt_of hr]; exact hne⟩) ?_ hS (I.goes.trans hG) fun j hj hlj => ?_)
            · intro t ht hte
              by_cases hti : t = i
              · omega
              · rw [lstPut_ne lst hti] at ht; have := I.cur1 t ht hte; omega
            · obtain ⟨_, hlj⟩ := lstPut_false hlj
              refine ⟨fresh hG.new j hj hlj, ?_⟩
              have hjl : j < rs.length := by
                unfold isAt at hj; split at hj
                · rename_i hh; exact (List.getElem?_eq_some_iff.1 hh).1
                · simp at hj
              rw [hfr (slotOf rs j) ?_, ← e1]
              · exact (I.unl j hj hlj).2
              · simp only [mkD, hne, if_true, List.mem_map, List.mem_filter, List.mem_range]
                refine ⟨j, ⟨hjl, ?_⟩, rfl⟩
                rw [hj]
                cases hh : ahead B i j with
                | false => rfl
                | true => have := I.aheadDone C R (by rw [← C.len]; exact hjl) hh; rw [hlj] at this; simp at this
        · exfalso
          rw [h4] at hrun
          simp only [isLd, Bool.false_eq_true, if_false] at hrun
          obtain ⟨v, hop, _⟩ := hrun
          simp [opA, pureA] at hop

theorem ready_spec {md : Region.Mode} {listed : Array Bool} {i : Nat} (h : i ∈ Region.ready md ops listed) : i < ops.size ∧ listed.getD i true = false ∧ ∃ o, ops[i]? = some o ∧ o.after.all (fun e => !Region.binds md e || listed.getD e.on false) = true := by
  unfold Region.ready at h
  rw [List.mem_filter] at h
  obtain ⟨h1, h2⟩ := h
  simp only [List.mem_range] at h1
  simp only [Bool.and_eq_true, Bool.not_eq_true'] at h2
  refine ⟨h1, h2.1, ?_⟩
  have ho : ops[i]? = some ops[i] := by simp [h1]
  rw [ho] at h2
  exact ⟨_, ho, by simpa using h2.2⟩

theorem all_done (hB : okB ops.toList B = true) {listed : Array Bool} (hsz : listed.size = ops.size) (hr : Region.ready .any ops listed = []) : ∀ i, i < ops.size → listed.getD i false = true := by
  intro i
  induction i using Nat.strongRecOn with
  | _ i ih =>
    intro hi
    cases hh : listed.getD i false with
    | true => rfl
    | false =>
      exfalso
      have ho : ops[i]? = some ops[i] := by simp [hi]
      have hmem : i ∈ Region.ready .any ops listed := by
        unfold Region.ready
        rw [List.mem_filter]
        refine ⟨by simp [hi], ?_⟩
        have h1 : listed.getD i true = false := by
          have hil : i < listed.size := by omega
          simp only [Array.getD_eq_getD_getElem?, Array.getElem?_eq_getElem hil, Option.getD_some] at hh ⊢
          exact hh
        rw [h1, ho]
        simp only [Bool.not_false, Bool.true_and, Option.map_some, Option.getD_some]
        rw [Array.all_eq_true_iff_forall_mem]
        intro e he
        by_cases hb : Region.binds .any e = true
        · have hn : e.on ∈ needsOf ops[i] := by
            unfold needsOf
            rw [List.mem_map]
            exact ⟨e, by rw [List.mem_filter]; exact ⟨by simpa using he, hb⟩, rfl⟩
          have hlt := (okB_spec hB ho).1 _ hn
          rw [ih e.on hlt (by omega)]; simp
        · simp [hb]
      rw [hr] at hmem
      simp at hmem

theorem wpAny_run (C : Ctx P E X ops N rs B n0 bs EV SV BV) (hn0 : s0.length ≤ n0) {Q : Exit → Act → World → Prop} (hQ : ∀ a w, Rel m0 s0 w0 N (EV rs.length) (SV rs.length) a w → Q .normal a w) :
    ∀ (fuel : Nat) (listed : Array Bool) (c : Nat) (m : Inj) (a : Act) (w : World), listed.size = ops.size → ((List.range ops.size).filter fun i => !listed.getD i false).length ≤ fuel → DInv ops N rs n0 bs EV SV m0 s0 w0 (fun i => listed.getD i false) c m a w → wpAny P .any ops Q fuel listed a w := by
  have fin : ∀ (listed : Array Bool) (c : Nat) (m : Inj) (a : Act) (w : World), listed.size = ops.size → DInv ops N rs n0 bs EV SV m0 s0 w0 (fun i => listed.getD i false) c m a w → Region.ready .any ops listed = [] → Q .normal a w := by
    intro listed c m a w hsz I hr
    have hall := all_done C.okB hsz hr
    apply hQ
    have hc : SV c = SV rs.length := by
      have hle := I.cur_le C
      have := C.sv_same (rs.length - c) c (by omega) (fun l h1 h2 => by
        cases hh : isAt rs isEff l with
        | false => rfl
        | true => have := I.cur1 l (hall l (by rw [← C.len]; omega)) hh; omega)
      rw [show c + (rs.length - c) = rs.length by omega] at this
      exact this.symm
    refine ⟨m, by rw [← hc]; exact I.sim, fun t => ?_, by rw [← hc]; exact I.goes, I.size, I.defers⟩
    by_cases hex : ∃ j, j < rs.length ∧ ∃ r', rs[j]? = some r' ∧ r'.dst = some t
    · obtain ⟨j, hj, ⟨r', hr', hd⟩, hmax⟩ := exists_last _ hex
      have hcn : (EV rs.length).get t = (EV (j + 1)).get t := by
        have := C.ev_const (t := t) (rs.length - (j + 1)) (j + 1) (by omega) (fun l r'' h1 h2 h3 hd' => hmax l (by omega) (by omega) ⟨r'', h3, hd'⟩)
        rwa [show j + 1 + (rs.length - (j + 1)) = rs.length by omega] at this
      rw [hcn]
      exact I.tmB j r' t hr' (hall j (by rw [← C.len]; exact hj)) hd fun l r'' h1 h2 h3 h4 => hmax l h1 (List.getElem?_eq_some_iff.1 h2).1 ⟨r'', h2, h4⟩
    · have hno : ∀ (l : Nat) (r' : ROp), rs[l]? = some r' → r'.dst ≠ some t := fun l r' h1 h3 => hex ⟨l, (List.getElem?_eq_some_iff.1 h1).1, r', h1, h3⟩
      have hcn : (EV rs.length).get t = (EV 0).get t := by
        have := C.ev_const (t := t) rs.length 0 (by omega) (fun l r'' h1 h2 h3 => hno l r'' h3)
        rwa [Nat.zero_add] at this
      rw [hcn]
      exact I.tmA t fun j r' h1 _ => hno j r' h1
  intro fuel
  induction fuel with
  | zero =>
    intro listed c m a w hsz hcnt I
    have hnone : ∀ i, i < ops.size → listed.getD i false = true := by
      intro i hi
      cases hh : listed.getD i false with
      | true => rfl
      | false =>
        exfalso
        have : i ∈ (List.range ops.size).filter fun i => !listed.getD i false := by rw [List.mem_filter]; exact ⟨by simp [hi], by simp [hh]⟩
        have := List.length_pos_of_mem this
        omega
    have hr : Region.ready .any ops listed = [] := by
      cases hrd : Region.ready .any ops listed with
      | nil => rfl
      | cons x xs =>
        exfalso
        obtain ⟨h1, h2, _⟩ := ready_spec (ops := ops) (md := .any) (listed := listed) (i := x) (by rw [hrd]; simp)
        have := hnone x h1
        have hxl : x < listed.size := by omega
        simp only [Array.getD_eq_getD_getElem?, Array.getElem?_eq_getElem hxl, Option.getD_some] at this h2
        rw [this] at h2; simp at h2
    exact ⟨hr, fin listed c m a w hsz I hr⟩
  | succ fuel ih =>
    intro listed c m a w hsz hcnt I
    refine ⟨fun hr => fin listed c m a w hsz I hr, fun i hi => ?_⟩
    obtain ⟨h1, h2, o, ho, hall⟩ := ready_spec hi
    have hil : i < listed.size := by omega
    have hun : listed.getD i false = false := by
      simp only [Array.getD_eq_getD_getElem?, Array.getElem?_eq_getElem hil, Option.getD_some] at h2 ⊢
      exact h2
    have R : Rdy ops (fun i => listed.getD i false) i o := ⟨ho, hun, fun n hn => by
      unfold needsOf at hn
      rw [List.mem_map] at hn
      obtain ⟨e, he, rfl⟩ := hn
      rw [List.mem_filter] at he
      rw [Array.all_eq_true_iff_forall_mem] at hall
      have := hall e (by simpa using he.1)
      rw [he.2] at this
      simpa using this⟩
    refine I.run C R hn0 fun c' m' a' w' I' => ?_
    have hlst : (fun j => (listed.setIfInBounds i true).getD j false) = lstPut (fun i => listed.getD i false) i := by
      funext j
      unfold lstPut
      by_cases hji : j = i
      · subst hji; simp [Array.getD_eq_getD_getElem?, hil]
      · rw [if_neg hji]
        simp only [Array.getD_eq_getD_getElem?]
        rw [Array.getElem?_setIfInBounds_ne (Ne.symm hji)]
    refine ih _ c' m' a' w' (by simpa using hsz) ?_ (by rw [hlst]; exact I')
    have hfun : (fun j => !(listed.setIfInBounds i true).getD j false) = fun j => !(lstPut (fun i => listed.getD i false) i j) := by
      funext j; have := congrFun hlst j; rw [show (listed.setIfInBounds i true).getD j false = _ from this]
    rw [hfun]
    have hcount : ∀ n : Nat, i < n → ((List.range n).filter fun j => !(lstPut (fun i => listed.getD i false) i j)).length + 1 ≤ ((List.range n).filter fun j => !listed.getD j false).length := by
      intro n
      induction n with
      | zero => intro h; omega
      | succ n ihn =>
        intro hlt
        simp only [List.range_succ, List.filter_append, List.length_append]
        by_cases hni : n = i
        · subst hni
          have hsame : ((List.range n).filter fun j => !(lstPut (fun i => listed.getD i false) n j)) = ((List.range n).filter fun j => !listed.getD j false) := by
            apply List.filter_congr
            intro x hx
            rw [lstPut_ne _ (by have := List.mem_range.1 hx; omega)]
          rw [hsame, List.filter_cons_of_neg (by rw [lstPut_self]; simp), List.filter_cons_of_pos (by rw [hun]; rfl)]
          simp
        · have := ihn (by omega)
          have e2 : ((List.filter (fun j => !(lstPut (fun i => listed.getD i false) i j)) [n])) = (List.filter (fun j => !listed.getD j false) [n]) := by
            apply List.filter_congr
            intro x hx
            have : x = n := by simpa using hx
            rw [lstPut_ne _ (by omega)]
          rw [e2]
          omega
    have := hcount ops.size h1
    omega
end

end Go.Ev
