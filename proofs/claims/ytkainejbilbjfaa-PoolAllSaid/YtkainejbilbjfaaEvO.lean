import Derived.Test.YtkainejbilbjfaaEvN
/-! Code: the compiler, soundness. -/
namespace Go.Ev
set_option linter.unusedVariables false
set_option linter.unusedSimpArgs false
variable {P : Program} {E : Ex}

def mkDs (rs : List ROp) (B : List Nat) : List DOp := rs.zipIdx.map fun x => mkD rs B x.2 x.1

def compC (P : Program) (E : Ex) (N : Nat) : Code → Option RC
  | .skip => some .skip
  | .region _ ops draw => match compRs P E N ops ops.toList with
    | some rs => if draw then
        (if okB ops.toList (befs ops.toList) && okT rs (befs ops.toList) then some (.drw (rs.filter fun r => isNew r.op).length (mkDs rs (befs ops.toList))) else none)
      else some (.reg rs)
    | none => none
  | .seq a b => match compC P E N a, compC P E N b with
    | some a, some b => some (.seq a b)
    | _, _ => none
  | .cond c a b => match compX c, compC P E N a, compC P E N b with
    | some c, some a, some b => some (.cond c a b)
    | _, _, _ => none
  | .block id c => (compC P E N c).map (.block id)
  | .loop c => (compC P E N c).map .loop
  | .exit id => some (.exit id)
  | .ret => some .ret
  | .label _ => some .skip
  | _ => some .fail

/-- What the loop has still to do, from its round's head. -/
def LoopW (P : Program) (c : Code) (Q : Exit → Act → World → Prop) (a : Act) (w : World) : Prop :=
  ∀ (b : Frame) (k : List Item) (cs : List Frame), ∃ e a' w', Q e a' w' ∧ Arrives P (lone (b.at a (.code c :: .inLoop c :: k)) cs w) b k cs e a' w'

theorem wp_of_loopW {c : Code} {Q : Exit → Act → World → Prop} {a : Act} {w : World} (h : LoopW P c Q a w) : (Code.loop c).wp P Q a w := by
  intro b k cs
  obtain ⟨e, a', w', hq, harr⟩ := h b k cs
  exact ⟨e, a', w', hq, .of_steps (.one step_loop) harr⟩

theorem loopW_of {c : Code} {Q : Exit → Act → World → Prop} {a : Act} {w : World} (h : c.wp P (Exit.then (LoopW P c Q) Q) a w) : LoopW P c Q a w := by
  intro b k cs
  obtain ⟨e, a₁, w₁, hq, harr⟩ := h b (.inLoop c :: k) cs
  cases e with
  | normal =>
    obtain ⟨e₂, a₂, w₂, hq₂, harr₂⟩ := hq b k cs
    exact ⟨e₂, a₂, w₂, hq₂, .of_steps (Steps.trans harr (.one step_inLoop)) harr₂⟩
  | exit id => exact ⟨_, a₁, w₁, hq, .pass (x := .inLoop c) rfl (fun _ _ => .inl (by simp)) harr⟩
  | goto l => exact ⟨_, a₁, w₁, hq, .pass (x := .inLoop c) rfl (fun _ _ => .inl (by simp)) harr⟩
  | ret => exact ⟨_, a₁, w₁, hq, .pass (x := .inLoop c) rfl (fun _ _ => .inl (by simp)) harr⟩
  | panic ch => exact ⟨_, a₁, w₁, hq, .pass (x := .inLoop c) rfl (fun _ _ => .inl (by simp)) harr⟩
  | outgrown => exact ⟨_, a₁, w₁, hq, .pass (x := .inLoop c) rfl (fun _ _ => .inl (by simp)) harr⟩

theorem mkDs_get {rs : List ROp} {B : List Nat} {i : Nat} : (mkDs rs B)[i]? = (rs[i]?).map (mkD rs B i) := by
  unfold mkDs
  rw [List.getElem?_map, List.getElem?_zipIdx]
  cases rs[i]? <;> simp

theorem drw_sound {X : Oracle} (hX : XS P X) (hE : ExOK P E) (hm : P.follows .mixedOrders = true) {ops : Array Oper} {N : Nat} {rs : List ROp} {B : List Nat} (hc : compRs P E N ops ops.toList = some rs) (hB : okB ops.toList B = true) (hT : okT rs B = true)
    {Q : Exit → Act → World → Prop} {k : Env → St → Prop} {m0 : Inj} {s0 : St} {w0 : World} (hQ : ∀ e s a w, k e s → Rel m0 s0 w0 N e s a w → Q .normal a w)
    {e : Env} {s : St} {a : Act} {w : World} (hrel : Rel m0 s0 w0 N e s a w) (h : drwA X (rs.filter fun r => isNew r.op).length (mkDs rs B) e s k) (id : Nat) : (Code.region id ops true).wp P Q a w := by
  obtain ⟨m, hS, hR, hG, hN, hD⟩ := hrel
  obtain ⟨bs, hbs, h⟩ := h
  obtain ⟨hlen, hget⟩ := compRs_get hc
  have hlen' : rs.length = ops.size := by simpa using hlen
  obtain ⟨EV, SV, BV, e1, e2, e3, e4, e5⟩ := dr_trace (mkDs rs B) 0 [] [] (fun _ => e) (fun _ => s ++ bs) (fun _ => none) h (by intro t ht; omega) (by intro t ht; omega)
  have hEV0 : EV 0 = e := e1 0 (by omega)
  have hSV0 : SV 0 = s ++ bs := e2 0 (by omega)
  have hdl : (mkDs rs B).length = rs.length := by simp [mkDs]
  rw [hdl, Nat.zero_add] at e5
  have C : Ctx P E X ops N rs B s.length bs EV SV BV := ⟨hX, hE, hlen', fun i o ho => hget i o (by simpa using ho), hB, hT, hbs, fun i r hr => by
    have := e4 i (mkD rs B i r) (by rw [mkDs_get, hr]; rfl)
    rwa [Nat.zero_add] at this⟩
  obtain ⟨hS', hG'⟩ := hS.slots bs
  refine wp_region_any hm ?_
  refine wpAny_run C (m0 := m0) (s0 := s0) (w0 := w0) hG.len (fun a' w' hr => hQ _ _ a' w' e5 hr) ops.size (Array.replicate ops.size false) 0 m a _ (by simp) ?_ ?_
  · have : ((List.range ops.size).filter fun i => !(Array.replicate ops.size false).getD i false).length ≤ (List.range ops.size).length := List.length_filter_le _ _
    simpa using this
  · have hno : ∀ i, (Array.replicate ops.size false).getD i false = false := by
      intro i
      simp [Array.getD_eq_getD_getElem?, Array.getElem?_replicate]
      split <;> rfl
    refine ⟨fun j o ho hj => ?_, .inl rfl, fun t ht => ?_, ?_, ?_, fun i hi _ => ⟨?_, ?_⟩, fun t _ => ?_, fun i r t hr hl => ?_, hN, hD⟩
    · rw [hno j] at hj; simp at hj
    · rw [hno t] at ht; simp at ht
    · rw [hSV0]; exact hS'.heap rfl
    · rw [hSV0]; exact (hG.trans hG').trans (Goes.heap rfl rfl rfl rfl)
    · exact hS.fresh (by omega)
    · rw [hSV0, List.getElem?_append_right (by omega)]; congr 1; omega
    · rw [hEV0]; exact hR t
    · rw [hno i] at hl; simp at hl

theorem code_sound {X : Oracle} (hX : XS P X) (hE : ExOK P E) (hm : P.follows .mixedOrders = true) {N : Nat} {m0 : Inj} {s0 : St} {w0 : World} : ∀ (c : Code) (rc : RC), compC P E N c = some rc → ∀ (Q : XE → Env → St → Prop) (Q' : Exit → Act → World → Prop),
    (∀ x e s a w, Q x e s → Rel m0 s0 w0 N e s a w → Q' x.out a w) → ∀ (e : Env) (s : St) (a : Act) (w : World), Rel m0 s0 w0 N e s a w → awp X rc Q e s → c.wp P Q' a w
  | .skip, rc, hc, Q, Q', hQ, e, s, a, w, hrel, h => by
    simp [compC] at hc; subst hc
    exact wp_skip (hQ .nrm e s a w h hrel)
  | .region id ops draw, rc, hc, Q, Q', hQ, e, s, a, w, hrel, h => by
    simp only [compC] at hc
    split at hc <;> try (simp at hc; done)
    rename_i rs hrs
    split at hc
    · rename_i hdr
      subst hdr
      split at hc <;> simp at hc
      rename_i hok
      subst hc
      simp only [Bool.and_eq_true] at hok
      exact drw_sound hX hE hm hrs hok.1 hok.2 (fun e s a w hk hr => hQ .nrm e s a w hk hr) hrel h id
    · rename_i hdr
      have hdr' : draw = false := by simpa using hdr
      subst hdr'
      simp at hc
      subst hc
      obtain ⟨hlen, hget⟩ := compRs_get hrs
      refine wp_region (reg_sound hX hE (fun e s a w hk hr => hQ .nrm e s a w hk hr) (List.range ops.size) rs (by simpa using hlen.symm) ?_ e s a w hrel h)
      intro j i r hj hr
      have hjl : j < ops.size := by have := (List.getElem?_eq_some_iff.1 hj).1; simpa using this
      have hij : i = j := by
        rw [List.getElem?_range hjl] at hj; simpa using hj.symm
      subst hij
      obtain ⟨r', h1, h2⟩ := hget i ops[i] (by simp [hjl])
      rw [hr] at h1
      cases h1
      exact ⟨ops[i], by simp [hjl], h2⟩
  | .seq x y, rc, hc, Q, Q', hQ, e, s, a, w, hrel, h => by
    simp only [compC] at hc
    split at hc <;> simp at hc
    subst hc
    rename_i rx ry h1 h2
    refine wp_seq (code_sound hX hE hm x rx h1 _ _ ?_ e s a w hrel h)
    intro xe e s a w hq hr
    cases xe with
    | nrm => exact code_sound hX hE hm y ry h2 Q Q' hQ e s a w hr hq
    | exit id => exact hQ _ _ _ _ _ hq hr
    | ret => exact hQ _ _ _ _ _ hq hr
  | .cond c x y, rc, hc, Q, Q', hQ, e, s, a, w, hrel, h => by
    simp only [compC] at hc
    split at hc <;> simp at hc
    subst hc
    rename_i rcx rx ry h0 h1 h2
    obtain ⟨m, hS, hR, hG, hN, hD⟩ := hrel
    have hcv := compX_vr hR h0
    simp only [awp] at h
    split at h
    · rename_i hb; rw [hb] at hcv
      exact wp_cond (t := true) hcv (code_sound hX hE hm x rx h1 Q Q' hQ e s a w ⟨m, hS, hR, hG, hN, hD⟩ h)
    · rename_i hb; rw [hb] at hcv
      exact wp_cond (t := false) hcv (code_sound hX hE hm y ry h2 Q Q' hQ e s a w ⟨m, hS, hR, hG, hN, hD⟩ h)
    · exact h.elim
  | .block id c, rc, hc, Q, Q', hQ, e, s, a, w, hrel, h => by
    simp [compC] at hc
    obtain ⟨r, hr, rfl⟩ := hc
    refine wp_block (code_sound hX hE hm c r hr _ _ ?_ e s a w hrel h)
    intro xe e s a w hq hr'
    cases xe with
    | nrm => exact hQ _ _ _ _ _ hq hr'
    | exit j =>
      simp only [XE.out, Exit.inBlock] at hq ⊢
      split at hq
      · rename_i hj; rw [if_pos hj]; exact hQ .nrm _ _ _ _ hq hr'
      · rename_i hj; rw [if_neg hj]; exact hQ (.exit j) _ _ _ _ hq hr'
    | ret => exact hQ _ _ _ _ _ hq hr'
  | .loop c, rc, hc, Q, Q', hQ, e, s, a, w, hrel, h => by
    simp [compC] at hc
    obtain ⟨r, hr, rfl⟩ := hc
    refine wp_of_loopW ?_
    refine h (fun e s => ∀ a w, Rel m0 s0 w0 N e s a w → LoopW P c Q' a w) ?_ a w hrel
    intro e s hround a w hrel
    refine loopW_of (code_sound hX hE hm c r hr _ _ ?_ e s a w hrel hround)
    intro xe e s a w hq hr'
    cases xe with
    | nrm => exact hq a w hr'
    | exit id => exact hQ _ _ _ _ _ hq hr'
    | ret => exact hQ _ _ _ _ _ hq hr'
  | .exit id, rc, hc, Q, Q', hQ, e, s, a, w, hrel, h => by
    simp [compC] at hc; subst hc
    exact wp_exit (hQ (.exit id) e s a w h hrel)
  | .ret, rc, hc, Q, Q', hQ, e, s, a, w, hrel, h => by
    simp [compC] at hc; subst hc
    exact wp_ret (hQ .ret e s a w h hrel)
  | .label l, rc, hc, Q, Q', hQ, e, s, a, w, hrel, h => by
    simp [compC] at hc; subst hc
    exact wp_label (hQ .nrm e s a w h hrel)
  | .rangeFunc f ps x y, rc, hc, Q, Q', hQ, e, s, a, w, hrel, h => by simp [compC] at hc; subst hc; exact h.elim
  | .scope c, rc, hc, Q, Q', hQ, e, s, a, w, hrel, h => by simp [compC] at hc; subst hc; exact h.elim
  | .goto l, rc, hc, Q, Q', hQ, e, s, a, w, hrel, h => by simp [compC] at hc; subst hc; exact h.elim
  | .refuse y, rc, hc, Q, Q', hQ, e, s, a, w, hrel, h => by simp [compC] at hc; subst hc; exact h.elim

end Go.Ev
