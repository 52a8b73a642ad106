import Derived.Test.YtkainejbilbjfaaEvG
/-! One operation: soundness. -/
namespace Go.Ev
set_option linter.unusedVariables false
set_option linter.unusedSimpArgs false
variable {P : Program} {E : Ex} {m : Inj} {s : St} {w : World}

/-- What is known behind a call. -/
def CQ (m : Inj) (s : St) (w : World) (k : AV → St → Prop) : Ending → World → Prop :=
  fun e w' => ∃ a s' m' v, k a s' ∧ e = .returned v ∧ Sim m' s' w' ∧ Goes m s w m' s' w' ∧ VR m' a v

structure Known (P : Program) (f : Nat) : Prop where
  ok : ∃ fn, P.funcs[f]? = some fn ∧ (fn.name == "runtime.NumGoroutine") = false ∧ fn.body.isNone = false

def XS (P : Program) (X : Oracle) : Prop := ∀ f args s k, X f args s k → Known P f ∧ ∀ m w (vs : Array Value), Sim m s w → VRs m args vs.toList → Calls P f vs w (CQ m s w k)

theorem run_callFunc_known {f : Nat} (h : Known P f) (args : Array Value) (w : World) : (callFunc f args).run P w = .ok (.enter f args) w := by
  obtain ⟨fn, h1, h2, h3⟩ := h.ok
  have h2' : fn.name ≠ "runtime.NumGoroutine" := by simpa using h2
  have h3' : ¬ (fn.body = none) := by intro e; simp [e] at h3
  simp [callFunc, h1, h2', h3']

theorem opA_pure {X : Oracle} {ro : RO} (hp : ro.isPure = true) {e : Env} {k : AV → St → Prop} (h : opA X ro e s k) : ∃ v, pureA ro e = some v ∧ k v s := by
  cases ro <;> simp [RO.isPure] at hp <;> exact h

theorem wp_value {o : Oper} {a : Act} {K : Act → World → Prop} {Q : Exit → Act → World → Prop} {u : Value} {w' : World} (h : (execOp a.eval o).run P w = .ok (.value u) w') (hk : K (a.put o.dst u) w') : o.wp P a w K Q := by
  unfold Oper.wp; rw [h]; exact hk

theorem wp_skip' {o : Oper} {a : Act} {K : Act → World → Prop} {Q : Exit → Act → World → Prop} {w' : World} (h : (execOp a.eval o).run P w = .ok .skip w') (hk : K (a.put o.dst undef) w') : o.wp P a w K Q := by
  unfold Oper.wp; rw [h]; exact hk

theorem wp_enter {o : Oper} {a : Act} {K : Act → World → Prop} {Q : Exit → Act → World → Prop} {f : FuncId} {args : Array Value} {w' : World} (h : (execOp a.eval o).run P w = .ok (.enter f args) w')
    (hk : Calls P f args w' fun e w'' => ∃ v, e = .returned v ∧ K (a.put o.dst v) w'') : o.wp P a w K Q := by
  unfold Oper.wp; rw [h]
  exact Calls.mono hk fun e w'' ⟨v, he, hK⟩ => by subst he; exact hK

theorem cells_prefix {cs : List AV} {vs : Array Value} (h : VRs m cs vs.toList) (more : Array Value) : ∀ (i : Nat) (a : AV), cs[i]? = some a → ∃ v : Value, (vs ++ more)[i]? = some v ∧ VR m a v := by
  intro i a hi
  obtain ⟨v, hv, hr⟩ := VRs.get h hi
  refine ⟨v, ?_, hr⟩
  rw [← Array.getElem?_toList] at *
  rw [Array.toList_append, List.getElem?_append_left (List.getElem?_eq_some_iff.1 hv).1]
  exact hv

theorem cells_exact {cs : List AV} {vs : Array Value} (h : VRs m cs vs.toList) : ∀ (i : Nat) (a : AV), cs[i]? = some a → ∃ v : Value, vs[i]? = some v ∧ VR m a v := by
  have := cells_prefix h #[]
  simpa using this

theorem vrs_flat {z : List AV} {zv : List Value} (h : VRs m z zv) : ∀ n, VRs m (List.replicate n z).flatten (List.replicate n zv).flatten
  | 0 => rfl
  | n + 1 => by simp only [List.replicate_succ, List.flatten_cons]; exact VRs.append h (vrs_flat h n)

theorem range_mod_flat (z : Array Value) (hz : 0 < z.size) (n : Nat) : ((Array.range (n * z.size)).map (z[· % z.size]!)).toList = (List.replicate n z.toList).flatten := by
  induction n with
  | zero => simp
  | succ n ih =>
    rw [List.replicate_succ', List.flatten_append]
    simp only [List.flatten_cons, List.flatten_nil, List.append_nil]
    rw [← ih]
    simp only [Array.toList_map, Array.toList_range]
    rw [show (n + 1) * z.size = n * z.size + z.size by rw [Nat.succ_mul], List.range_add, List.map_append]
    congr 1
    rw [List.map_map]
    apply List.ext_getElem?
    intro i
    by_cases hi : i < z.size
    · simp [hi]
      have : i % z.size = i := Nat.mod_eq_of_lt hi
      simp [this, hi]
    · rw [List.getElem?_eq_none (by simp; omega), List.getElem?_eq_none (by simp; omega)]

theorem zeroL_run {t : TypeId} {z : List AV} (h : zeroL P t = some z) : ∃ i v, P.info? t = some i ∧ i.zero = some v ∧ (∀ w, (zeroValue t).run P w = .ok v w) ∧ ∀ m, VRs m z v.cells.toList := by
  obtain ⟨i, v, h1, h2, h3⟩ := zeroL_vr h
  exact ⟨i, v, h1, h2, fun w => by simp [zeroValue, run_typeInfo h1, h2], h3⟩

/-- The cells of a slice, as the model reads them. -/
theorem first_run (h : Sim m s w) {e : Nat} {x : AV} {xs : List AV} {n : Nat} {v : Value} (hx : VR m x v) (hc : cellsA s e x = some xs) (hl : lenA x = some n) :
    ∃ us : List Value, VRs m xs us ∧ us.length = n * e ∧ (∀ w' : World, w'.heap = w.heap → (Builtin.firstCells e n v).run P w' = .ok us.toArray w') ∧ ∀ w' : World, (Builtin.lenOf v).run P w' = .ok n w' := by
  cases x with
  | nils =>
    simp only [VR] at hx
    subst hx
    simp [cellsA] at hc
    subst hc
    simp [lenA] at hl
    subst hl
    exact ⟨[], rfl, by simp, fun w' _ => by simp [Builtin.firstCells], fun w' => by simp [Builtin.lenOf]⟩
  | sl b o es n' c =>
    simp [lenA] at hl
    subst hl
    obtain ⟨l, k, y, hb, rfl, hk, hz, ho, hcap⟩ := hx
    simp only [cellsA] at hc
    split at hc <;> try (simp at hc; done)
    rename_i cs hcs
    split at hc <;> simp at hc
    rename_i hcond
    obtain ⟨rfl, hle⟩ := hcond
    subst hc
    obtain ⟨us, h1, h2, h3⟩ := h.row hb hcs o (n' * es) hle
    refine ⟨us, h1, h2, fun w' e => ?_, fun w' => by simp [Builtin.lenOf]⟩
    rcases ho with rfl | hk0
    · exact run_firstCells_some (P := P) w' es n' _ n' k us h2 (h3 w' e)
    · have : n' = 0 := by omega
      subst this
      simp at h2
      subst h2
      simp [Builtin.firstCells, loadCells, loadCellsFrom]
  | _ => simp [lenA] at hl

theorem sim_kill (h : Sim m s w) {b : Nat} : Sim m (s.set b .dead) w := by
  have key : ∀ i : Nat, (s.set b .dead)[i]? = s[i]? ∨ (s.set b .dead)[i]? = some Blk.dead := by
    intro i
    by_cases hi : i = b
    · subst hi
      by_cases hlt : i < s.length
      · right; simp [hlt]
      · left; rw [List.getElem?_eq_none (by simp; omega), List.getElem?_eq_none (by omega)]
    · left; exact List.getElem?_set_ne (Ne.symm hi)
  refine ⟨?_, ?_⟩
  · intro i l hi
    obtain ⟨bb, o, h1, h2, h3⟩ := h.at_ i l hi
    rcases key i with e | e
    · exact ⟨bb, o, by rw [e]; exact h1, h2, h3⟩
    · exact ⟨.dead, o, e, h2, trivial⟩
  · intro i j l l' hi hj hc hro
    have : ¬ ro s i := by
      rcases key i with e | e
      · unfold ro at hro ⊢; rwa [e] at hro
      · exact absurd (.inl e) hro
    rcases h.inj i j l l' hi hj hc this with e | e
    · exact .inl e
    · rcases key j with e' | e'
      · right; rw [e']; exact e
      · exact .inr e'

theorem hands_kill {b c : Nat} (h : Hands m s c) : Hands m (s.set b .dead) c := by
  intro i l hi hc
  by_cases hib : i = b
  · subst hib
    by_cases hlt : i < s.length
    · exact .inl (by simp [hlt])
    · have := h i l hi hc
      unfold ro at this ⊢
      rw [List.getElem?_eq_none (by simp; omega)]
      rw [List.getElem?_eq_none (by omega)] at this
      exact this
  · have := h i l hi hc
    unfold ro at this ⊢
    rw [List.getElem?_set_ne (Ne.symm hib)]
    exact this

theorem goes_kill {b : Nat} (h : Sim m s w) : Goes m s w m (s.set b .dead) w :=
  ⟨Inj.le_refl m, fun _ _ e => .inl e, by simp, rfl, rfl, rfl, Nat.le_refl _, fun c _ hH => ⟨rfl, hands_kill hH⟩⟩

/-- The block `b` is used up; a new logical block lies where it lay. -/
theorem sim_move (h : Sim m s w) {b : Nat} {l : Loc} (hb : m b = some l) {cs : List AV} (hs : s[b]? = some (.cells true cs)) (o n j : Nat) (hle : o + n ≤ cs.length) (hroom : l.d + o + n + j ≤ l.z) :
    Sim (m.put s.length ⟨l.c, l.d + o, l.z⟩) (s.set b .dead ++ [.cells true ((cs.drop o).take n ++ List.replicate j .undef)]) w ∧
    Goes m s w (m.put s.length ⟨l.c, l.d + o, l.z⟩) (s.set b .dead ++ [.cells true ((cs.drop o).take n ++ List.replicate j .undef)]) w := by
  have hk := sim_kill h (b := b)
  have hlen : (s.set b .dead).length = s.length := by simp
  have hle' := Inj.put_le (l := ⟨l.c, l.d + o, l.z⟩) (h.fresh (Nat.le_refl s.length))
  have hlt := (h.lt hb).1
  have hro := own_ro hs
  have hdead : (s.set b .dead)[b]? = some .dead := by simp [hlt]
  have old : ∀ {i l'}, (m.put s.length ⟨l.c, l.d + o, l.z⟩) i = some l' → (i = s.length ∧ l' = ⟨l.c, l.d + o, l.z⟩) ∨ (i < s.length ∧ m i = some l') := by
    intro i l' hi
    unfold Inj.put at hi
    split at hi
    · rename_i e; simp at hi; exact .inl ⟨e, hi.symm⟩
    · exact .inr ⟨(h.lt hi).1, hi⟩
  have get : ∀ i, i < s.length → (s.set b .dead ++ [.cells true ((cs.drop o).take n ++ List.replicate j .undef)])[i]? = (s.set b .dead)[i]? := fun i hi => List.getElem?_append_left (by omega)
  have othersDead : ∀ j l', m j = some l' → l'.c = l.c → (s.set b .dead)[j]? = some .dead := by
    intro j l' hj hc
    rcases h.inj b j l l' hb hj hc.symm hro with e | e
    · subst e; exact hdead
    · by_cases hjb : j = b
      · subst hjb; exact hdead
      · rw [List.getElem?_set_ne (Ne.symm hjb)]; exact e
  refine ⟨⟨?_, ?_⟩, ⟨hle', ?_, by simp, rfl, rfl, rfl, Nat.le_refl _, ?_⟩⟩
  · intro i l' hi
    rcases old hi with ⟨rfl, rfl⟩ | ⟨hi', hm⟩
    · obtain ⟨bb, ob, h1, h2, h3⟩ := h.at_ b l hb
      rw [hs] at h1
      cases h1
      obtain ⟨arr, t, fz, rfl, hz, hr, hf⟩ := h3
      refine ⟨.cells true ((cs.drop o).take n ++ List.replicate j .undef), _, by rw [← hlen]; simp, h2, arr, t, fz, rfl, hz, ?_, hf⟩
      intro i a ha
      have hlen2 : ((cs.drop o).take n).length = n := by simp; omega
      rcases Nat.lt_or_ge i n with hin | hin
      · rw [List.getElem?_append_left (by omega), List.getElem?_take, if_pos hin, List.getElem?_drop] at ha
        obtain ⟨v, hv, hr'⟩ := hr (o + i) a ha
        exact ⟨v, by rw [← hv]; congr 1; simp; omega, VR.mono hle' a v hr'⟩
      · rw [List.getElem?_append_right (by omega)] at ha
        have hij := (List.getElem?_eq_some_iff.1 ha).1
        simp at hij
        have ha' : a = .undef := by
          rw [List.getElem?_replicate] at ha
          split at ha
          · simpa using ha.symm
          · simp at ha
        subst ha'
        have hin2 : l.d + o + i < arr.size := by omega
        exact ⟨arr[l.d + o + i], by simp [hin2], trivial⟩
    · obtain ⟨bb, ob, h1, h2, h3⟩ := hk.at_ i l' hm
      exact ⟨bb, ob, by rw [get i hi']; exact h1, h2, BR.mono hle' h3⟩
  · intro i j l1 l2 hi hj hc hn
    rcases old hi with ⟨rfl, rfl⟩ | ⟨hi', hm⟩
    · rcases old hj with ⟨rfl, rfl⟩ | ⟨hj', hm'⟩
      · exact .inl rfl
      · right; rw [get j hj']; exact othersDead j l2 hm' hc.symm
    · have hn' : ¬ ro (s.set b .dead) i := by unfold ro at hn ⊢; rwa [get i hi'] at hn
      rcases old hj with ⟨rfl, rfl⟩ | ⟨hj', hm'⟩
      · exact absurd (.inl (othersDead i l1 hm hc)) hn'
      · rw [get j hj']; exact hk.inj i j l1 l2 hm hm' hc hn'
  · intro i l' hi
    rcases old hi with ⟨rfl, rfl⟩ | ⟨hi', hm⟩
    · exact .inr (Nat.le_refl _)
    · exact .inl hm
  · intro c hc hH
    refine ⟨rfl, ?_⟩
    intro i l' hi hlc
    rcases old hi with ⟨rfl, rfl⟩ | ⟨hi', hm⟩
    · exact absurd (hH b l hb hlc) hro
    · have := hands_kill hH (b := b) i l' hm hlc
      unfold ro at this ⊢
      rw [get i hi']
      exact this

end Go.Ev
