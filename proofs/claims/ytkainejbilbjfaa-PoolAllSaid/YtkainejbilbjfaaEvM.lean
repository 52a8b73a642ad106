import Derived.Test.YtkainejbilbjfaaEvL
/-! Regions that draw their order: soundness, the proof. -/
namespace Go.Ev
set_option linter.unusedVariables false
set_option linter.unusedSimpArgs false
variable {P : Program} {E : Ex}

theorem exists_last {p : Nat → Prop} : ∀ (n : Nat), (∃ j, j < n ∧ p j) → ∃ j, j < n ∧ p j ∧ ∀ l, j < l → l < n → ¬ p l
  | 0, ⟨j, hj, _⟩ => by omega
  | n + 1, ⟨j, hj, hp⟩ => by
    by_cases hn : p n
    · exact ⟨n, by omega, hn, fun l h1 h2 => by omega⟩
    · have : j < n := by
        rcases Nat.lt_or_ge j n with h | h
        · exact h
        · have : j = n := by omega
          subst this; exact absurd hp hn
      obtain ⟨k, h1, h2, h3⟩ := exists_last n ⟨j, this, hp⟩
      refine ⟨k, by omega, h2, fun l h4 h5 => ?_⟩
      by_cases hl : l = n
      · subst hl; exact hn
      · exact h3 l h4 (by omega)

/-- A new block where a slot was kept free for it. -/
theorem Sim.allocAt {m : Inj} {s : St} {w : World} (h : Sim m s w) {id : Nat} (hid : m id = none) {cs : List AV} (hs : s[id]? = some (.cells true cs)) {vs : Array Value} {t : TypeId} (hr : VRs m cs vs.toList) :
    Sim (m.put id ⟨w.heap.size, 0, vs.size⟩) s (w.alloc (.cells vs t)) ∧
    (m.le (m.put id ⟨w.heap.size, 0, vs.size⟩)) ∧ (∀ c, c < w.heap.size → (w.alloc (.cells vs t)).heap[c]? = w.heap[c]?) := by
  have hle := Inj.put_le (l := ⟨w.heap.size, 0, vs.size⟩) hid
  have old : ∀ {i l}, (m.put id ⟨w.heap.size, 0, vs.size⟩) i = some l → (i = id ∧ l = ⟨w.heap.size, 0, vs.size⟩) ∨ (m i = some l) := by
    intro i l hi
    unfold Inj.put at hi
    split at hi
    · rename_i e; simp at hi; exact .inl ⟨e, hi.symm⟩
    · exact .inr hi
  have hheap : ∀ c, c < w.heap.size → (w.alloc (.cells vs t)).heap[c]? = w.heap[c]? := by
    intro c hc
    show (w.heap.push _)[c]? = _
    rw [Array.getElem?_push, if_neg (by omega)]
  refine ⟨⟨?_, ?_⟩, hle, hheap⟩
  · intro i l hi
    rcases old hi with ⟨rfl, rfl⟩ | hm
    · refine ⟨.cells true cs, .cells vs t, hs, by show (w.heap.push _)[_]? = _; simp, vs, t, (0, 0), rfl, rfl, ?_, ?_⟩
      · intro i a ha
        obtain ⟨v, hv, hr'⟩ := cells_exact hr i a ha
        exact ⟨v, by simpa using hv, VR.mono hle a v hr'⟩
      · intro _ k _; simp
    · obtain ⟨b, o, h1, h2, h3⟩ := h.at_ i l hm
      exact ⟨b, o, h1, by rw [hheap _ (h.lt hm).2]; exact h2, BR.mono hle h3⟩
  · intro i j l l' hi hj hc hro
    rcases old hi with ⟨rfl, rfl⟩ | hm
    · rcases old hj with ⟨rfl, rfl⟩ | hm'
      · exact .inl rfl
      · have := (h.lt hm').2; simp at hc; omega
    · rcases old hj with ⟨rfl, rfl⟩ | hm'
      · have := (h.lt hm).2; simp at hc; omega
      · exact h.inj i j l l' hm hm' hc hro

/-- What an operation that makes a block does in the model. -/
theorem new_run {m : Inj} {o : Oper} {ro : RO} (hn : isNew ro = true) (hc : compOp P E o.op o.type = some ro) {e : Env} {a : Act} (hR : ER m e a) {id : Nat} {v : AV} {blk : Blk} (h : newA ro e id = some (v, blk)) :
    ∃ (cs : List AV) (vs : Array Value) (t : TypeId) (u : Nat → Value), blk = .cells true cs ∧ VRs m cs vs.toList ∧ (∀ w : World, (execOp a.eval o).run P w = .ok (.value (u w.heap.size)) (w.alloc (.cells vs t))) ∧
      ∀ (m' : Inj) (c : Nat), m' id = some ⟨c, 0, vs.size⟩ → VR m' v (u c) := by
  obtain ⟨dst, op, type, pos, after, guard⟩ := o
  simp only at hc
  cases op with
  | alloc t =>
    simp [compOp] at hc
    obtain ⟨z, hz, rfl⟩ := hc
    simp [newA] at h
    obtain ⟨rfl, rfl⟩ := h
    obtain ⟨i, zv, hi, hzv, hzr, hzvr⟩ := zeroL_run hz
    refine ⟨z, zv.cells, t, fun c => .pointer (some ⟨c, 0, none⟩), rfl, hzvr m, fun w => ?_, fun m' c hm => ⟨_, hm, rfl⟩⟩
    simp only [execOp, Instr.alloc, newVar, newRow, Sem.run_bind, hzr, Result.andThen_ok, run_newObj, Sem.run_pure]
    rfl
  | box t x =>
    simp only [compOp] at hc
    split at hc <;> simp at hc
    subst hc
    rename_i n x' hn' hx
    simp [newA] at h
    obtain ⟨cs, hcs, rfl, rfl⟩ := h
    have hx' := compX_vr hR hx
    have hvr : VRs m cs (a.eval x).cells.toList := by
      unfold boxA at hcs
      split at hcs
      · split at hcs <;> simp at hcs
        rename_i hcell
        subst hcs
        have := VR.cells hx' (.inl hcell)
        have e1 : (x'.ev e).cells = [x'.ev e] := by revert hcell; cases x'.ev e <;> simp [AV.cell, AV.cells]
        rwa [e1] at this
      · split at hcs <;> try (simp at hcs; done)
        split at hcs <;> simp at hcs
        rename_i cs' hag _
        subst hcs
        have := VR.cells hx' (.inr ⟨_, hag⟩)
        rw [hag] at this
        exact this
    refine ⟨cs, (a.eval x).cells, t, fun c => .pointer (some ⟨c, 0, none⟩), rfl, hvr, fun w => ?_, fun m' c hm => ⟨_, hm, rfl⟩⟩
    simp only [execOp, Instr.box, newVar, newRow, Sem.run_bind, Result.andThen_ok, run_newObj, Sem.run_pure]
    rfl
  | buildSlice t len parts =>
    simp only [compOp] at hc
    split at hc <;> try (simp at hc; done)
    rename_i el hu
    split at hc <;> try (simp at hc; done)
    rename_i sz z hsz hz
    split at hc <;> try (simp at hc; done)
    rename_i hcond
    obtain ⟨hlim, hzl, hpos⟩ := hcond
    split at hc <;> simp at hc
    subst hc
    rename_i l hl
    simp [newA] at h
    obtain ⟨cs, hcs, rfl, rfl⟩ := h
    obtain ⟨i, zv, hi, hzv, hzr, hzvr⟩ := zeroL_run hz
    have hzs : zv.cells.size = sz := by rw [← Array.length_toList, VRs.length (hzvr m), hzl]
    have hvr : VRs m (List.replicate len z).flatten ((Array.range (len * sz)).map (zv.cells[· % zv.cells.size]!)).toList := by
      rw [← hzs, range_mod_flat zv.cells (by omega) len]
      exact vrs_flat (hzvr m) len
    obtain ⟨us, hfill, hus⟩ := run_fill hR hl hvr hcs
    have hlen : us.size = len * sz := by
      have e1 : ∀ (ps : List (Nat × Value)) (ds r : Array Value), Instr.fill (fun i => some (i * sz, sz)) ds ps = some r → r.size = ds.size := by
        intro ps
        induction ps with
        | nil => intro ds r hh; simp [Instr.fill] at hh; rw [hh]
        | cons p ps ih =>
          intro ds r hh
          obtain ⟨pi, pv⟩ := p
          simp only [Instr.fill] at hh
          split at hh
          · simp at hh
          · have := ih _ _ hh
            rw [this]
            rw [← Array.foldl_toList]
            exact foldl_set_size _ _ _
      have := e1 _ _ _ hfill
      simpa using this
    refine ⟨cs, us, el, fun c => .slice (some ⟨c, 0, none⟩) len len, rfl, hus, fun w => ?_, fun m' c hm => ⟨_, len, 0, hm, rfl, Nat.le_refl _, by simp [hlen], .inl rfl, by simp⟩⟩
    simp only [execOp, Instr.buildSlice, newRow, Sem.run_bind, Result.andThen_ok, run_newObj, Sem.run_pure, run_underlying hu, run_szOf hsz]
    rw [if_neg (by omega)]
    by_cases h00 : len * sz = 0
    · have hfill0 : Instr.fill (fun i => some (i * sz, sz)) ((Array.range (len * sz)).map ((#[] : Array Value)[· % 0]!)) (parts.map fun (i, x) => (i, a.eval x)).toList = some us := by
        rw [← hfill]
        have e0 : Array.range (len * sz) = #[] := by rw [h00]; rfl
        rw [e0]
        simp
      simp only [h00, if_true, Sem.run_pure, Result.andThen_ok, Sem.run_bind] at hfill0 ⊢
      simp only [Array.size_empty] at hfill0 ⊢
      rw [hfill0]
      simp [run_newObj]
    · simp only [h00, if_false, Sem.run_bind, hzr, Result.andThen_ok, Sem.run_pure]
      have hfill0 : Instr.fill (fun i => some (i * sz, sz)) ((Array.range (len * sz)).map (zv.cells[· % zv.cells.size]!)) (parts.map fun (i, x) => (i, a.eval x)).toList = some us := by
        rw [← hfill]; simp
      rw [hfill0]
      simp [run_newObj]
  | binOp bop t x y yt =>
    exfalso
    cases bop <;> simp only [compOp] at hc <;> split at hc <;> simp at hc <;> (subst hc; simp [isNew] at hn)
  | makeFunc fn first captured =>
    exfalso
    cases fn <;> simp only [compOp] at hc <;> try (simp at hc; done)
    split at hc <;> simp at hc
    obtain ⟨r, hr, rfl⟩ := hc
    simp [isNew] at hn
  | move x | assign x | nilCheck x | unOp u t x | extract x i =>
    exfalso
    simp [compOp] at hc; obtain ⟨r, hr, rfl⟩ := hc; simp [isNew] at hn
  | pick c x y | build t ps | convert t u x | makeInterface t x | slice t x lo hi mx | fieldAddr t x f | field t x f | indexAddr t x i | index t x i | load t x | store t x y | makeSlice t l c | call c =>
    exfalso
    simp only [compOp, compCall] at hc
    repeat' (split at hc)
    all_goals first
      | (simp at hc; done)
      | (simp at hc; subst hc; simp [isNew] at hn; done)
      | (simp at hc; obtain ⟨r, hr, rfl⟩ := hc; simp [isNew] at hn; done)
  | _ => simp [compOp] at hc

section
variable {X : Oracle} {ops : Array Oper} {N : Nat} {rs : List ROp} {B : List Nat} {n0 : Nat} {bs : List Blk} {EV : Nat → Env} {SV : Nat → St} {BV : Nat → Option Nat}

/-- The place of the proof: what does not change through a region. -/
structure Ctx (P : Program) (E : Ex) (X : Oracle) (ops : Array Oper) (N : Nat) (rs : List ROp) (B : List Nat) (n0 : Nat) (bs : List Blk) (EV : Nat → Env) (SV : Nat → St) (BV : Nat → Option Nat) : Prop where
  hX : XS P X
  hE : ExOK P E
  len : rs.length = ops.size
  comp : ∀ (i : Nat) (o : Oper), ops[i]? = some o → ∃ r, rs[i]? = some r ∧ compR1 P E N ops o = some r
  okB : okB ops.toList B = true
  okT : okT rs B = true
  slots : bs.length = (rs.filter fun r => isNew r.op).length
  tr : ∀ (i : Nat) (r : ROp), rs[i]? = some r → TrStep X n0 bs EV SV BV i (mkD rs B i r)

/-- What holds when the operations of lst have been done. -/
structure DInv (ops : Array Oper) (N : Nat) (rs : List ROp) (n0 : Nat) (bs : List Blk) (EV : Nat → Env) (SV : Nat → St) (m0 : Inj) (s0 : St) (w0 : World) (lst : Nat → Bool) (c : Nat) (m : Inj) (a : Act) (w : World) : Prop where
  closed : Closed ops lst
  cur0 : c = 0 ∨ ∃ t, c = t + 1 ∧ lst t = true ∧ isAt rs isEff t = true
  cur1 : ∀ t, lst t = true → isAt rs isEff t = true → t < c
  sim : Sim m (SV c) w
  goes : Goes m0 s0 w0 m (SV c) w
  unl : ∀ i, isAt rs isNew i = true → lst i = false → m (n0 + slotOf rs i) = none ∧ (SV c)[n0 + slotOf rs i]? = bs[slotOf rs i]?
  tmA : ∀ t, (∀ (j : Nat) (r : ROp), rs[j]? = some r → lst j = true → r.dst ≠ some t) → VR m ((EV 0).get t) (a.tmps.getD t undef)
  tmB : ∀ (i : Nat) (r : ROp) (t : Nat), rs[i]? = some r → lst i = true → r.dst = some t → (∀ (j : Nat) (r' : ROp), i < j → rs[j]? = some r' → lst j = true → r'.dst ≠ some t) → VR m ((EV (i + 1)).get t) (a.tmps.getD t undef)
  size : a.tmps.size = N
  defers : a.defers = []

theorem Ctx.ev (C : Ctx P E X ops N rs B n0 bs EV SV BV) {i : Nat} {r : ROp} (h : rs[i]? = some r) : ∃ v, EV (i + 1) = putO (EV i) r.dst v := by
  rcases C.tr i r h with ⟨t, want, b, h1, h2, h3, h4, h5, h6⟩ | ⟨_, h⟩
  · exact ⟨_, h4⟩
  · unfold RunStep at h
    split at h
    · obtain ⟨v, _, h1, _⟩ := h; exact ⟨_, h1⟩
    · obtain ⟨v, _, _, h1, _⟩ := h; exact ⟨_, h1⟩
    · obtain ⟨_, _, _, _, v, _, _, _, h1, _⟩ := h; exact ⟨_, h1⟩
    · obtain ⟨v, _, h1, _⟩ := h; exact ⟨_, h1⟩

theorem mkD_kind {rs : List ROp} {B : List Nat} {i : Nat} {r : ROp} : (mkD rs B i r).kind = (if r.op.isPure then .pure else if isNew r.op then .new (slotOf rs i) else if isLd r.op then .ld else .eff) := rfl

theorem Ctx.sv (C : Ctx P E X ops N rs B n0 bs EV SV BV) {i : Nat} {r : ROp} (h : rs[i]? = some r) (hn : isEff r.op = false) : SV (i + 1) = SV i := by
  rcases C.tr i r h with ⟨t, want, b, h1, h2, h3, h4, h5, h6⟩ | ⟨_, h⟩
  · exact h5
  · unfold RunStep at h
    split at h
    · obtain ⟨v, _, _, h1⟩ := h; exact h1
    · obtain ⟨v, _, _, _, h1⟩ := h; exact h1
    · obtain ⟨_, _, _, _, v, _, _, _, _, h1, _⟩ := h; exact h1
    · rename_i hk
      exfalso
      rw [mkD_kind] at hk
      unfold isEff at hn
      split at hk <;> try (simp at hk; done)
      split at hk <;> try (simp at hk; done)
      split at hk <;> try (simp at hk; done)
      simp_all

theorem putO_get_ne {e : Env} {d : Option Nat} {v : AV} {t : Nat} (h : d ≠ some t) : (putO e d v).get t = e.get t := by
  cases d with
  | none => rfl
  | some d => simp only [putO, Env.get_put]; rw [if_neg]; intro e'; subst e'; exact h rfl

theorem Ctx.ev_const (C : Ctx P E X ops N rs B n0 bs EV SV BV) {t : Nat} : ∀ (k i : Nat), i + k ≤ rs.length → (∀ (l : Nat) (r : ROp), i ≤ l → l < i + k → rs[l]? = some r → r.dst ≠ some t) → (EV (i + k)).get t = (EV i).get t
  | 0, i, _, _ => rfl
  | k + 1, i, hle, h => by
    have hlt : i + k < rs.length := by omega
    obtain ⟨v, hv⟩ := C.ev (List.getElem?_eq_getElem hlt)
    rw [← Nat.add_assoc, hv, putO_get_ne (h (i + k) _ (by omega) (by omega) (List.getElem?_eq_getElem hlt))]
    exact C.ev_const k i (by omega) fun l r h1 h2 h3 => h l r h1 (by omega) h3

theorem Ctx.sv_const (C : Ctx P E X ops N rs B n0 bs EV SV BV) {b : Nat} : ∀ (k i : Nat), i + k ≤ rs.length → (∀ (l : Nat), i ≤ l → l < i + k → isAt rs isEff l = true → (SV (l + 1))[b]? = (SV l)[b]?) → (SV (i + k))[b]? = (SV i)[b]?
  | 0, i, _, _ => rfl
  | k + 1, i, hle, h => by
    have hlt : i + k < rs.length := by omega
    have hr := List.getElem?_eq_getElem hlt
    have h1 : (SV (i + k + 1))[b]? = (SV (i + k))[b]? := by
      by_cases he : isEff (rs[i + k]).op = true
      · exact h (i + k) (by omega) (by omega) (by unfold isAt; rw [hr]; exact he)
      · rw [C.sv hr (by simpa using he)]
    rw [← Nat.add_assoc, h1]
    exact C.sv_const k i (by omega) fun l h1 h2 h3 => h l h1 (by omega) h3

theorem Ctx.sv_same (C : Ctx P E X ops N rs B n0 bs EV SV BV) : ∀ (k i : Nat), i + k ≤ rs.length → (∀ (l : Nat), i ≤ l → l < i + k → isAt rs isEff l = false) → SV (i + k) = SV i
  | 0, i, _, _ => rfl
  | k + 1, i, hle, h => by
    have hlt : i + k < rs.length := by omega
    have hr := List.getElem?_eq_getElem hlt
    have he := h (i + k) (by omega) (by omega)
    unfold isAt at he
    rw [hr] at he
    rw [← Nat.add_assoc, C.sv hr he]
    exact C.sv_same k i (by omega) fun l h1 h2 => h l h1 (by omega)

variable {m0 : Inj} {s0 : St} {w0 : World} {lst : Nat → Bool} {c : Nat} {m : Inj} {a : Act} {w : World}

/-- An operation that may come up: all ahead of it is done. -/
structure Rdy (ops : Array Oper) (lst : Nat → Bool) (i : Nat) (o : Oper) : Prop where
  op : ops[i]? = some o
  un : lst i = false
  needs : ∀ n ∈ needsOf o, lst n = true

theorem Ctx.lt (C : Ctx P E X ops N rs B n0 bs EV SV BV) {i : Nat} {r : ROp} (h : rs[i]? = some r) : i < ops.size := by
  have := (List.getElem?_eq_some_iff.1 h).1; rw [C.len] at this; exact this

theorem Ctx.oper (C : Ctx P E X ops N rs B n0 bs EV SV BV) {i : Nat} {r : ROp} (h : rs[i]? = some r) : ∃ o, ops[i]? = some o := ⟨ops[i]'(C.lt h), by simp [C.lt h]⟩

/-- What is ahead of a ready operation is done. -/
theorem DInv.aheadDone (C : Ctx P E X ops N rs B n0 bs EV SV BV) (I : DInv ops N rs n0 bs EV SV m0 s0 w0 lst c m a w) {i : Nat} {o : Oper} (R : Rdy ops lst i o) {l : Nat} (hl : l < ops.size) (h : ahead B i l = true) : lst l = true :=
  closed_ahead C.okB I.closed i o R.op R.needs l hl h

/-- Nothing that is done has a ready operation ahead of it. -/
theorem DInv.notAhead (C : Ctx P E X ops N rs B n0 bs EV SV BV) (I : DInv ops N rs n0 bs EV SV m0 s0 w0 lst c m a w) {i : Nat} {o : Oper} (R : Rdy ops lst i o) {l : Nat} {o' : Oper} (hl : ops[l]? = some o') (hd : lst l = true) : ahead B l i = false := by
  cases h : ahead B l i with
  | false => rfl
  | true =>
    have := closed_ahead C.okB I.closed l o' hl (I.closed l o' hl hd) i (Array.getElem?_eq_some_iff.1 R.op).1 h
    rw [R.un] at this; simp at this

theorem DInv.operand (C : Ctx P E X ops N rs B n0 bs EV SV BV) (I : DInv ops N rs n0 bs EV SV m0 s0 w0 lst c m a w) {i : Nat} {o : Oper} {r : ROp} (R : Rdy ops lst i o) (hr : rs[i]? = some r) {t : Nat} (ht : t ∈ r.names) :
    VR m ((EV i).get t) (a.tmps.getD t undef) := by
  have hil : i < rs.length := (List.getElem?_eq_some_iff.1 hr).1
  -- a writer of t ahead in the text is done; one behind is not
  have before : ∀ (l : Nat) (r' : ROp), rs[l]? = some r' → r'.dst = some t → l < i → lst l = true := by
    intro l r' hl hd hlt
    rcases okT_spec C.okT hlt hl hr with h | ⟨h, _⟩
    · exact I.aheadDone C R (C.lt hl) h
    · exact absurd ht ((touch_dst h).1 t hd)
  have behind : ∀ (l : Nat) (r' : ROp), rs[l]? = some r' → r'.dst = some t → i < l → lst l = false := by
    intro l r' hl hd hlt
    cases hh : lst l with
    | false => rfl
    | true =>
      exfalso
      obtain ⟨o', ho'⟩ := C.oper hl
      have hna := I.notAhead C R ho' hh
      rcases okT_spec C.okT hlt hr hl with h | ⟨h, _⟩
      · rw [hna] at h; simp at h
      · exact absurd ht ((touch_dst h).2 t hd)
  by_cases hex : ∃ j, j < rs.length ∧ (lst j = true ∧ ∃ r', rs[j]? = some r' ∧ r'.dst = some t)
  · obtain ⟨j, hj, ⟨hjl, r', hr', hd⟩, hmax⟩ := exists_last _ hex
    have hji : j < i := by
      rcases Nat.lt_trichotomy j i with h | h | h
      · exact h
      · subst h; rw [R.un] at hjl; simp at hjl
      · rw [behind j r' hr' hd h] at hjl; simp at hjl
    have hc : (EV i).get t = (EV (j + 1)).get t := by
      have := C.ev_const (t := t) (i - (j + 1)) (j + 1) (by omega) (fun l r'' h1 h2 h3 hd' => by
        have hll := before l r'' h3 hd' (by omega)
        exact hmax l (by omega) (List.getElem?_eq_some_iff.1 h3).1 ⟨hll, r'', h3, hd'⟩)
      rwa [show j + 1 + (i - (j + 1)) = i by omega] at this
    rw [hc]
    refine I.tmB j r' t hr' hjl hd fun l r'' h1 h2 h3 h4 => ?_
    exact hmax l h1 (List.getElem?_eq_some_iff.1 h2).1 ⟨h3, r'', h2, h4⟩
  · have hno : ∀ (l : Nat) (r' : ROp), rs[l]? = some r' → lst l = true → r'.dst ≠ some t := fun l r' h1 h2 h3 => hex ⟨l, (List.getElem?_eq_some_iff.1 h1).1, h2, r', h1, h3⟩
    have hc : (EV i).get t = (EV 0).get t := by
      have := C.ev_const (t := t) i 0 (by omega) (fun l r'' h1 h2 h3 hd' => by
        exact hno l r'' h3 (before l r'' h3 hd' (by omega)) hd')
      rwa [Nat.zero_add] at this
    rw [hc]
    exact I.tmA t hno

def lstPut (lst : Nat → Bool) (i : Nat) : Nat → Bool := fun j => if j = i then true else lst j
theorem lstPut_self (lst : Nat → Bool) (i : Nat) : lstPut lst i i = true := by simp [lstPut]
theorem lstPut_ne (lst : Nat → Bool) {i j : Nat} (h : j ≠ i) : lstPut lst i j = lst j := by simp [lstPut, h]
theorem lstPut_false {i j : Nat} (h : lstPut lst i j = false) : j ≠ i ∧ lst j = false := by
  unfold lstPut at h; split at h <;> simp_all

/-- Behind one more operation. -/
theorem DInv.step (C : Ctx P E X ops N rs B n0 bs EV SV BV) (I : DInv ops N rs n0 bs EV SV m0 s0 w0 lst c m a w) {i : Nat} {o : Oper} {r : ROp} (R : Rdy ops lst i o) (hr : rs[i]? = some r) {v : AV} {u : Value} (hev : EV (i + 1) = putO (EV i) r.dst v)
    {c' : Nat} {m' : Inj} {w' : World} (hle : m.le m') (hv : VR m' v u) (hd : dstOk N r.dst = true)
    (cur0 : c' = 0 ∨ ∃ t, c' = t + 1 ∧ lstPut lst i t = true ∧ isAt rs isEff t = true) (cur1 : ∀ t, lstPut lst i t = true → isAt rs isEff t = true → t < c')
    (sim : Sim m' (SV c') w') (goes : Goes m0 s0 w0 m' (SV c') w')
    (unl : ∀ j, isAt rs isNew j = true → lstPut lst i j = false → m' (n0 + slotOf rs j) = none ∧ (SV c')[n0 + slotOf rs j]? = bs[slotOf rs j]?) :
    DInv ops N rs n0 bs EV SV m0 s0 w0 (lstPut lst i) c' m' (a.put r.dst u) w' := by
  have tne : ∀ t, r.dst ≠ some t → (a.put r.dst u).tmps.getD t undef = a.tmps.getD t undef := by
    intro t ht
    cases hd' : r.dst with
    | none => rfl
    | some d =>
      have : d ≠ t := by intro e; subst e; exact ht hd'
      simp only [Act.put, Array.getD_eq_getD_getElem?]
      rw [Array.getElem?_setIfInBounds_ne this]
  refine ⟨?_, cur0, cur1, sim, goes, unl, ?_, ?_, by rw [put_size]; exact I.size, by rw [put_defers]; exact I.defers⟩
  · intro j o' ho' hj n hn
    by_cases hji : j = i
    · subst hji
      rw [R.op] at ho'
      cases ho'
      have := R.needs n hn
      unfold lstPut; split <;> simp_all
    · rw [lstPut_ne lst hji] at hj
      have := I.closed j o' ho' hj n hn
      unfold lstPut; split <;> simp_all
  · intro t ht
    rw [tne t (ht i r hr (lstPut_self lst i))]
    refine VR.mono hle _ _ (I.tmA t fun j r' h1 h2 => ht j r' h1 ?_)
    unfold lstPut; split <;> simp_all
  · intro j r' t hj hl hdj hmax
    by_cases hji : j = i
    · subst hji
      rw [hr] at hj
      cases hj
      rw [hev, hdj]
      simp only [putO, Env.get_put, if_true, Act.put]
      have : t < a.tmps.size := by rw [I.size]; rw [hdj] at hd; simpa [dstOk] using hd
      simp [this, hv]
    · rw [lstPut_ne lst hji] at hl
      have hne : r.dst ≠ some t := by
        intro hdi
        rcases Nat.lt_trichotomy i j with h | h | h
        · obtain ⟨o', ho'⟩ := C.oper hj
          have hna := I.notAhead C R ho' hl
          rcases okT_spec C.okT h hr hj with h' | ⟨h', _⟩
          · rw [hna] at h'; simp at h'
          · exact absurd (names_dst hdj) ((touch_dst h').1 t hdi)
        · exact hji h.symm
        · exact hmax i r h hr (lstPut_self lst i) hdi
      rw [tne t hne]
      refine VR.mono hle _ _ (I.tmB j r' t hj hl hdj fun l r'' h1 h2 h3 => hmax l r'' h1 h2 ?_)
      unfold lstPut; split <;> simp_all

theorem DInv.envOnly (C : Ctx P E X ops N rs B n0 bs EV SV BV) (I : DInv ops N rs n0 bs EV SV m0 s0 w0 lst c m a w) {i : Nat} {o : Oper} {r : ROp} (R : Rdy ops lst i o) (hr : rs[i]? = some r) : ER m ((EV i).only r.names) a := by
  intro t
  rw [Env.only_get]
  split
  · rename_i ht; exact I.operand C R hr ht
  · trivial

theorem only_same {e : Env} {l : List Nat} {t : Nat} (h : t ∈ l) : (e.only l).get t = e.get t := by rw [Env.only_get, if_pos h]

end

end Go.Ev
