import Derived.Test.YtkainejbilbjfaaEvJ
/-! Regions that draw their order: what is asked of them, and their trace. -/
namespace Go.Ev
set_option linter.unusedVariables false
set_option linter.unusedSimpArgs false

def RX.temps : RX → List Nat
  | .t n => [n]
  | .k _ => []
def xsT : List RX → List Nat
  | [] => []
  | x :: xs => x.temps ++ xsT xs
def partsT : List (Nat × Nat × RX) → List Nat
  | [] => []
  | (_, _, x) :: xs => x.temps ++ partsT xs
def optT : Option RX → List Nat
  | none => []
  | some x => x.temps

def RO.temps : RO → List Nat
  | .mv x | .box _ x | .ld _ x | .nck x | .un _ x | .cvi _ x | .cvs x | .off _ x | .fld _ _ x | .ext _ x | .lenl x | .lens x | .capl x | .mki _ x => x.temps
  | .pick c a b | .add64 c a b | .sub64 c a b => c.temps ++ a.temps ++ b.temps
  | .new _ | .fail => []
  | .bld _ ps | .bsl _ _ _ ps => partsT ps
  | .st _ x y | .bin _ x y | .eq _ _ x y | .ixa _ x y | .ixp _ _ x y | .ixv _ _ _ x y | .ixs x y | .app _ _ x y | .appz _ _ _ x y | .mks _ _ _ x y => x.temps ++ y.temps
  | .slc _ x a b c => x.temps ++ optT a ++ optT b ++ optT c
  | .sls x a b => x.temps ++ optT a ++ optT b
  | .mkf _ xs | .call _ xs => xsT xs
  | .calld x xs => x.temps ++ xsT xs

section
variable {e e' : Env}
theorem RX.ev_congr {x : RX} (h : ∀ t ∈ x.temps, e.get t = e'.get t) : x.ev e = x.ev e' := by
  cases x with
  | t n => exact h n (by simp [RX.temps])
  | k a => rfl
theorem evs_congr : ∀ {xs : List RX}, (∀ t ∈ xsT xs, e.get t = e'.get t) → evs e xs = evs e' xs
  | [], _ => rfl
  | x :: xs, h => by
    simp only [evs]
    rw [RX.ev_congr fun t ht => h t (by simp [xsT, ht]), evs_congr fun t ht => h t (by simp [xsT, ht])]
theorem evParts_congr : ∀ {xs : List (Nat × Nat × RX)}, (∀ t ∈ partsT xs, e.get t = e'.get t) → evParts e xs = evParts e' xs
  | [], _ => rfl
  | (o, s, x) :: xs, h => by
    simp only [evParts]
    rw [RX.ev_congr fun t ht => h t (by simp [partsT, ht]), evParts_congr fun t ht => h t (by simp [partsT, ht])]
theorem optX_congr : ∀ {x : Option RX}, (∀ t ∈ optT x, e.get t = e'.get t) → optX e x = optX e' x
  | none, _ => rfl
  | some x, h => by simp only [optX]; rw [RX.ev_congr h]

theorem pureA_congr {o : RO} (h : ∀ t ∈ o.temps, e.get t = e'.get t) : pureA o e = pureA o e' := by
  cases o <;> simp only [RO.temps] at h <;> simp only [pureA]
  all_goals first
    | rfl
    | rw [RX.ev_congr h]
    | (rw [RX.ev_congr fun t ht => h t (List.mem_append_left _ ht), RX.ev_congr fun t ht => h t (List.mem_append_right _ ht)]; done)
    | (rename_i c a b
       rw [RX.ev_congr (x := c) fun t ht => h t (by simp [ht]), RX.ev_congr (x := a) fun t ht => h t (by simp [ht]), RX.ev_congr (x := b) fun t ht => h t (by simp [ht])]; done)
    | (rw [evParts_congr h]; done)
    | (rw [evs_congr h]; done)
    | (rename_i k x a b c
       rw [RX.ev_congr (x := x) fun t ht => h t (by simp [ht]), optX_congr (x := a) fun t ht => h t (by simp [ht]), optX_congr (x := b) fun t ht => h t (by simp [ht]), optX_congr (x := c) fun t ht => h t (by simp [ht])]; done)
    | (rename_i x a b
       rw [RX.ev_congr (x := x) fun t ht => h t (by simp [ht]), optX_congr (x := a) fun t ht => h t (by simp [ht]), optX_congr (x := b) fun t ht => h t (by simp [ht])]; done)

theorem opA_congr {X : Oracle} {o : RO} {s : St} {k : AV → St → Prop} (h : ∀ t ∈ o.temps, e.get t = e'.get t) : opA X o e s k = opA X o e' s k := by
  by_cases hp : o.isPure = true
  · have : ∀ e : Env, opA X o e s k = ob (pureA o e) fun v => k v s := by
      intro e; cases o <;> simp [RO.isPure] at hp <;> rfl
    rw [this, this, pureA_congr h]
  · cases o <;> simp [RO.isPure] at hp <;> simp only [RO.temps] at h <;> simp only [opA]
    all_goals first
      | rfl
      | (rw [RX.ev_congr h]; done)
      | (rw [RX.ev_congr fun t ht => h t (List.mem_append_left _ ht), RX.ev_congr fun t ht => h t (List.mem_append_right _ ht)]; done)
      | (rw [evParts_congr h]; done)
      | (rw [evs_congr h]; done)
      | (rename_i x xs
         rw [RX.ev_congr (x := x) fun t ht => h t (by simp [ht]), evs_congr (xs := xs) fun t ht => h t (by simp [ht])]; done)

theorem newA_congr {o : RO} {id : Nat} (h : ∀ t ∈ o.temps, e.get t = e'.get t) : newA o e id = newA o e' id := by
  cases o <;> simp only [RO.temps] at h <;> simp only [newA]
  · rw [RX.ev_congr h]
  · rw [evParts_congr h]
end

/-- An environment of some temporaries alone. -/
def Env.only (e : Env) : List Nat → Env
  | [] => []
  | t :: l => (Env.only e l).put t (e.get t)

theorem Env.only_get (e : Env) : ∀ (l : List Nat) (t : Nat), (e.only l).get t = if t ∈ l then e.get t else .undef
  | [], t => by simp [Env.only, Env.get]
  | u :: l, t => by
    simp only [Env.only, Env.get_put, Env.only_get e l t]
    by_cases h : t = u
    · subst h; simp
    · simp [h]

def needsOf (o : Oper) : List Nat := (o.after.toList.filter fun e => Region.binds .any e).map (·.on)

/-- Which operations are ahead of each, as bits. -/
def befs (ops : List Oper) : List Nat := ops.foldl (fun acc o => acc ++ [(needsOf o).foldl (fun s n => s ||| 2 ^ n ||| acc.getD n 0) 0]) []

def ahead (B : List Nat) (j i : Nat) : Bool := (B.getD j 0).testBit i

def isNew : RO → Bool
  | .new _ | .box _ _ | .bsl _ _ _ _ => true
  | _ => false
def isLd : RO → Bool
  | .ld _ _ => true
  | _ => false
def isEff (o : RO) : Bool := !o.isPure && !isNew o && !isLd o

def ROp.names (r : ROp) : List Nat := r.op.temps ++ (match r.g with | some (t, _) => [t] | none => []) ++ r.dst.toList

def touch (a b : ROp) : Bool := (match a.dst with | some d => b.names.contains d | none => false) || (match b.dst with | some d => a.names.contains d | none => false)

def okB (ops : List Oper) (B : List Nat) : Bool :=
  (List.range ops.length).all fun j => match ops[j]? with
    | none => true
    | some o => (needsOf o).all (fun n => n < j) && (List.range ops.length).all fun i => !ahead B j i || (needsOf o).any fun n => n == i || ahead B n i

def okT (rs : List ROp) (B : List Nat) : Bool :=
  (List.range rs.length).all fun j => (List.range j).all fun i => match rs[i]?, rs[j]? with
    | some a, some b => ahead B j i || !(touch a b || (isEff a.op && isEff b.op))
    | _, _ => true

def slotOf (rs : List ROp) (i : Nat) : Nat := ((rs.take i).filter fun r => isNew r.op).length

def isAt (rs : List ROp) (p : RO → Bool) (i : Nat) : Bool := match rs[i]? with | some r => p r.op | none => false

def mkD (rs : List ROp) (B : List Nat) (i : Nat) (r : ROp) : DOp :=
  { o := r
    kind := if r.op.isPure then .pure else if isNew r.op then .new (slotOf rs i) else if isLd r.op then .ld else .eff
    cl := (List.range i).filter fun j => !ahead B i j && (if isLd r.op then isAt rs isEff j else isAt rs isLd j)
    fr := if isEff r.op then ((List.range rs.length).filter fun j => isAt rs isNew j && !ahead B i j).map (slotOf rs) else [] }

section
variable {X : Oracle} {n0 : Nat} {bs : List Blk}

def RunStep (X : Oracle) (n0 : Nat) (bs : List Blk) (EV : Nat → Env) (SV : Nat → St) (BV : Nat → Option Nat) (i : Nat) (d : DOp) : Prop :=
  match d.kind with
  | .pure => ∃ v, pureA d.o.op (EV i) = some v ∧ EV (i + 1) = putO (EV i) d.o.dst v ∧ SV (i + 1) = SV i
  | .new j => ∃ r, newA d.o.op (EV i) (n0 + j) = some r ∧ bs[j]? = some r.2 ∧ EV (i + 1) = putO (EV i) d.o.dst r.1 ∧ SV (i + 1) = SV i
  | .ld => ∃ n x b o v, d.o.op = .ld n x ∧ x.ev (EV i) = .ptr b o ∧ ldA (SV i) n (.ptr b o) = some v ∧ EV (i + 1) = putO (EV i) d.o.dst v ∧ SV (i + 1) = SV i ∧ BV i = some b ∧ ∀ t ∈ d.cl, t < i → (SV t)[b]? = (SV (t + 1))[b]?
  | .eff => ∃ v, opA X d.o.op (EV i) (SV i) (fun v' s'' => v' = v ∧ s'' = SV (i + 1)) ∧ EV (i + 1) = putO (EV i) d.o.dst v ∧ (∀ j ∈ d.fr, (SV (i + 1))[n0 + j]? = (SV i)[n0 + j]?) ∧
      (∀ t ∈ d.cl, t < i → ∀ b, BV t = some b → (SV (i + 1))[b]? = (SV i)[b]?)

def TrStep (X : Oracle) (n0 : Nat) (bs : List Blk) (EV : Nat → Env) (SV : Nat → St) (BV : Nat → Option Nat) (i : Nat) (d : DOp) : Prop :=
  (∃ t want b, d.o.g = some (t, want) ∧ gv want ((EV i).get t) = some b ∧ b ≠ true ∧ EV (i + 1) = putO (EV i) d.o.dst (.tup []) ∧ SV (i + 1) = SV i ∧ BV i = none) ∨
  ((d.o.g = none ∨ ∃ t want, d.o.g = some (t, want) ∧ gv want ((EV i).get t) = some true) ∧ RunStep X n0 bs EV SV BV i d)

theorem RunStep.congr {EV EV' : Nat → Env} {SV SV' : Nat → St} {BV BV' : Nat → Option Nat} {i : Nat} {d : DOp} (hE : ∀ t, t ≤ i + 1 → EV' t = EV t) (hS : ∀ t, t ≤ i + 1 → SV' t = SV t) (hB : ∀ t, t ≤ i → BV' t = BV t) (h : RunStep X n0 bs EV SV BV i d) : RunStep X n0 bs EV' SV' BV' i d := by
  unfold RunStep at h ⊢
  rw [hE i (by omega), hE (i + 1) (by omega), hS i (by omega), hS (i + 1) (by omega), hB i (by omega)]
  generalize d.kind = kd at h ⊢
  cases kd with
  | pure => exact h
  | new j => exact h
  | ld =>
    obtain ⟨n, x, b, o, v, h1, h2, h3, h4, h5, h6, h7⟩ := h
    exact ⟨n, x, b, o, v, h1, h2, h3, h4, h5, h6, fun t ht hlt => by rw [hS t (by omega), hS (t + 1) (by omega)]; exact h7 t ht hlt⟩
  | eff =>
    obtain ⟨v, h1, h2, h3, h4⟩ := h
    exact ⟨v, h1, h2, h3, fun t ht hlt b hb => h4 t ht hlt b (by rw [← hB t (by omega)]; exact hb)⟩

theorem TrStep.congr {EV EV' : Nat → Env} {SV SV' : Nat → St} {BV BV' : Nat → Option Nat} {i : Nat} {d : DOp} (hE : ∀ t, t ≤ i + 1 → EV' t = EV t) (hS : ∀ t, t ≤ i + 1 → SV' t = SV t) (hB : ∀ t, t ≤ i → BV' t = BV t) (h : TrStep X n0 bs EV SV BV i d) : TrStep X n0 bs EV' SV' BV' i d := by
  unfold TrStep at h ⊢
  rcases h with ⟨t, want, b, h1, h2, h3, h4, h5, h6⟩ | ⟨h1, h2⟩
  · left
    exact ⟨t, want, b, h1, by rw [hE i (by omega)]; exact h2, h3, by rw [hE i (by omega), hE (i + 1) (by omega)]; exact h4, by rw [hS i (by omega), hS (i + 1) (by omega)]; exact h5, by rw [hB i (by omega)]; exact h6⟩
  · right
    refine ⟨?_, RunStep.congr hE hS hB h2⟩
    rw [hE i (by omega)]
    exact h1

def upd {α : Type} (f : Nat → α) (i : Nat) (v : α) : Nat → α := fun j => if j = i then v else f j
theorem upd_self {α : Type} (f : Nat → α) (i : Nat) (v : α) : upd f i v i = v := by simp [upd]
theorem upd_ne {α : Type} (f : Nat → α) {i j : Nat} (v : α) (h : j ≠ i) : upd f i v j = f j := by simp [upd, h]

theorem dr_trace {k : Env → St → Prop} : ∀ (ds : List DOp) (i : Nat) (H : List (Nat × St × St)) (L : List (Nat × Nat)) (EV0 : Nat → Env) (SV0 : Nat → St) (BV0 : Nat → Option Nat),
    drA X n0 bs k ds i H L (EV0 i) (SV0 i) → (∀ t, t < i → SV0 t = SV0 (t + 1) ∨ (t, SV0 t, SV0 (t + 1)) ∈ H) → (∀ t, t < i → ∀ b, BV0 t = some b → (t, b) ∈ L) →
    ∃ EV SV BV, (∀ t, t ≤ i → EV t = EV0 t) ∧ (∀ t, t ≤ i → SV t = SV0 t) ∧ (∀ t, t < i → BV t = BV0 t) ∧ (∀ j d, ds[j]? = some d → TrStep X n0 bs EV SV BV (i + j) d) ∧ k (EV (i + ds.length)) (SV (i + ds.length))
  | [], i, H, L, EV0, SV0, BV0, h, hH, hL => ⟨EV0, SV0, BV0, fun _ _ => rfl, fun _ _ => rfl, fun _ _ => rfl, by simp, h⟩
  | d :: ds, i, H, L, EV0, SV0, BV0, h, hH, hL => by
    -- how it goes on from a step
    have cont : ∀ (e' : Env) (s' : St) (ob : Option Nat) (H' : List (Nat × St × St)) (L' : List (Nat × Nat)), drA X n0 bs k ds (i + 1) H' L' e' s' →
        (SV0 i = s' ∨ (i, SV0 i, s') ∈ H') → (∀ x ∈ H, x ∈ H') → (∀ b, ob = some b → (i, b) ∈ L') → (∀ x ∈ L, x ∈ L') →
        TrStep X n0 bs (upd EV0 (i + 1) e') (upd SV0 (i + 1) s') (upd BV0 i ob) i d →
        ∃ EV SV BV, (∀ t, t ≤ i → EV t = EV0 t) ∧ (∀ t, t ≤ i → SV t = SV0 t) ∧ (∀ t, t < i → BV t = BV0 t) ∧ (∀ j d', (d :: ds)[j]? = some d' → TrStep X n0 bs EV SV BV (i + j) d') ∧ k (EV (i + (d :: ds).length)) (SV (i + (d :: ds).length)) := by
      intro e' s' ob H' L' hd h1 h2 h3 h4 hst
      obtain ⟨EV, SV, BV, a1, a2, a3, a4, a5⟩ := dr_trace ds (i + 1) H' L' (upd EV0 (i + 1) e') (upd SV0 (i + 1) s') (upd BV0 i ob) (by rw [upd_self, upd_self]; exact hd)
        (by
          intro t ht
          rw [upd_ne SV0 _ (by omega)]
          by_cases hti : t = i
          · subst hti; rw [upd_self]; exact h1
          · rw [upd_ne SV0 _ (by omega)]
            rcases hH t (by omega) with e | e
            · exact .inl e
            · exact .inr (h2 _ e))
        (by
          intro t ht b hb
          by_cases hti : t = i
          · subst hti; rw [upd_self] at hb; exact h3 b hb
          · rw [upd_ne BV0 _ hti] at hb; exact h4 _ (hL t (by omega) b hb))
      refine ⟨EV, SV, BV, fun t ht => ?_, fun t ht => ?_, fun t ht => ?_, ?_, ?_⟩
      · rw [a1 t (by omega), upd_ne EV0 _ (by omega)]
      · rw [a2 t (by omega), upd_ne SV0 _ (by omega)]
      · rw [a3 t (by omega), upd_ne BV0 _ (by omega)]
      · intro j d' hj
        cases j with
        | zero =>
          simp at hj
          subst hj
          exact TrStep.congr (fun t ht => a1 t (by omega)) (fun t ht => a2 t (by omega)) (fun t ht => a3 t (by omega)) hst
        | succ j =>
          have := a4 j d' (by simpa using hj)
          rw [show i + (j + 1) = i + 1 + j by omega]
          exact this
      · rw [show i + (d :: ds).length = i + 1 + ds.length by simp; omega]; exact a5
    have hEi : ∀ e', upd EV0 (i + 1) e' i = EV0 i := fun e' => upd_ne EV0 _ (by omega)
    have hSi : ∀ s', upd SV0 (i + 1) s' i = SV0 i := fun s' => upd_ne SV0 _ (by omega)
    -- a step that is run
    have runs : drStep X n0 bs d i H L (EV0 i) (SV0 i) (fun H L e s => drA X n0 bs k ds (i + 1) H L e s) → (d.o.g = none ∨ ∃ t want, d.o.g = some (t, want) ∧ gv want ((EV0 i).get t) = some true) →
        ∃ EV SV BV, (∀ t, t ≤ i → EV t = EV0 t) ∧ (∀ t, t ≤ i → SV t = SV0 t) ∧ (∀ t, t < i → BV t = BV0 t) ∧ (∀ j d', (d :: ds)[j]? = some d' → TrStep X n0 bs EV SV BV (i + j) d') ∧ k (EV (i + (d :: ds).length)) (SV (i + (d :: ds).length)) := by
      intro hr hg
      have fin : ∀ (e' : Env) (s' : St) (ob : Option Nat), RunStep X n0 bs (upd EV0 (i + 1) e') (upd SV0 (i + 1) s') (upd BV0 i ob) i d → TrStep X n0 bs (upd EV0 (i + 1) e') (upd SV0 (i + 1) s') (upd BV0 i ob) i d :=
        fun e' s' ob hh => .inr ⟨by rw [hEi]; exact hg, hh⟩
      unfold drStep at hr
      cases hk : d.kind with
      | pure =>
        rw [hk] at hr
        obtain ⟨v, hv, hn⟩ := hr
        refine cont _ _ none H L hn (.inl rfl) (fun _ h => h) (by simp) (fun _ h => h) (fin _ _ _ ?_)
        unfold RunStep
        rw [hk]
        exact ⟨v, by rw [hEi]; exact hv, by rw [hEi, upd_self], by rw [hSi, upd_self]⟩
      | new j =>
        rw [hk] at hr
        obtain ⟨r, hv, h1, hn⟩ := hr
        refine cont _ _ none H L hn (.inl rfl) (fun _ h => h) (by simp) (fun _ h => h) (fin _ _ _ ?_)
        unfold RunStep
        rw [hk]
        exact ⟨r, by rw [hEi]; exact hv, h1, by rw [hEi, upd_self], by rw [hSi, upd_self]⟩
      | ld =>
        rw [hk] at hr
        simp only at hr
        split at hr
        · rename_i n x hop
          split at hr
          · rename_i b o hx
            obtain ⟨v, hv, h1, hn⟩ := hr
            refine cont _ _ (some b) H ((i, b) :: L) hn (.inl rfl) (fun _ h => h) (by simp) (fun _ h => by simp [h]) (fin _ _ _ ?_)
            unfold RunStep
            rw [hk]
            refine ⟨n, x, b, o, v, hop, by rw [hEi]; exact hx, by rw [hSi]; exact hv, by rw [hEi, upd_self], by rw [hSi, upd_self], by rw [upd_self], fun t ht hlt => ?_⟩
            rw [upd_ne SV0 _ (by omega), upd_ne SV0 _ (by omega)]
            rcases hH t hlt with e | e
            · rw [← e]
            · exact h1 t ht _ _ e
          · exact hr.elim
        · exact hr.elim
      | eff =>
        rw [hk] at hr
        obtain ⟨v, s', h1, h2, h3, hn⟩ := hr
        refine cont _ _ none ((i, SV0 i, s') :: H) L hn (.inr (by simp)) (fun _ h => by simp [h]) (by simp) (fun _ h => h) (fin _ _ _ ?_)
        unfold RunStep
        rw [hk]
        refine ⟨v, ?_, by rw [hEi, upd_self], by rw [hSi, upd_self]; exact h2, fun t ht hlt b hb => ?_⟩
        · rw [hEi, hSi, upd_self]; exact h1
        · rw [hSi, upd_self]
          rw [upd_ne BV0 _ (by omega)] at hb
          exact h3 t ht b (hL t hlt b hb)
    simp only [drA] at h
    split at h
    · rename_i hg
      exact runs h (.inl hg)
    · rename_i t want hg
      split at h
      · rename_i hb
        exact runs h (.inr ⟨t, _, hg, hb⟩)
      · rename_i hb
        refine cont _ _ none H L h (.inl rfl) (fun _ h => h) (by simp) (fun _ h => h) (.inl ⟨t, want, false, hg, by rw [hEi]; exact hb, by decide, by rw [hEi, upd_self], by rw [hSi, upd_self], by rw [upd_self]⟩)
      · exact h.elim
end

end Go.Ev
