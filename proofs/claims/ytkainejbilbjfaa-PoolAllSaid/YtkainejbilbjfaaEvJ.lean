import Derived.Test.YtkainejbilbjfaaEvI
/-! Code: regions, branches, loops. -/
namespace Go.Ev
set_option linter.unusedVariables false
set_option linter.unusedSimpArgs false

/-- What an operation of a region that draws its order is. -/
inductive DK where
  | pure
  | new (k : Nat)
  | ld
  | eff

/-- cl: the loads (of an effect: those ahead in the text), the effects (of a load: those ahead in the text) that are not ordered with it. fr: the slots that an effect must leave. -/
structure DOp where
  o : ROp
  kind : DK
  cl : List Nat
  fr : List Nat

inductive RC where
  | skip
  | reg (ops : List ROp)
  | drw (n : Nat) (ops : List DOp)
  | seq (a b : RC)
  | cond (c : RX) (a b : RC)
  | block (id : Nat) (c : RC)
  | loop (c : RC)
  | exit (id : Nat)
  | ret
  | fail

inductive XE where
  | nrm
  | exit (id : Nat)
  | ret

def XE.out : XE → Exit
  | .nrm => .normal
  | .exit id => .exit id
  | .ret => .ret

def newA (o : RO) (e : Env) (id : Nat) : Option (AV × Blk) :=
  match o with
  | .new zero => some (.ptr id 0, .cells true zero)
  | .box n x => (boxA n (x.ev e)).map fun cs => (.ptr id 0, .cells true cs)
  | .bsl es len zero parts => (fillA ((List.replicate len zero).flatten) (evParts e parts)).map fun cs => (.sl id 0 es len (some len), .cells true cs)
  | _ => none

abbrev DrK := List (Nat × St × St) → List (Nat × Nat) → Env → St → Prop

/-- One operation of a region that draws its order. -/
def drStep (X : Oracle) (n0 : Nat) (bs : List Blk) (d : DOp) (i : Nat) (H : List (Nat × St × St)) (L : List (Nat × Nat)) (e : Env) (s : St) (next : DrK) : Prop :=
  match d.kind with
  | .pure => ob (pureA d.o.op e) fun v => next H L (putO e d.o.dst v) s
  | .new j => ob (newA d.o.op e (n0 + j)) fun r => bs[j]? = some r.2 ∧ next H L (putO e d.o.dst r.1) s
  | .ld => match d.o.op with
    | .ld n x => match x.ev e with
      | .ptr b o => ob (ldA s n (.ptr b o)) fun v => (∀ t ∈ d.cl, ∀ p q, (t, p, q) ∈ H → p[b]? = q[b]?) ∧ next H ((i, b) :: L) (putO e d.o.dst v) s
      | _ => False
    | _ => False
  | .eff => ∃ v s', opA X d.o.op e s (fun v' s'' => v' = v ∧ s'' = s') ∧ (∀ j ∈ d.fr, s'[n0 + j]? = s[n0 + j]?) ∧ (∀ t ∈ d.cl, ∀ b, (t, b) ∈ L → s'[b]? = s[b]?) ∧
      next ((i, s, s') :: H) L (putO e d.o.dst v) s'

/-- The operations of a region that draws its order, in the order of the text. -/
def drA (X : Oracle) (n0 : Nat) (bs : List Blk) (k : Env → St → Prop) : List DOp → Nat → List (Nat × St × St) → List (Nat × Nat) → Env → St → Prop
  | [], _, _, _, e, s => k e s
  | d :: ds, i, H, L, e, s =>
    match d.o.g with
    | none => drStep X n0 bs d i H L e s fun H L e s => drA X n0 bs k ds (i + 1) H L e s
    | some (t, want) => match gv want (e.get t) with
      | some true => drStep X n0 bs d i H L e s fun H L e s => drA X n0 bs k ds (i + 1) H L e s
      | some false => drA X n0 bs k ds (i + 1) H L (putO e d.o.dst (.tup [])) s
      | none => False

def drwA (X : Oracle) (n : Nat) (ds : List DOp) (e : Env) (s : St) (k : Env → St → Prop) : Prop :=
  ∃ bs : List Blk, bs.length = n ∧ drA X s.length bs k ds 0 [] [] e (s ++ bs)

/-- What must hold for the code to come to Q. -/
def awp (X : Oracle) : RC → (XE → Env → St → Prop) → Env → St → Prop
  | .skip, Q, e, s => Q .nrm e s
  | .reg ops, Q, e, s => opsA X ops e s fun e s => Q .nrm e s
  | .drw n ds, Q, e, s => drwA X n ds e s fun e s => Q .nrm e s
  | .seq a b, Q, e, s => awp X a (fun x e s => match x with
      | .nrm => awp X b Q e s
      | .exit id => Q (.exit id) e s
      | .ret => Q .ret e s) e s
  | .cond c a b, Q, e, s => match c.ev e with
    | .bool true => awp X a Q e s
    | .bool false => awp X b Q e s
    | _ => False
  | .block id c, Q, e, s => awp X c (fun x e s => match x with
      | .nrm => Q .nrm e s
      | .exit j => if j = id then Q .nrm e s else Q (.exit j) e s
      | .ret => Q .ret e s) e s
  | .loop c, Q, e, s => ∀ I : Env → St → Prop, (∀ e s, awp X c (fun x e s => match x with
      | .nrm => I e s
      | .exit id => Q (.exit id) e s
      | .ret => Q .ret e s) e s → I e s) → I e s
  | .exit id, Q, e, s => Q (.exit id) e s
  | .ret, Q, e, s => Q .ret e s
  | .fail, _, _, _ => False

theorem opA_mono {X Y : Oracle} (hXY : ∀ f as s k, X f as s k → Y f as s k) (hY : ∀ f as s k k', (∀ v s, k v s → k' v s) → Y f as s k → Y f as s k') {o : RO} {e : Env} {s : St} {k k' : AV → St → Prop} (hk : ∀ v s, k v s → k' v s) (h : opA X o e s k) : opA Y o e s k' := by
  cases o <;> simp only [opA] at h ⊢
  case call f xs => exact hY _ _ _ _ _ hk (hXY _ _ _ _ h)
  case calld x xs =>
    split at h
    · exact hY _ _ _ _ _ hk (hXY _ _ _ _ h)
    · exact h.elim
  all_goals first
    | exact hk _ _ h
    | (obtain ⟨v, hv, hh⟩ := h; exact ⟨v, hv, hk _ _ hh⟩)

theorem opsA_mono {X Y : Oracle} (hXY : ∀ f as s k, X f as s k → Y f as s k) (hY : ∀ f as s k k', (∀ v s, k v s → k' v s) → Y f as s k → Y f as s k') : ∀ {os : List ROp} {e : Env} {s : St} {k k' : Env → St → Prop}, (∀ e s, k e s → k' e s) → opsA X os e s k → opsA Y os e s k'
  | [], e, s, k, k', hk, h => hk _ _ h
  | o :: os, e, s, k, k', hk, h => by
    simp only [opsA] at h ⊢
    split at h
    · exact opA_mono hXY hY (fun v s => opsA_mono hXY hY hk) h
    · split at h
      · exact opA_mono hXY hY (fun v s => opsA_mono hXY hY hk) h
      · exact opsA_mono hXY hY hk h
      · exact h.elim

theorem drStep_mono {X Y : Oracle} (hXY : ∀ f as s k, X f as s k → Y f as s k) (hY : ∀ f as s k k', (∀ v s, k v s → k' v s) → Y f as s k → Y f as s k') {n0 : Nat} {bs : List Blk} {d : DOp} {i : Nat} {H : List (Nat × St × St)} {L : List (Nat × Nat)} {e : Env} {s : St} {next next' : DrK}
    (hn : ∀ H L e s, next H L e s → next' H L e s) (h : drStep X n0 bs d i H L e s next) : drStep Y n0 bs d i H L e s next' := by
  obtain ⟨o, kind, cl, fr⟩ := d
  unfold drStep at h ⊢
  cases kind with
  | pure => obtain ⟨v, hv, hh⟩ := h; exact ⟨v, hv, hn _ _ _ _ hh⟩
  | new j => obtain ⟨v, hv, h1, hh⟩ := h; exact ⟨v, hv, h1, hn _ _ _ _ hh⟩
  | ld =>
    simp only at h ⊢
    split at h
    · split at h
      · obtain ⟨v, hv, h1, hh⟩ := h
        exact ⟨v, hv, h1, hn _ _ _ _ hh⟩
      · exact h.elim
    · exact h.elim
  | eff => obtain ⟨v, s', h1, h2, h3, hh⟩ := h; exact ⟨v, s', opA_mono hXY hY (fun _ _ h => h) h1, h2, h3, hn _ _ _ _ hh⟩

theorem drA_mono {X Y : Oracle} (hXY : ∀ f as s k, X f as s k → Y f as s k) (hY : ∀ f as s k k', (∀ v s, k v s → k' v s) → Y f as s k → Y f as s k') {n0 : Nat} {bs : List Blk} {k k' : Env → St → Prop} (hk : ∀ e s, k e s → k' e s) :
    ∀ {ds : List DOp} {i : Nat} {H : List (Nat × St × St)} {L : List (Nat × Nat)} {e : Env} {s : St}, drA X n0 bs k ds i H L e s → drA Y n0 bs k' ds i H L e s
  | [], i, H, L, e, s, h => hk _ _ h
  | d :: ds, i, H, L, e, s, h => by
    simp only [drA] at h ⊢
    split at h
    · exact drStep_mono hXY hY (fun _ _ _ _ => drA_mono hXY hY hk) h
    · split at h
      · exact drStep_mono hXY hY (fun _ _ _ _ => drA_mono hXY hY hk) h
      · exact drA_mono hXY hY hk h
      · exact h.elim

theorem awp_mono {X Y : Oracle} (hXY : ∀ f as s k, X f as s k → Y f as s k) (hY : ∀ f as s k k', (∀ v s, k v s → k' v s) → Y f as s k → Y f as s k') : ∀ (c : RC) {Q Q' : XE → Env → St → Prop} {e : Env} {s : St}, (∀ x e s, Q x e s → Q' x e s) → awp X c Q e s → awp Y c Q' e s
  | .skip, Q, Q', e, s, hQ, h => hQ _ _ _ h
  | .reg ops, Q, Q', e, s, hQ, h => opsA_mono hXY hY (fun _ _ => hQ _ _ _) h
  | .drw n ds, Q, Q', e, s, hQ, ⟨bs, hn, h⟩ => ⟨bs, hn, drA_mono hXY hY (fun _ _ => hQ _ _ _) h⟩
  | .seq a b, Q, Q', e, s, hQ, h => awp_mono hXY hY a (fun x e s hx => by
      cases x with
      | nrm => exact awp_mono hXY hY b hQ hx
      | exit id => exact hQ _ _ _ hx
      | ret => exact hQ _ _ _ hx) h
  | .cond c a b, Q, Q', e, s, hQ, h => by
      simp only [awp] at h ⊢
      split at h
      · exact awp_mono hXY hY a hQ h
      · exact awp_mono hXY hY b hQ h
      · exact h.elim
  | .block id c, Q, Q', e, s, hQ, h => awp_mono hXY hY c (fun x e s hx => by
      cases x with
      | nrm => exact hQ _ _ _ hx
      | exit j =>
        simp only at hx ⊢
        split at hx
        · rename_i hj; rw [if_pos hj]; exact hQ _ _ _ hx
        · rename_i hj; rw [if_neg hj]; exact hQ _ _ _ hx
      | ret => exact hQ _ _ _ hx) h
  | .loop c, Q, Q', e, s, hQ, h => fun I hI => h I fun e s hr => hI e s (awp_mono hXY hY c (fun x e s hx => by
      cases x with
      | nrm => exact hx
      | exit j => exact hQ _ _ _ hx
      | ret => exact hQ _ _ _ hx) hr)
  | .exit id, Q, Q', e, s, hQ, h => hQ _ _ _ h
  | .ret, Q, Q', e, s, hQ, h => hQ _ _ _ h
  | .fail, Q, Q', e, s, hQ, h => h

end Go.Ev
