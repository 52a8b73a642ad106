import Derived.Test.YtkainejbilbjfaaEvT
/-! A call comes to one end: what is known of it is known of that end. -/
namespace Go.Ev
set_option linter.unusedVariables false
set_option linter.unusedSimpArgs false

def DetX (Z X : Oracle) : Prop := ∀ f as s k, Z f as s k → ∃ v s', k v s' ∧ X f as s fun a t => a = v ∧ t = s'
variable {Z X : Oracle}

theorem opA_det (hD : DetX Z X) {o : RO} {e : Env} {s : St} {k : AV → St → Prop} (h : opA Z o e s k) : ∃ v s', k v s' ∧ opA X o e s fun a t => a = v ∧ t = s' := by
  cases o <;> simp only [opA] at h ⊢
  case call f xs => exact hD _ _ _ _ h
  case calld x xs =>
    split at h
    · exact hD _ _ _ _ h
    · exact h.elim
  all_goals first
    | exact ⟨_, _, h, rfl, rfl⟩
    | (obtain ⟨v, hv, hk⟩ := h; exact ⟨_, _, hk, v, hv, rfl, rfl⟩)

theorem opsA_det (hD : DetX Z X) (hX : MonoX X) : ∀ {os : List ROp} {e : Env} {s : St} {k : Env → St → Prop}, opsA Z os e s k → ∃ e' s', k e' s' ∧ opsA X os e s fun a t => a = e' ∧ t = s'
  | [], e, s, k, h => ⟨e, s, h, rfl, rfl⟩
  | o :: os, e, s, k, h => by
    have go : ∀ (h : opA Z o.op e s fun v s' => opsA Z os (putO e o.dst v) s' k), ∃ e' s', k e' s' ∧ opA X o.op e s fun v s1 => opsA X os (putO e o.dst v) s1 fun a t => a = e' ∧ t = s' := fun h => by
      obtain ⟨v, s1, h1, h2⟩ := opA_det hD h
      obtain ⟨e', s', h3, h4⟩ := opsA_det hD hX h1
      exact ⟨e', s', h3, opA_mono (fun _ _ _ _ h => h) hX (fun a t h => by obtain ⟨rfl, rfl⟩ := h; exact h4) h2⟩
    simp only [opsA] at h ⊢
    cases hg : o.g with
    | none => rw [hg] at h; exact go h
    | some g =>
      obtain ⟨t, w⟩ := g
      rw [hg] at h
      simp only at h ⊢
      cases hv : gv w (e.get t) with
      | none => rw [hv] at h; exact h.elim
      | some b =>
        cases b with
        | true => rw [hv] at h; exact go h
        | false => rw [hv] at h; exact opsA_det hD hX h

theorem drStep_det (hD : DetX Z X) {n0 : Nat} {bs : List Blk} {d : DOp} {i : Nat} {H : List (Nat × St × St)} {L : List (Nat × Nat)} {e : Env} {s : St} {next : DrK} (h : drStep Z n0 bs d i H L e s next) :
    ∃ H' L' e' s', next H' L' e' s' ∧ ∀ next' : DrK, next' H' L' e' s' → drStep X n0 bs d i H L e s next' := by
  unfold drStep at h ⊢
  split at h
  · obtain ⟨v, hv, hk⟩ := h; exact ⟨_, _, _, _, hk, fun n' hn => ⟨v, hv, hn⟩⟩
  · obtain ⟨r, hv, hb, hk⟩ := h; exact ⟨_, _, _, _, hk, fun n' hn => ⟨r, hv, hb, hn⟩⟩
  · split at h
    · split at h
      · obtain ⟨v, hv, hb, hk⟩ := h
        exact ⟨_, _, _, _, hk, fun n' hn => ⟨v, hv, hb, hn⟩⟩
      · exact h.elim
    · exact h.elim
  · obtain ⟨v, s', ho, h1, h2, hk⟩ := h
    obtain ⟨v2, s2, ⟨rfl, rfl⟩, ho'⟩ := opA_det hD ho
    exact ⟨_, _, _, _, hk, fun n' hn => ⟨v2, s2, ho', h1, h2, hn⟩⟩

theorem drA_det (hD : DetX Z X) {n0 : Nat} {bs : List Blk} {k : Env → St → Prop} : ∀ {ds : List DOp} {i : Nat} {H : List (Nat × St × St)} {L : List (Nat × Nat)} {e : Env} {s : St}, drA Z n0 bs k ds i H L e s → ∃ e' s', k e' s' ∧ drA X n0 bs (fun a t => a = e' ∧ t = s') ds i H L e s
  | [], i, H, L, e, s, h => ⟨e, s, h, rfl, rfl⟩
  | d :: ds, i, H, L, e, s, h => by
    have go : ∀ (h : drStep Z n0 bs d i H L e s fun H L e s => drA Z n0 bs k ds (i + 1) H L e s), ∃ e' s', k e' s' ∧ drStep X n0 bs d i H L e s fun H L e s => drA X n0 bs (fun a t => a = e' ∧ t = s') ds (i + 1) H L e s := fun h => by
      obtain ⟨H', L', e1, s1, h1, h2⟩ := drStep_det hD h
      obtain ⟨e', s', h3, h4⟩ := drA_det hD h1
      exact ⟨e', s', h3, h2 _ h4⟩
    simp only [drA] at h ⊢
    cases hg : d.o.g with
    | none => rw [hg] at h; exact go h
    | some g =>
      obtain ⟨t, w⟩ := g
      rw [hg] at h
      simp only at h ⊢
      cases hv : gv w (e.get t) with
      | none => rw [hv] at h; exact h.elim
      | some b =>
        cases b with
        | true => rw [hv] at h; exact go h
        | false => rw [hv] at h; exact drA_det hD h

theorem awp_det (hD : DetX Z X) (hX : MonoX X) : ∀ (c : RC) {Q : XE → Env → St → Prop} {e : Env} {s : St}, awp Z c Q e s → ∃ x e' s', Q x e' s' ∧ awp X c (fun y a t => y = x ∧ a = e' ∧ t = s') e s
  | .skip, Q, e, s, h => ⟨_, _, _, h, rfl, rfl, rfl⟩
  | .reg ops, Q, e, s, h => by
    obtain ⟨e', s', h1, h2⟩ := opsA_det hD hX (show opsA Z ops e s fun e s => Q .nrm e s from h)
    exact ⟨.nrm, e', s', h1, opsA_mono (fun _ _ _ _ h => h) hX (fun a t h => ⟨rfl, h⟩) h2⟩
  | .drw n ds, Q, e, s, h => by
    obtain ⟨bs, hb, h⟩ := h
    obtain ⟨e', s', h1, h2⟩ := drA_det hD h
    refine ⟨.nrm, e', s', h1, bs, hb, ?_⟩
    have : (fun (a : Env) (t : St) => a = e' ∧ t = s') = fun a t => (XE.nrm = XE.nrm) ∧ a = e' ∧ t = s' := by funext a t; simp
    rw [this] at h2
    exact h2
  | .seq a b, Q, e, s, h => by
    obtain ⟨x1, e1, s1, h1, h2⟩ := awp_det hD hX a (show awp Z a _ e s from h)
    cases x1 with
    | nrm =>
      obtain ⟨x, e', s', h3, h4⟩ := awp_det hD hX b (show awp Z b Q e1 s1 from h1)
      refine ⟨x, e', s', h3, awp_mono (fun _ _ _ _ h => h) hX a ?_ h2⟩
      rintro y a t ⟨rfl, rfl, rfl⟩; exact h4
    | exit id =>
      refine ⟨_, e1, s1, h1, awp_mono (fun _ _ _ _ h => h) hX a ?_ h2⟩
      rintro y a t ⟨rfl, rfl, rfl⟩; exact ⟨rfl, rfl, rfl⟩
    | ret =>
      refine ⟨_, e1, s1, h1, awp_mono (fun _ _ _ _ h => h) hX a ?_ h2⟩
      rintro y a t ⟨rfl, rfl, rfl⟩; exact ⟨rfl, rfl, rfl⟩
  | .cond c a b, Q, e, s, h => by
    unfold awp at h
    split at h
    · rename_i hc
      obtain ⟨x, e', s', h1, h2⟩ := awp_det hD hX a h
      refine ⟨x, e', s', h1, ?_⟩
      unfold awp; rw [hc]; exact h2
    · rename_i hc
      obtain ⟨x, e', s', h1, h2⟩ := awp_det hD hX b h
      refine ⟨x, e', s', h1, ?_⟩
      unfold awp; rw [hc]; exact h2
    · exact h.elim
  | .block id c, Q, e, s, h => by
    obtain ⟨x1, e1, s1, h1, h2⟩ := awp_det hD hX c (show awp Z c _ e s from h)
    cases x1 with
    | nrm =>
      refine ⟨.nrm, e1, s1, h1, awp_mono (fun _ _ _ _ h => h) hX c ?_ h2⟩
      rintro y a t ⟨rfl, rfl, rfl⟩; exact ⟨rfl, rfl, rfl⟩
    | exit j =>
      by_cases hj : j = id
      · simp only [hj, if_true] at h1
        refine ⟨.nrm, e1, s1, h1, awp_mono (fun _ _ _ _ h => h) hX c ?_ h2⟩
        rintro y a t ⟨rfl, rfl, rfl⟩; simp [hj]
      · simp only [hj, if_false] at h1
        refine ⟨.exit j, e1, s1, h1, awp_mono (fun _ _ _ _ h => h) hX c ?_ h2⟩
        rintro y a t ⟨rfl, rfl, rfl⟩; simp [hj]
    | ret =>
      refine ⟨_, e1, s1, h1, awp_mono (fun _ _ _ _ h => h) hX c ?_ h2⟩
      rintro y a t ⟨rfl, rfl, rfl⟩; exact ⟨rfl, rfl, rfl⟩
  | .loop c, Q, e, s, h => by
    refine h (fun e s => ∃ x e' s', Q x e' s' ∧ awp X (.loop c) (fun y a t => y = x ∧ a = e' ∧ t = s') e s) ?_
    intro e s hr
    obtain ⟨x1, e1, s1, h1, h2⟩ := awp_det hD hX c hr
    cases x1 with
    | nrm =>
      obtain ⟨x, e', s', h3, h4⟩ := h1
      refine ⟨x, e', s', h3, fun I hI => hI e s (awp_mono (fun _ _ _ _ h => h) hX c ?_ h2)⟩
      rintro y a t ⟨rfl, rfl, rfl⟩; exact h4 I hI
    | exit id =>
      refine ⟨_, e1, s1, h1, fun I hI => hI e s (awp_mono (fun _ _ _ _ h => h) hX c ?_ h2)⟩
      rintro y a t ⟨rfl, rfl, rfl⟩; exact ⟨rfl, rfl, rfl⟩
    | ret =>
      refine ⟨_, e1, s1, h1, fun I hI => hI e s (awp_mono (fun _ _ _ _ h => h) hX c ?_ h2)⟩
      rintro y a t ⟨rfl, rfl, rfl⟩; exact ⟨rfl, rfl, rfl⟩
  | .exit id, Q, e, s, h => ⟨_, _, _, h, rfl, rfl, rfl⟩
  | .ret, Q, e, s, h => ⟨_, _, _, h, rfl, rfl, rfl⟩
  | .fail, Q, e, s, h => h.elim

/-- A run that comes to k comes to one answer and store, of which k holds. -/
theorem Run.det {T : Nat → Option RF} {f : Nat} {args : List AV} {s : St} {k : AV → St → Prop} (h : Run T f args s k) : ∃ v s', k v s' ∧ RunD T f args s v s' := by
  refine h (fun f args s k => ∃ v s', k v s' ∧ RunD T f args s v s') (fun f as s k k' hk ⟨v, s', h1, h2⟩ => ⟨v, s', hk _ _ h1, h2⟩) ?_
  intro f F args s k hf ⟨hn, hb⟩
  obtain ⟨x, e', s1, h1, h2⟩ := awp_det (X := Run T) (fun f as s k h => h) Run.mono F.body hb
  have fin : endA F s k e' s1 → ∃ v s', k v s' ∧ endA F s (fun a t => a = v ∧ t = s') e' s1 := by
    rintro ⟨vs, hr, hk | ⟨r, s', hg, hk⟩⟩
    · exact ⟨_, _, hk, vs, hr, .inl ⟨rfl, rfl⟩⟩
    · exact ⟨r, s', hk, vs, hr, .inr ⟨r, s', hg, rfl, rfl⟩⟩
  cases x with
  | exit id => exact h1.elim
  | nrm =>
    obtain ⟨v, s', hk, he⟩ := fin h1
    refine ⟨v, s', hk, Run.body hf ⟨hn, awp_mono (fun _ _ _ _ h => h) Run.mono F.body ?_ h2⟩⟩
    rintro y a t ⟨rfl, rfl, rfl⟩; exact he
  | ret =>
    obtain ⟨v, s', hk, he⟩ := fin h1
    refine ⟨v, s', hk, Run.body hf ⟨hn, awp_mono (fun _ _ _ _ h => h) Run.mono F.body ?_ h2⟩⟩
    rintro y a t ⟨rfl, rfl, rfl⟩; exact he

/-- A call in a region that draws its order, which makes blocks of its own. -/
theorem dr_calln {T : Nat → Option RF} {n0 i : Nat} {d : Option Nat} {f : Nat} {as : List AV} {H : List (Nat × St × St)} {L : List (Nat × Nat)} {e : Env} {s : St} {next : DrK} {cl fr : List Nat} {k : AV → St → Prop} (h : Run T f as s k) (hx : ∀ v t, k v t → Ext s t)
    (hf : ∀ j ∈ fr, n0 + j < s.length) (hl : ∀ t ∈ cl, ∀ b, (t, b) ∈ L → b < s.length)
    (hn : ∀ v t, k v t → next ((i, s, t) :: H) L (putO e d v) t) : drCall T n0 d f as cl fr i H L e s next := by
  obtain ⟨v, t, hk, hr⟩ := h.det
  have x := hx v t hk
  exact ⟨v, t, hr, fun j hj => x.get (hf j hj), fun a ha b hb => x.get (hl a ha b hb), hn v t hk⟩
end Go.Ev
