import Derived.Test.YtkainejbilbjfaaEvD
/-! The operations that ask nothing of the store: soundness. -/
namespace Go.Ev
set_option linter.unusedVariables false
set_option linter.unusedSimpArgs false
variable {P : Program} {m : Inj}

/-- The value u is what v says, and the operation comes to it in every world. -/
def Gives (P : Program) (m : Inj) (a : Act) (o : Oper) (v : AV) : Prop := ∃ u, VR m v u ∧ ∀ w, (execOp a.eval o).run P w = .ok (.value u) w

theorem int_kind {k : IntKind} {n : Int} {v : Value} (h : VR m (.int k n) v) : v = .int k n := h

theorem bits_run (op : BinOp) (h : op = .and ∨ op = .or ∨ op = .xor ∨ op = .andNot) (k : IntKind) (x y : Int) (w : World) : (Op.intBits op k x y).run P w = .ok (.int k (bitsA op k x y)) w := by
  rcases h with rfl | rfl | rfl | rfl <;> simp [Op.intBits, bitsA]

theorem bin_run {op : BinOp} (h1 : op ≠ .eql) (h2 : op ≠ .neq) {a b c : AV} {x y : Value} (hx : VR m a x) (hy : VR m b y) (h : binA op a b = some c) :
    ∃ u, VR m c u ∧ ∀ t (X Y : Operand) w, (do eqGuard op t X Y x y; binOp op t x y : Sem Value).run P w = .ok u w := by
  cases op <;> cases a <;> cases b <;> simp only [binA] at h <;> try (simp at h; done)
  all_goals simp only [VR] at hx hy
  all_goals subst hx
  all_goals subst hy
  all_goals first
    | (split at h
       · rename_i hk
         first | (obtain ⟨hk, hb⟩ := hk; subst hk) | subst hk | skip
         simp at h
         subst h
         refine ⟨_, rfl, fun t X Y w => ?_⟩
         first
          | (simp [eqGuard, binOp, Op.intArith]; done)
          | (simp [eqGuard, binOp, Op.intCmp]; done)
          | (simp [eqGuard, binOp, Op.intDiv, hb]; done)
          | (simp [eqGuard, binOp, bits_run]; done)
          | (simp [eqGuard, binOp, Op.shift, hk]; done)
          | (simp [eqGuard, binOp, Op.stringOp]; omega)
          | (simp [eqGuard, binOp, Op.stringOp]; done)
       · first
          | (simp at h; done)
          | (rename_i hk; simp at h; subst h; refine ⟨_, rfl, fun t X Y w => ?_⟩; simp [eqGuard, binOp, Op.shift, hk]; done))
    | (simp at h
       subst h
       refine ⟨_, rfl, fun t X Y w => ?_⟩
       simp [eqGuard, binOp, Op.stringOp]
       done)
    | (simp at h
       obtain ⟨hk, rfl⟩ := h
       refine ⟨_, rfl, fun t X Y w => ?_⟩
       simp [eqGuard, binOp, Op.shift, Int.not_lt.mpr hk]
       done)

theorem guard_none {op : BinOp} {n : Nat} {t : TypeId} {q : EqT} (hq : compEq P n t = some q) {a b : AV} {x y : Value} {r : Bool} (hx : VR m a x) (hy : VR m b y) (h : eqA q a b = some r) (X Y : Operand) (w : World) :
    (eqGuard op t X Y x y).run P w = .ok () w := by
  cases q with
  | st fs =>
    cases a <;> cases b <;> simp only [eqA] at h <;> try (simp at h; done)
    obtain ⟨xs, rfl, hxs⟩ := hx
    obtain ⟨ys, rfl, hys⟩ := hy
    have hg : P.eqGuardType P.depth t = false := by
      cases n with
      | zero => simp [compEq] at hq
      | succ n =>
        simp only [compEq] at hq
        split at hq <;> try (simp at hq; done)
        split at hq
        · simp at hq
        · rename_i hns; simp only [not_or, Bool.not_eq_true] at hns; exact hns.2
    exact run_eqGuard_agg w op t X Y xs ys hg
  | _ =>
    cases a <;> cases b <;> simp only [eqA] at h <;> try (simp at h; done)
    all_goals simp only [VR] at hx hy
    all_goals first
      | (subst hx; cases op <;> simp [eqGuard]; done)
      | (obtain ⟨l, _, rfl⟩ := hx; cases op <;> simp [eqGuard]; done)
      | (obtain ⟨l, rfl, _⟩ := hx; cases op <;> simp [eqGuard]; done)
      | (obtain ⟨l, k, z, _, rfl, _⟩ := hx; cases op <;> simp [eqGuard]; done)

theorem beq_str (a b : ByteArray) : (a.toList == b.toList) = (a == b) := (beq_toListBytes a b).symm

theorem eql_run {n : Nat} (hn : n ≤ 10000) {t : TypeId} {q : EqT} (hq : compEq P n t = some q) {a b : AV} {x y : Value} {r : Bool} (hx : VR m a x) (hy : VR m b y) (h : eqA q a b = some r) (neg : Bool) (X Y : Operand) (w : World) :
    (do eqGuard (if neg then .neq else .eql) t X Y x y; binOp (if neg then .neq else .eql) t x y : Sem Value).run P w = .ok (.bool (if neg then !r else r)) w := by
  have hg := fun op => guard_none (op := op) hq hx hy h X Y w
  have he : (Op.equal t x y).run P w = .ok r w := eq_run n 10000 hn t q hq a b x y r hx hy h w
  have hb : ∀ (op : BinOp), (op = .eql ∨ op = .neq) → (∃ k i k' j, x = .int k i ∧ y = .int k' j) ∨ (∃ s z, x = .string s ∧ y = .string z) ∨
      ((binOp .eql t x y) = (do pure (.bool (← Op.equal t x y))) ∧ (binOp .neq t x y) = (do pure (.bool (!(← Op.equal t x y))))) := by
    intro op hop
    cases x <;> cases y <;> first
      | (right; right; constructor <;> rfl)
      | (left; exact ⟨_, _, _, _, rfl, rfl⟩)
      | (right; left; exact ⟨_, _, rfl, rfl⟩)
      | skip
    all_goals (cases q <;> cases a <;> cases b <;> simp only [eqA] at h <;> (try (simp at h; done)) <;> simp [VR] at hx hy)
  rcases hb .eql (.inl rfl) with ⟨k, i, k', j, rfl, rfl⟩ | ⟨s, z, rfl, rfl⟩ | ⟨h1, h2⟩
  · cases q <;> cases a <;> cases b <;> simp only [eqA] at h <;> (try (simp at h; done)) <;> simp [VR] at hx hy
    obtain ⟨rfl, rfl⟩ := hx
    obtain ⟨rfl, rfl⟩ := hy
    split at h
    · rename_i hk
      subst hk
      simp at h
      subst h
      cases neg <;> simp [hg, binOp, Op.intCmp, bne]
    · simp at h
  · cases q <;> cases a <;> cases b <;> simp only [eqA] at h <;> (try (simp at h; done)) <;> simp [VR] at hx hy
    subst hx
    subst hy
    simp at h
    subst h
    cases neg <;> simp [hg, binOp, Op.stringOp]
  · cases neg <;> simp [hg, h1, h2, he]

theorem un_run {op : UnOp} {a c : AV} {x : Value} (hx : VR m a x) (h : unA op a = some c) : ∃ u, VR m c u ∧ ∀ w, (Op.unary op x).run P w = .ok u w := by
  cases op <;> cases a <;> simp only [unA] at h <;> try (simp at h; done)
  all_goals
    simp only [VR] at hx
    subst hx
    simp at h
    subst h
    refine ⟨_, rfl, fun w => ?_⟩
    first
      | (simp [Op.unary, Op.intArith]; done)
      | (simp only [Op.unary]; exact bits_run .xor (by simp) _ _ _ w)

theorem optX_vr {e : Env} {a : Act} (hE : ER m e a) {x : Option Operand} {r : Option RX} (h : compXo x = some r) :
    (x = none ∧ r = none) ∨ ∃ y z, x = some y ∧ r = some z ∧ VR m (z.ev e) (a.eval y) := by
  cases x with
  | none => simp [compXo] at h; exact .inl ⟨rfl, h.symm⟩
  | some y => simp [compXo] at h; obtain ⟨z, hz, rfl⟩ := h; exact .inr ⟨y, z, rfl, rfl, compX_vr hE hz⟩

theorem bounds_run {isSlice : Bool} {len cap : Nat} {lo hi mx : Option AV} {vlo vhi vmx : Option Value}
    (hlo : (lo = none ∧ vlo = none) ∨ ∃ x v, lo = some x ∧ vlo = some v ∧ VR m x v) (hhi : (hi = none ∧ vhi = none) ∨ ∃ x v, hi = some x ∧ vhi = some v ∧ VR m x v)
    (hmx : (mx = none ∧ vmx = none) ∨ ∃ x v, mx = some x ∧ vmx = some v ∧ VR m x v) (hlc : len ≤ cap)
    {mm hh ll : Nat} (hm : (match (generalizing := false) mx with | none => some len | some v => boundA len v) = some mm) (hh' : (match (generalizing := false) hi with | none => if mx.isNone then some len else none | some v => boundA mm v) = some hh)
    (hl : (match (generalizing := false) lo with | none => some 0 | some v => boundA hh v) = some ll) :
    ll ≤ hh ∧ hh ≤ len ∧ hh ≤ mm ∧ mm ≤ len ∧ ∀ w, (Instr.sliceBounds isSlice len cap vlo vhi vmx).run P w = .ok (ll, hh, if mx.isSome then mm else cap) w := by
  have big : ∀ {x : AV} {v : Value} {a b n : Nat}, VR m x v → a ≤ b → boundA a x = some n → ∀ code w, (Instr.sliceBound v b code).run P w = .ok n w := by
    intro x v a b n hr hab hb code w
    have := run_bound (P := P) hr hb code w
    refine (run_bound (P := P) hr ?_ code w).1
    unfold boundA at hb ⊢
    split at hb
    · split at hb
      · rename_i hi; rw [if_pos (by omega)]; exact hb
      · simp at hb
    · simp at hb
  rcases hmx with ⟨rfl, rfl⟩ | ⟨xm, vm, rfl, rfl, rm⟩
  · simp at hm
    subst hm
    rcases hhi with ⟨rfl, rfl⟩ | ⟨xh, vh, rfl, rfl, rh⟩
    · simp at hh'
      subst hh'
      rcases hlo with ⟨rfl, rfl⟩ | ⟨xl, vl, rfl, rfl, rl⟩
      · simp at hl; subst hl
        exact ⟨by omega, by omega, by omega, by omega, fun w => by simp [Instr.sliceBounds]⟩
      · have h1 := run_bound (P := P) rl hl .sliceB default
        exact ⟨h1.2, by omega, by omega, by omega, fun w => by simp [Instr.sliceBounds, (run_bound (P := P) rl hl _ _).1]⟩
    · have h2 := run_bound (P := P) rh hh' .sliceB default
      rcases hlo with ⟨rfl, rfl⟩ | ⟨xl, vl, rfl, rfl, rl⟩
      · simp at hl; subst hl
        exact ⟨by omega, h2.2, h2.2, by omega, fun w => by simp [Instr.sliceBounds, big rh hlc hh']⟩
      · have h1 := run_bound (P := P) rl hl .sliceB default
        exact ⟨h1.2, h2.2, h2.2, by omega, fun w => by simp [Instr.sliceBounds, big rh hlc hh', (run_bound (P := P) rl hl _ _).1]⟩
  · have h3 := run_bound (P := P) rm hm .sliceB default
    rcases hhi with ⟨rfl, rfl⟩ | ⟨xh, vh, rfl, rfl, rh⟩
    · simp at hh'
    · have h2 := run_bound (P := P) rh hh' .sliceB default
      rcases hlo with ⟨rfl, rfl⟩ | ⟨xl, vl, rfl, rfl, rl⟩
      · simp at hl; subst hl
        exact ⟨by omega, by omega, h2.2, h3.2, fun w => by simp [Instr.sliceBounds, big rm hlc hm, (run_bound (P := P) rh hh' _ _).1]⟩
      · have h1 := run_bound (P := P) rl hl .sliceB default
        exact ⟨h1.2, by omega, h2.2, h3.2, fun w => by simp [Instr.sliceBounds, big rm hlc hm, (run_bound (P := P) rh hh' _ _).1, (run_bound (P := P) rl hl _ _).1]⟩

theorem slc_run {t e : Nat} {n : Nat} (ht : P.underlying t = some (.slice e)) (hs : szOf P e = some n) {x c : AV} {v : Value} (hx : VR m x v) {lo hi mx : Option AV} {vlo vhi vmx : Option Value}
    (hlo : (lo = none ∧ vlo = none) ∨ ∃ x v, lo = some x ∧ vlo = some v ∧ VR m x v) (hhi : (hi = none ∧ vhi = none) ∨ ∃ x v, hi = some x ∧ vhi = some v ∧ VR m x v)
    (hmx : (mx = none ∧ vmx = none) ∨ ∃ x v, mx = some x ∧ vmx = some v ∧ VR m x v) (h : slcA n x lo hi mx = some c) :
    ∃ u, VR m c u ∧ ∀ w, (Instr.sliceAt t v vlo vhi vmx).run P w = .ok u w := by
  unfold slcA at h
  simp only at h
  split at h
  · simp at h
  · rename_i len hlen
    split at h
    · simp at h
    · rename_i mm hmm
      split at h
      · simp at h
      · rename_i hh hhh
        split at h
        · simp at h
        · rename_i ll hll
          split at h
          · simp at h hlen
            subst h
            subst hlen
            simp only [VR] at hx
            subst hx
            obtain ⟨h1, h2, h3, h4, hr⟩ := bounds_run (P := P) (isSlice := true) (cap := 0) hlo hhi hmx (Nat.le_refl _) hmm hhh hll
            refine ⟨.slice none 0 0, rfl, fun w => ?_⟩
            have e1 : hh = 0 := by omega
            have e2 : mm = 0 := by omega
            have e3 : ll = 0 := by omega
            subst e1; subst e2; subst e3
            simp [Instr.sliceAt, Instr.slice, run_underlying ht, hr, run_szOf hs]
          · rename_i b o es n' c'
            simp at hlen
            subst hlen
            split at h
            · rename_i hes
              subst hes
              simp at h
              subst h
              obtain ⟨l, k, x, hm', rfl, hk, hz, hx', hc⟩ := hx
              obtain ⟨h1, h2, h3, h4, hr⟩ := bounds_run (P := P) (isSlice := true) (cap := k) hlo hhi hmx hk hmm hhh hll
              have key : ∀ M, M ≤ k → ll ≤ M → hh ≤ M → (M = k ∨ M = mm) → (∀ y, (if mx.isSome = true then some (mm - ll) else c'.map (· - ll)) = some y → M - ll = y) →
                  VR m (.sl b (o + ll * es) es (hh - ll) (if mx.isSome = true then some (mm - ll) else c'.map (· - ll))) (.slice (if M = ll then some ⟨l.c, x, none⟩ else some (Addr.add ⟨l.c, x, none⟩ (ll * es))) (hh - ll) (M - ll)) := by
                intro M hM1 hM2 hM3 _ hcap
                have hmul : ll * es + (M - ll) * es = M * es := by rw [← Nat.add_mul]; congr 1; omega
                have hmul2 : M * es ≤ k * es := Nat.mul_le_mul_right _ hM1
                refine ⟨l, M - ll, if M = ll then x else x + ll * es, hm', ?_, by omega, ?_, ?_, hcap⟩
                · split <;> simp [Addr.add_lit]
                · split
                  · rename_i e; rw [e]; simp; omega
                  · omega
                · split
                  · right; omega
                  · rcases hx' with hx' | hx'
                    · left; omega
                    · omega
              by_cases hms : mx.isSome = true
              · refine ⟨_, key mm (by omega) (by omega) h3 (.inr rfl) (fun y hy => by simp [hms] at hy; omega), fun w => ?_⟩
                simp [Instr.sliceAt, Instr.slice, run_underlying ht, hr, run_szOf hs, hms]
              · refine ⟨_, key k (Nat.le_refl _) (by omega) (by omega) (.inl rfl) (fun y hy => ?_), fun w => ?_⟩
                · simp [hms] at hy
                  obtain ⟨z, hz, rfl⟩ := hy
                  rw [hc z hz]
                · simp [Instr.sliceAt, Instr.slice, run_underlying ht, hr, run_szOf hs, hms]
            · simp at h
          · simp at h

theorem sls_run {t : Nat} (ht : P.underlying t = some .string) {x c : AV} {v : Value} (hx : VR m x v) {lo hi : Option AV} {vlo vhi : Option Value}
    (hlo : (lo = none ∧ vlo = none) ∨ ∃ x v, lo = some x ∧ vlo = some v ∧ VR m x v) (hhi : (hi = none ∧ vhi = none) ∨ ∃ x v, hi = some x ∧ vhi = some v ∧ VR m x v)
    (h : slsA x lo hi = some c) : ∃ u, VR m c u ∧ ∀ w, (Instr.sliceAt t v vlo vhi none).run P w = .ok u w := by
  unfold slsA at h
  split at h
  · rename_i s
    simp only at h
    split at h
    · simp at h
    · rename_i hh hhh
      split at h
      · simp at h
      · rename_i ll hll
        simp at h
        subst h
        simp only [VR] at hx
        subst hx
        obtain ⟨h1, h2, h3, h4, hr⟩ := bounds_run (P := P) (m := m) (isSlice := false) (cap := s.size) (mx := none) hlo hhi (.inl ⟨rfl, rfl⟩) (Nat.le_refl _) rfl (by cases hi <;> simpa using hhh) hll
        refine ⟨_, rfl, fun w => ?_⟩
        simp [Instr.sliceAt, Instr.slice, run_underlying ht, hr]
  · simp at h

end Go.Ev
