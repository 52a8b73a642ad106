import Derived.Test.YtkainejbilbjfaaEvC
/-! The operations that ask nothing of the store do in the model what they say. -/
namespace Go.Ev
set_option linter.unusedVariables false
set_option linter.unusedSimpArgs false
variable {P : Program} {m : Inj}

theorem run_typeInfo {t : TypeId} {i : TypeInfo} (h : P.info? t = some i) (w : World) : (typeInfo t).run P w = .ok i w := by
  simp [typeInfo, h]

theorem run_sizeOf {t : TypeId} {i : TypeInfo} (h : P.info? t = some i) (w : World) : (sizeOf t).run P w = .ok i.size w := by
  simp [sizeOf, run_typeInfo h]

theorem run_szOf {t : TypeId} {n : Nat} (h : szOf P t = some n) (w : World) : (sizeOf t).run P w = .ok n w := by
  unfold szOf at h
  simp at h
  obtain ⟨i, hi, rfl⟩ := h
  exact run_sizeOf hi w

theorem shp_some {t : TypeId} {n : Nat} (h : shp P t = some (some n)) (w : World) : (isAgg t).run P w = .ok true w ∧ (sizeOf t).run P w = .ok n w := by
  unfold shp at h
  split at h <;> try simp at h
  all_goals (rename_i h1 h2; subst h; exact ⟨by simp [isAgg, run_underlying h1], run_sizeOf h2 w⟩)

theorem shp_none {t : TypeId} (h : shp P t = some none) (w : World) : (isAgg t).run P w = .ok false w ∧ (sizeOf t).run P w = .ok 1 w := by
  unfold shp at h
  split at h <;> try simp at h
  rename_i d i h1 h2 h3 h4
  refine ⟨?_, by have := run_sizeOf h4 w; rwa [h] at this⟩
  cases d with
  | struct fs => exact absurd rfl (h1 fs)
  | array n e => exact absurd rfl (h2 n e)
  | _ => simp [isAgg, run_underlying h3]

theorem run_part {t : TypeId} {n : Option Nat} (hs : shp P t = some n) {cs : List AV} {vs : Array Value} (hr : VRs m cs vs.toList) {k : Nat} {a : AV} (h : partA n k cs = some a) :
    ∃ u, VR m a u ∧ ∀ w, (part t vs k).run P w = .ok u w := by
  cases n with
  | none =>
    obtain ⟨u, hu, hv⟩ := VRs.get hr (i := k) h
    refine ⟨u, hv, fun w => ?_⟩
    have : vs[k]? = some u := by rw [← Array.getElem?_toList]; exact hu
    simp [part, (shp_none hs w).1, this]
  | some n =>
    simp only [partA] at h
    split at h
    · rename_i hle
      simp at h
      subst h
      refine ⟨.agg (vs.extract k (k + n)), ⟨_, rfl, ?_⟩, fun w => ?_⟩
      · have := (VRs.drop k hr).take n
        have e : (vs.extract k (k + n)).toList = (vs.toList.drop k).take n := by
          simp [Array.toList_extract]
        rw [e]; exact this
      · simp [part, (shp_some hs w).1, (shp_some hs w).2]
    · simp at h

theorem run_bound {top n : Nat} {x : AV} {v : Value} (hr : VR m x v) (h : boundA top x = some n) (code : BoundsCode) (w : World) :
    (Instr.sliceBound v top code).run P w = .ok n w ∧ n ≤ top := by
  unfold boundA at h
  split at h
  · split at h
    · rename_i k i hi
      simp at h
      subst h
      simp only [VR] at hr
      subst hr
      refine ⟨?_, by omega⟩
      rw [run_sliceBound w k i top code hi.1 hi.2]
    · simp at h
  · simp at h

theorem VR.int {k : IntKind} {n : Int} {v : Value} (h : VR m (.int k n) v) : v = .int k n := h

theorem setL_length {α : Type} : ∀ (vs cs : List α) (o : Nat), (setL cs o vs).length = cs.length
  | [], _, _ => rfl
  | v :: vs, cs, o => by simp [setL, setL_length vs]

theorem foldl_set_size : ∀ (l : List (Value × Nat)) (cs : Array Value) (o : Nat), (l.foldl (fun cs (x : Value × Nat) => cs.setIfInBounds (o + x.2) x.1) cs).size = cs.size
  | [], _, _ => rfl
  | x :: l, cs, o => by simp [foldl_set_size l]

theorem setL_vrs : ∀ (vs : List AV) (us : List Value) (cs : List AV) (ds : Array Value) (o k : Nat), VRs m cs ds.toList → VRs m vs us →
    VRs m (setL cs (o + k) vs) ((us.zipIdx k).foldl (fun cs (x : Value × Nat) => cs.setIfInBounds (o + x.2) x.1) ds).toList
  | [], us, cs, ds, o, k, h, hu => by simp only [VRs] at hu; subst hu; exact h
  | v :: vs, _, cs, ds, o, k, h, ⟨u, us, e, hv, hr⟩ => by
    subst e
    simp only [setL, List.zipIdx_cons, List.foldl_cons]
    rw [show o + k + 1 = o + (k + 1) by omega]
    refine setL_vrs vs us _ _ o (k + 1) ?_ hr
    rw [Array.toList_setIfInBounds]
    exact VRs.set _ h hv

theorem run_fill {place : Nat → Option (Nat × Nat)} {e : Env} {a : Act} (hE : ER m e a) : ∀ {parts : List (Nat × Operand)} {l : List (Nat × Nat × RX)} {cs : List AV} {ds : Array Value} {r : List AV},
    compParts place parts = some l → VRs m cs ds.toList → fillA cs (evParts e l) = some r →
    ∃ us : Array Value, Instr.fill place ds (parts.map fun (i, x) => (i, a.eval x)) = some us ∧ VRs m r us.toList
  | [], l, cs, ds, r, hc, hr, hf => by
    simp [compParts] at hc
    subst hc
    simp [evParts, fillA] at hf
    subst hf
    exact ⟨ds, rfl, hr⟩
  | (i, x) :: parts, l, cs, ds, r, hc, hr, hf => by
    simp only [compParts] at hc
    split at hc <;> simp at hc
    subst hc
    rename_i o s y l h1 h2 h3
    simp only [evParts, fillA] at hf
    have hx := compX_vr hE h2
    have hlen : ds.size = cs.length := by rw [← Array.length_toList]; exact VRs.length hr
    simp only [List.map_cons, Instr.fill, h1]
    split at hf
    · rename_i hcell
      obtain ⟨hc1, hs, ho⟩ := hcell
      have hv := VR.cell hx hc1
      have e' : (a.eval x).cells = #[a.eval x] := by revert hv; cases a.eval x <;> simp [Value.isCell, Value.cells]
      rw [e']
      have : ¬ ((#[a.eval x] : Array Value).size ≠ s || o + (#[a.eval x] : Array Value).size > ds.size) = true := by simp [hs]; omega
      rw [if_neg this]
      refine run_fill hE h3 ?_ hf
      simp
      exact VRs.set _ hr hx
    · split at hf
      · rename_i cs' hy
        split at hf
        · rename_i hcs
          rw [hy] at hx
          obtain ⟨vs, hvs, hr'⟩ := hx
          have hl' : vs.size = cs'.length := by rw [← Array.length_toList]; exact VRs.length hr'
          rw [show (a.eval x).cells = vs by rw [hvs]; rfl]
          have h5 : vs.size = s := by rw [hl', hcs.1]
          have h6 : ¬ (o + vs.size > ds.size) := by omega
          rw [if_neg (by simp [h5]; omega)]
          refine run_fill hE h3 ?_ hf
          have := setL_vrs cs' vs.toList cs ds o 0 hr hr'
          rw [Nat.add_zero] at this
          rw [← Array.foldl_toList, Array.toList_zipIdx]
          exact this
        · simp at hf
      · simp at hf

theorem eqs_run {g : TypeId → Option EqT} {d : Nat} (hg : ∀ t q, g t = some q → ∀ (a b : AV) (x y : Value) (r : Bool), VR m a x → VR m b y → eqA q a b = some r → ∀ w, (Op.equalIn d t x y).run P w = .ok r w) :
    ∀ (fs : List Field) (L : EqL), compEqs P g fs = some L → ∀ (xs ys : Array Value) (as bs : List AV) (r : Bool), VRs m as xs.toList → VRs m bs ys.toList → eqL L as bs = some r →
      ∀ w, (Op.eqFields d xs ys fs).run P w = .ok r w
  | [], L, hc, xs, ys, as, bs, r, hx, hy, h, w => by
    simp [compEqs] at hc
    subst hc
    simp [eqL] at h
    subst h
    simp [Op.eqFields]
  | f :: fs, L, hc, xs, ys, as, bs, r, hx, hy, h, w => by
    simp only [compEqs] at hc
    split at hc
    · rename_i hn
      simp only [Op.eqFields, hn, ne_eq, not_true_eq_false, if_false]
      exact eqs_run hg fs L hc xs ys as bs r hx hy h w
    · rename_i hn
      have part1 : ∀ {n : Option Nat} {q : EqT} {a b : AV} {z : Bool}, g f.type = some q → shp P f.type = some n → partA n f.offset as = some a → partA n f.offset bs = some b → eqA q a b = some z →
          (Op.eqFields d xs ys (f :: fs)).run P w = if z = true then (Op.eqFields d xs ys fs).run P w else .ok false w := by
        intro n q a b z hq hs ha hb hz
        obtain ⟨u, hu, ru⟩ := run_part hs hx ha
        obtain ⟨v, hv, rv⟩ := run_part hs hy hb
        simp only [Op.eqFields, hn, ne_eq, not_false_eq_true, if_true, Sem.run_bind, ru, rv, Result.andThen_ok, hg _ _ hq _ _ _ _ _ hu hv hz]
        cases z <;> simp
      split at hc
      · rename_i q rr h1 h2 h3
        simp at hc
        subst hc
        simp only [eqL] at h
        split at h
        · rename_i a b ha hb
          split at h
          · rename_i hz
            rw [part1 h1 h2 ha hb hz, if_pos rfl]
            exact eqs_run hg fs _ h3 xs ys as bs r hx hy h w
          · rename_i hz
            cases r with
            | true => exact absurd h hz
            | false => rw [part1 h1 h2 ha hb h]; simp
        · simp at h
      · rename_i q k rr h1 h2 h3
        simp at hc
        subst hc
        simp only [eqL] at h
        split at h
        · rename_i hle
          have pa : ∀ {zs : List AV}, f.offset + k ≤ zs.length → partA (some k) f.offset zs = some (.agg ((zs.drop f.offset).take k)) := fun hh => by simp [partA, hh]
          split at h
          · rename_i hz
            rw [part1 h1 h2 (pa hle.1) (pa hle.2) hz, if_pos rfl]
            exact eqs_run hg fs _ h3 xs ys as bs r hx hy h w
          · rename_i hz
            cases r with
            | true => exact absurd h hz
            | false => rw [part1 h1 h2 (pa hle.1) (pa hle.2) h]; simp
        · simp at h
      · simp at hc

theorem eq_run : ∀ (n d : Nat), n ≤ d → ∀ t q, compEq P n t = some q → ∀ (a b : AV) (x y : Value) (r : Bool), VR m a x → VR m b y → eqA q a b = some r →
    ∀ w, (Op.equalIn d t x y).run P w = .ok r w
  | 0, _, _, t, q, hc, _, _, _, _, _, _, _, _, _ => by simp [compEq] at hc
  | n + 1, 0, hd, _, _, _, _, _, _, _, _, _, _, _, _ => by omega
  | n + 1, d + 1, hd, t, q, hc, a, b, x, y, r, hx, hy, h, w => by
    simp only [compEq] at hc
    split at hc <;> try (simp at hc; done)
    case h_8 fs hu =>
      split at hc
      · simp at hc
      · rename_i hns
        simp only [not_or, Bool.not_eq_true] at hns
        simp at hc
        obtain ⟨L, hL, rfl⟩ := hc
        cases a <;> cases b <;> simp only [eqA] at h <;> try (simp at h; done)
        obtain ⟨xs, rfl, hxs⟩ := hx
        obtain ⟨ys, rfl, hys⟩ := hy
        have hf : P.fieldsOf t = fs := by simp [Program.fieldsOf, hu]
        rw [run_equalIn_struct w d t xs ys (by rw [hf]; exact hu) hns.1, hf]
        exact eqs_run (fun t q hq => eq_run n d (by omega) t q hq) fs.toList L hL xs ys _ _ r hxs hys h w
    all_goals
      rename_i hu
      simp at hc
      subst hc
      cases a <;> cases b <;> simp only [eqA] at h <;> try (simp at h; done)
      all_goals simp only [VR] at hx hy
    · split at h
      · rename_i hk
        subst hk; subst hx; subst hy; simp at h; subst h
        simp [Op.equalIn, run_underlying hu]
      · simp at h
    · subst hx; subst hy; simp at h; subst h; simp [Op.equalIn, run_underlying hu]
    · subst hx; subst hy; simp at h; subst h; simp [Op.equalIn, run_underlying hu, beq_toListBytes]
    · subst hx; subst hy; simp at h; subst h; simp [Op.equalIn, run_underlying hu]
    · subst hx; obtain ⟨l, _, rfl⟩ := hy; simp at h; subst h; simp [Op.equalIn, run_underlying hu]
    · subst hy; obtain ⟨l, _, rfl⟩ := hx; simp at h; subst h; simp [Op.equalIn, run_underlying hu]
    · subst hx; subst hy; simp at h; subst h; simp [Op.equalIn, run_underlying hu]
    · subst hx; obtain ⟨l, k, x, _, rfl, _⟩ := hy; simp at h; subst h; simp [Op.equalIn, run_underlying hu]
    · subst hy; obtain ⟨l, k, x, _, rfl, _⟩ := hx; simp at h; subst h; simp [Op.equalIn, run_underlying hu]
    · subst hx; subst hy; simp at h; subst h; simp [Op.equalIn, run_underlying hu]
    · subst hx; obtain ⟨l, _, rfl⟩ := hy; simp at h; subst h; simp [Op.equalIn, run_underlying hu]
    · subst hy; obtain ⟨l, _, rfl⟩ := hx; simp at h; subst h; simp [Op.equalIn, run_underlying hu]
    · subst hx; subst hy; simp at h; subst h; simp [Op.equalIn, run_underlying hu]
    · subst hx; obtain ⟨l, rfl, _⟩ := hy; simp at h; subst h; simp [Op.equalIn, run_underlying hu]
    · subst hy; obtain ⟨l, rfl, _⟩ := hx; simp at h; subst h; simp [Op.equalIn, run_underlying hu]

end Go.Ev
