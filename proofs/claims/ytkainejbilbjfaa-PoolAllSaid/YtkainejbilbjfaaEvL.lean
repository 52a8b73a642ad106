import Derived.Test.YtkainejbilbjfaaEvK
/-! Regions that draw their order: soundness. -/
namespace Go.Ev
set_option linter.unusedVariables false
set_option linter.unusedSimpArgs false
variable {P : Program} {E : Ex}

/-- How a run's state stands to the model's, since a start. -/
def Rel (m0 : Inj) (s0 : St) (w0 : World) (N : Nat) (e : Env) (s : St) (a : Act) (w : World) : Prop :=
  ∃ m, Sim m s w ∧ ER m e a ∧ Goes m0 s0 w0 m s w ∧ a.tmps.size = N ∧ a.defers = []

def dstOk (N : Nat) (d : Option Nat) : Bool := match d with | some d => decide (d < N) | none => true

def compG (ops : Array Oper) (o : Oper) : Option (Option (Nat × Bool)) :=
  match o.guard with
  | none => some none
  | some (j, b) => match (ops[j]?).bind (·.dst) with
    | some t => some (some (t, b))
    | none => none

def compR1 (P : Program) (E : Ex) (N : Nat) (ops : Array Oper) (o : Oper) : Option ROp :=
  match compG ops o with
  | some g => if dstOk N o.dst then some ⟨o.dst, g, (compOp P E o.op o.type).getD .fail⟩ else none
  | none => none

def compRs (P : Program) (E : Ex) (N : Nat) (ops : Array Oper) : List Oper → Option (List ROp)
  | [] => some []
  | o :: os => match compR1 P E N ops o, compRs P E N ops os with
    | some r, some rs => some (r :: rs)
    | _, _ => none

theorem compRs_get {N : Nat} {ops : Array Oper} : ∀ {os : List Oper} {rs : List ROp}, compRs P E N ops os = some rs → rs.length = os.length ∧ ∀ (i : Nat) (o : Oper), os[i]? = some o → ∃ r, rs[i]? = some r ∧ compR1 P E N ops o = some r
  | [], rs, h => by simp [compRs] at h; subst h; simp
  | o :: os, rs, h => by
    simp only [compRs] at h
    split at h <;> simp at h
    subst h
    rename_i r rs h1 h2
    obtain ⟨h3, h4⟩ := compRs_get h2
    refine ⟨by simp [h3], fun i o' ho => ?_⟩
    cases i with
    | zero => simp at ho; subst ho; exact ⟨r, rfl, h1⟩
    | succ i => simp at ho; obtain ⟨r', hr, hc⟩ := h4 i o' ho; exact ⟨r', by simpa using hr, hc⟩

theorem compR1_spec {N : Nat} {ops : Array Oper} {o : Oper} {r : ROp} (h : compR1 P E N ops o = some r) :
    r.dst = o.dst ∧ dstOk N o.dst = true ∧ compG ops o = some r.g ∧ (compOp P E o.op o.type = some r.op ∨ r.op = .fail) := by
  unfold compR1 at h
  split at h <;> try (simp at h; done)
  rename_i g hg
  split at h <;> simp at h
  rename_i hd
  subst h
  refine ⟨rfl, hd, hg, ?_⟩
  cases hc : compOp P E o.op o.type with
  | none => right; rfl
  | some r => left; rfl

/-- A guard's answer, a truth value. -/
theorem guard_bool {ops : Array Oper} {o : Oper} {t : Nat} {want b : Bool} (hg : compG ops o = some (some (t, want))) {a : Act} (hv : a.tmps.getD t undef = .bool b) : Region.wanted o (yielded ops a.tmps) = (b == want) := by
  unfold compG at hg
  split at hg
  · simp at hg
  · rename_i j b' hgo
    split at hg <;> simp at hg
    rename_i t' ht
    obtain ⟨rfl, rfl⟩ := hg
    have : a.tmps[t']? = some (.bool b) := by
      rw [Array.getD_eq_getD_getElem?] at hv
      cases hx : a.tmps[t']? with
      | none => rw [hx] at hv; simp [undef] at hv
      | some v => rw [hx] at hv; simp at hv; rw [hv]
    simp only [Region.wanted, hgo]
    unfold yielded
    rw [ht]
    simp only [Option.bind_some, this]
    cases b <;> cases b' <;> rfl

/-- A guard's answer. -/
theorem guard_run {m : Inj} {ops : Array Oper} {o : Oper} {t : Nat} {want c : Bool} {v : AV} (hg : compG ops o = some (some (t, want))) {a : Act} (hr : VR m v (a.tmps.getD t undef)) (hc : gv want v = some c) : Region.wanted o (yielded ops a.tmps) = c := by
  have hcase : (∃ b, a.tmps.getD t undef = .bool b ∧ c = (b == want)) ∨ (a.tmps.getD t undef = .tuple #[] ∧ c = false) := by
    unfold gv at hc
    split at hc <;> simp at hc
    · rename_i b; exact .inl ⟨b, by simpa [VR] using hr, hc.symm⟩
    · right
      obtain ⟨vs, h1, h2⟩ := hr
      simp only [VRs] at h2
      exact ⟨by rw [h1]; congr 1; exact Array.toList_eq_nil_iff.1 h2, hc⟩
  rcases hcase with ⟨b, hv, rfl⟩ | ⟨hv, rfl⟩
  · exact guard_bool hg hv
  · unfold compG at hg
    split at hg
    · simp at hg
    · rename_i j b' hgo
      split at hg <;> simp at hg
      rename_i t' ht
      obtain ⟨rfl, rfl⟩ := hg
      simp only [Region.wanted, hgo]
      unfold yielded
      rw [ht]
      simp only [Option.bind_some]
      rw [Array.getD_eq_getD_getElem?] at hv
      cases hx : a.tmps[t']? with
      | none => rfl
      | some v => rw [hx] at hv; simp at hv; rw [hv]; rfl

theorem guard_none_run {ops : Array Oper} {o : Oper} (hg : compG ops o = some none) (y : Nat → Option Bool) : Region.wanted o y = true := by
  unfold compG at hg
  split at hg
  · rename_i h; simp [Region.wanted, h]
  · split at hg <;> simp at hg

theorem ER.putO {m : Inj} {e : Env} {a : Act} (r : ER m e a) {N : Nat} (hn : a.tmps.size = N) {d : Option Nat} (hd : dstOk N d = true) {x : AV} {v : Value} (h : VR m x v) : ER m (putO e d x) (a.put d v) := by
  cases d with
  | none => exact r
  | some d => simp [dstOk] at hd; exact ER.put r (by omega) h

theorem put_size {a : Act} {d : Option Nat} {v : Value} : (a.put d v).tmps.size = a.tmps.size := by cases d <;> simp [Act.put]
theorem put_defers {a : Act} {d : Option Nat} {v : Value} : (a.put d v).defers = a.defers := by cases d <;> rfl

/-- A region in the order of its text. -/
theorem reg_sound {X : Oracle} (hX : XS P X) (hE : ExOK P E) {ops : Array Oper} {N : Nat} {Q : Exit → Act → World → Prop} {k : Env → St → Prop} {m0 : Inj} {s0 : St} {w0 : World}
    (hQ : ∀ e s a w, k e s → Rel m0 s0 w0 N e s a w → Q .normal a w) : ∀ (l : List Nat) (rs : List ROp), l.length = rs.length → (∀ (j i : Nat) (r : ROp), l[j]? = some i → rs[j]? = some r → ∃ o, ops[i]? = some o ∧ compR1 P E N ops o = some r) →
    ∀ (e : Env) (s : St) (a : Act) (w : World), Rel m0 s0 w0 N e s a w → opsA X rs e s k → wpOps P ops Q l a w
  | [], rs, hlen, hc, e, s, a, w, hrel, h => by
    have : rs = [] := by simpa using hlen.symm
    subst this
    exact hQ _ _ _ _ h hrel
  | i :: l, [], hlen, _, _, _, _, _, _, _ => by simp at hlen
  | i :: l, r :: rs, hlen, hc, e, s, a, w, ⟨m, hS, hR, hG, hN, hD⟩, h => by
    obtain ⟨o, ho, hcr⟩ := hc 0 i r rfl rfl
    obtain ⟨h1, h2, h3, h4⟩ := compR1_spec hcr
    have rest : ∀ v s' m' u w', opsA X rs (putO e r.dst v) s' k → Sim m' s' w' → Goes m s w m' s' w' → VR m' v u → wpOps P ops Q l (a.put o.dst u) w' := by
      intro v s' m' u w' hk hS' hG' hv
      refine reg_sound hX hE hQ l rs (by simpa using hlen) (fun j i' r' hj hr => hc (j + 1) i' r' (by simpa using hj) (by simpa using hr)) _ s' _ w' ⟨m', hS', ?_, hG.trans hG', by rw [put_size]; exact hN, by rw [put_defers]; exact hD⟩ hk
      rw [h1]
      exact ER.putO (ER.mono hG'.le hR) hN h2 hv
    have runs : opA X r.op e s (fun v s' => opsA X rs (putO e r.dst v) s' k) → o.wp P a w (wpOps P ops Q l) Q := by
      intro hr
      rcases h4 with h4 | h4
      · exact op_sound hX hE h4 hR hS hr rest
      · rw [h4] at hr; exact absurd hr (by simp [opA, pureA])
    simp only [wpOps, ho]
    simp only [opsA] at h
    split at h
    · rename_i hg
      rw [hg] at h3
      rw [guard_none_run h3, if_pos rfl]
      exact .inl (runs h)
    · rename_i t want hg
      rw [hg] at h3
      split at h
      · rename_i hb
        rw [guard_run h3 (hR t) hb, if_pos rfl]
        exact .inl (runs h)
      · rename_i hb
        rw [guard_run h3 (hR t) hb, if_neg (by decide)]
        exact rest (.tup []) s m undef w h hS (Goes.refl _ _ _) ⟨#[], rfl, rfl⟩
      · exact h.elim

/-! ### Drawn -/

theorem slotOf_lt {rs : List ROp} : ∀ {i j : Nat}, i < j → isAt rs isNew i = true → slotOf rs i < slotOf rs j := by
  intro i j hij hn
  unfold slotOf
  unfold isAt at hn
  split at hn
  · rename_i r hr
    have hlt : i < rs.length := (List.getElem?_eq_some_iff.1 hr).1
    have h1 : rs.take j = rs.take i ++ (r :: (rs.take j).drop (i + 1)) := by
      have h2 : (rs.take j).take i = rs.take i := by rw [List.take_take]; congr 1; omega
      have h3 : (rs.take j)[i]? = some r := by rw [List.getElem?_take, if_pos hij]; exact hr
      have h4 := List.take_append_drop i (rs.take j)
      rw [h2] at h4
      rw [← h4]
      congr 1
      rw [← h2, List.take_append_drop]
      have h5 : i < (rs.take j).length := (List.getElem?_eq_some_iff.1 h3).1
      rw [List.drop_eq_getElem_cons h5]
      congr 1
      exact (List.getElem?_eq_some_iff.1 h3).2
    rw [h1]
    simp [hn]
  · simp at hn

theorem slotOf_inj {rs : List ROp} {i j : Nat} (hi : isAt rs isNew i = true) (hj : isAt rs isNew j = true) (h : slotOf rs i = slotOf rs j) : i = j := by
  rcases Nat.lt_trichotomy i j with k | k | k
  · have := slotOf_lt k hi; omega
  · exact k
  · have := slotOf_lt k hj; omega

section
variable {X : Oracle} {ops : Array Oper} {N : Nat} {rs : List ROp} {B : List Nat}

theorem okT_spec (h : okT rs B = true) {i j : Nat} {a b : ROp} (hij : i < j) (ha : rs[i]? = some a) (hb : rs[j]? = some b) : ahead B j i = true ∨ (touch a b = false ∧ (isEff a.op = false ∨ isEff b.op = false)) := by
  unfold okT at h
  rw [List.all_eq_true] at h
  have hj : j < rs.length := (List.getElem?_eq_some_iff.1 hb).1
  have h1 := h j (by simp [hj])
  rw [List.all_eq_true] at h1
  have h2 := h1 i (by simp [hij])
  simp only [ha, hb, Bool.or_eq_true, Bool.not_eq_true', Bool.or_eq_false_iff, Bool.and_eq_false_iff] at h2
  exact h2

theorem okB_spec (h : okB ops.toList B = true) {j : Nat} {o : Oper} (ho : ops[j]? = some o) : (∀ n ∈ needsOf o, n < j) ∧ ∀ i, i < ops.size → ahead B j i = true → ∃ n ∈ needsOf o, n = i ∨ ahead B n i = true := by
  unfold okB at h
  rw [List.all_eq_true] at h
  have hj : j < ops.size := (Array.getElem?_eq_some_iff.1 ho).1
  have h1 := h j (by simp [hj])
  have ho' : ops.toList[j]? = some o := by simpa using ho
  rw [ho'] at h1
  simp only [Bool.and_eq_true, List.all_eq_true] at h1
  refine ⟨fun n hn => by have := h1.1 n hn; simpa using this, fun i hi ha => ?_⟩
  have h2 := h1.2 i (by simp [hi])
  rw [ha] at h2
  simp at h2
  obtain ⟨n, hn, h3⟩ := h2
  exact ⟨n, hn, h3⟩

/-- What has been done is closed under what is ahead. -/
def Closed (ops : Array Oper) (lst : Nat → Bool) : Prop := ∀ (j : Nat) (o : Oper), ops[j]? = some o → lst j = true → ∀ n ∈ needsOf o, lst n = true

theorem closed_ahead (hB : okB ops.toList B = true) {lst : Nat → Bool} (hc : Closed ops lst) : ∀ (j : Nat), (∀ o, ops[j]? = some o → (∀ n ∈ needsOf o, lst n = true) → ∀ i, i < ops.size → ahead B j i = true → lst i = true) := by
  intro j
  induction j using Nat.strongRecOn with
  | _ j ih =>
    intro o ho hn i hi ha
    obtain ⟨h1, h2⟩ := okB_spec hB ho
    obtain ⟨n, hn', h3⟩ := h2 i hi ha
    rcases h3 with rfl | h3
    · exact hn _ hn'
    · have hnj := h1 n hn'
      cases hon : ops[n]? with
      | none => have := Array.getElem?_eq_none_iff.1 hon; have := (Array.getElem?_eq_some_iff.1 ho).1; omega
      | some o' => exact ih n hnj o' hon (hc n o' hon (hn n hn')) i hi h3

theorem touch_dst {a b : ROp} (h : touch a b = false) : (∀ d, a.dst = some d → d ∉ b.names) ∧ (∀ d, b.dst = some d → d ∉ a.names) := by
  unfold touch at h
  simp only [Bool.or_eq_false_iff] at h
  refine ⟨fun d hd => ?_, fun d hd => ?_⟩
  · have := h.1; rw [hd] at this; simpa using this
  · have := h.2; rw [hd] at this; simpa using this

theorem names_dst {r : ROp} {d : Nat} (h : r.dst = some d) : d ∈ r.names := by unfold ROp.names; simp [h]
theorem names_temps {r : ROp} {t : Nat} (h : t ∈ r.op.temps) : t ∈ r.names := by unfold ROp.names; simp [h]
theorem names_guard {r : ROp} {t : Nat} {b : Bool} (h : r.g = some (t, b)) : t ∈ r.names := by unfold ROp.names; simp [h]
end

end Go.Ev
