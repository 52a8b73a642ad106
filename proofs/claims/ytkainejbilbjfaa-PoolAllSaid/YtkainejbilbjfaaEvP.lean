import Derived.Test.YtkainejbilbjfaaEvO
/-! Functions: what is known behind a call; blocks that nobody holds are dropped. -/
namespace Go.Ev
set_option linter.unusedVariables false
set_option linter.unusedSimpArgs false
variable {P : Program} {E : Ex}

mutual
/-- Logical blocks under other numbers. -/
def AV.ren (f : Nat → Nat) : AV → AV
  | .ptr b o => .ptr (f b) o
  | .sl b o e n c => .sl (f b) o e n c
  | .map b => .map (f b)
  | .fn g cs => .fn g (AV.rens f cs)
  | .ifc t v => .ifc t (AV.ren f v)
  | .agg cs => .agg (AV.rens f cs)
  | .tup cs => .tup (AV.rens f cs)
  | .undef => .undef
  | .bool b => .bool b
  | .int k n => .int k n
  | .str s => .str s
  | .nilp => .nilp
  | .nils => .nils
  | .nilm => .nilm
  | .nilf => .nilf
  | .nili => .nili
def AV.rens (f : Nat → Nat) : List AV → List AV
  | [] => []
  | a :: as => AV.ren f a :: AV.rens f as
end

theorem AV.rens_get (f : Nat → Nat) : ∀ (as : List AV) (i : Nat), (AV.rens f as)[i]? = (as[i]?).map (AV.ren f)
  | [], i => by simp [AV.rens]
  | a :: as, 0 => by simp [AV.rens]
  | a :: as, i + 1 => by simp [AV.rens, AV.rens_get f as i]

mutual
theorem VR.ren {m : Inj} {f : Nat → Nat} : ∀ (a : AV) (v : Value), VR m (a.ren f) v ↔ VR (fun i => m (f i)) a v
  | .undef, _ => Iff.rfl
  | .bool _, _ => Iff.rfl
  | .int _ _, _ => Iff.rfl
  | .str _, _ => Iff.rfl
  | .nilp, _ => Iff.rfl
  | .ptr _ _, _ => Iff.rfl
  | .nils, _ => Iff.rfl
  | .sl _ _ _ _ _, _ => Iff.rfl
  | .nilm, _ => Iff.rfl
  | .map _, _ => Iff.rfl
  | .nilf, _ => Iff.rfl
  | .fn _ cs, _ => exists_congr fun vs => and_congr Iff.rfl (VRs.ren cs _)
  | .nili, _ => Iff.rfl
  | .ifc _ a, _ => exists_congr fun x => and_congr Iff.rfl (VR.ren a x)
  | .agg cs, _ => exists_congr fun vs => and_congr Iff.rfl (VRs.ren cs _)
  | .tup cs, _ => exists_congr fun vs => and_congr Iff.rfl (VRs.ren cs _)
theorem VRs.ren {m : Inj} {f : Nat → Nat} : ∀ (as : List AV) (vs : List Value), VRs m (AV.rens f as) vs ↔ VRs (fun i => m (f i)) as vs
  | [], _ => Iff.rfl
  | a :: as, _ => exists_congr fun v => exists_congr fun vs => and_congr Iff.rfl (and_congr (VR.ren a v) (VRs.ren as vs))
end

mutual
/-- Whoever has been related names blocks that are known: so he stays related where fewer are. -/
theorem VR.back {m m' : Inj} (h : m.le m') : ∀ (a : AV) (v v' : Value), VR m a v → VR m' a v' → VR m a v'
  | .undef, _, _, _, _ => trivial
  | .bool _, _, _, _, e => e
  | .int _ _, _, _, _, e => e
  | .str _, _, _, _, e => e
  | .nilp, _, _, _, e => e
  | .ptr b o, _, _, ⟨l, h1, _⟩, ⟨l', h3, h4⟩ => by have := h _ _ h1; rw [h3] at this; cases this; exact ⟨l, h1, h4⟩
  | .nils, _, _, _, e => e
  | .sl b o e n c, _, _, ⟨l, _, _, h1, _⟩, ⟨l', k, x, h3, h4⟩ => by have := h _ _ h1; rw [h3] at this; cases this; exact ⟨l, k, x, h1, h4⟩
  | .nilm, _, _, _, e => e
  | .map b, _, _, ⟨l, h1, _⟩, ⟨l', h3, h4⟩ => by have := h _ _ h1; rw [h3] at this; cases this; exact ⟨l, h1, h4⟩
  | .nilf, _, _, _, e => e
  | .fn _ cs, _, _, ⟨_, _, h1⟩, ⟨vs, h2, h3⟩ => ⟨vs, h2, VRs.back h cs _ _ h1 h3⟩
  | .nili, _, _, _, e => e
  | .ifc _ a, _, _, ⟨_, _, h1⟩, ⟨x, h2, h3⟩ => ⟨x, h2, VR.back h a _ _ h1 h3⟩
  | .agg cs, _, _, ⟨_, _, h1⟩, ⟨vs, h2, h3⟩ => ⟨vs, h2, VRs.back h cs _ _ h1 h3⟩
  | .tup cs, _, _, ⟨_, _, h1⟩, ⟨vs, h2, h3⟩ => ⟨vs, h2, VRs.back h cs _ _ h1 h3⟩
theorem VRs.back {m m' : Inj} (h : m.le m') : ∀ (as : List AV) (vs vs' : List Value), VRs m as vs → VRs m' as vs' → VRs m as vs'
  | [], _, _, _, e => e
  | a :: as, _, _, ⟨_, _, _, h1, h2⟩, ⟨v, vs, e, h3, h4⟩ => ⟨v, vs, e, VR.back h a _ _ h1 h3, VRs.back h as _ _ h2 h4⟩
end

def Blk.ren (f : Nat → Nat) : Blk → Blk
  | .dead => .dead
  | .cells own cs => .cells own (AV.rens f cs)
  | .map es c => .map (es.map fun x => (x.1.ren f, x.2.1.ren f, x.2.2)) c
  | .obj o => .obj o

theorem BR.ren {m : Inj} {f : Nat → Nat} {d z : Nat} {b : Blk} {o : Obj} (h : BR m d z (b.ren f) o) : BR (fun i => m (f i)) d z b o := by
  cases b with
  | dead => trivial
  | cells own cs =>
    obtain ⟨c, t, fz, e, hz, hr, hf⟩ := h
    refine ⟨c, t, fz, e, hz, fun i a hi => ?_, hf⟩
    obtain ⟨v, hv, hr'⟩ := hr i (a.ren f) (by rw [AV.rens_get, hi]; rfl)
    exact ⟨v, hv, (VR.ren a v).1 hr'⟩
  | map es clock =>
    obtain ⟨cs, e, hz, hr⟩ := h
    refine ⟨cs, e, by simpa using hz, fun i k v b hi => ?_⟩
    obtain ⟨x, hx, h1, h2, h3⟩ := hr i (k.ren f) (v.ren f) b (by rw [List.getElem?_map, hi]; rfl)
    exact ⟨x, hx, (VR.ren k _).1 h1, (VR.ren v _).1 h2, h3⟩
  | obj o => exact h

theorem BR.back {m m' : Inj} (h : m.le m') {d z : Nat} {b : Blk} {o o' : Obj} (h1 : BR m d z b o) (h2 : BR m' d z b o') : BR m d z b o' := by
  cases b with
  | dead => trivial
  | cells own cs =>
    obtain ⟨c, t, fz, e, hz, hr, hf⟩ := h1
    obtain ⟨c', t', fz', e', hz', hr', hf'⟩ := h2
    refine ⟨c', t', fz', e', hz', fun i a hi => ?_, hf'⟩
    obtain ⟨v, _, hv⟩ := hr i a hi
    obtain ⟨v', h3, hv'⟩ := hr' i a hi
    exact ⟨v', h3, VR.back h a v v' hv hv'⟩
  | map es clock =>
    obtain ⟨cs, e, hz, hr⟩ := h1
    obtain ⟨cs', e', hz', hr'⟩ := h2
    refine ⟨cs', e', hz', fun i k v b hi => ?_⟩
    obtain ⟨x, _, a1, a2, a3⟩ := hr i k v b hi
    obtain ⟨x', h3, b1, b2, b3⟩ := hr' i k v b hi
    exact ⟨x', h3, VR.back h k _ _ a1 b1, VR.back h v _ _ a2 b2, b3⟩
  | obj o => exact h2

/-- The numbers behind a dropping: the caller's own stay, the kept ones follow. -/
def keepF (n : Nat) (ρ : List Nat) (top : Nat) (i : Nat) : Nat := if i < n then i else ρ.getD (i - n) top

/-- Blocks that nobody holds any more are dropped: `r0`, `s1` become `r`, `s'`. -/
structure Gc (s : St) (r0 : AV) (s1 : St) (r : AV) (s' : St) : Prop where
  ex : ∃ (ρ : List Nat) (fresh : List Blk), s' = s1.take s.length ++ fresh ∧ ρ.length = fresh.length ∧ ρ.Nodup ∧ (∀ x ∈ ρ, s.length ≤ x) ∧ s.length ≤ s1.length ∧
    (∀ i b, i < s.length → s1[i]? = some b → s[i]? = some b ∨ b.ren (keepF s.length ρ s1.length) = b) ∧
    r.ren (keepF s.length ρ s1.length) = r0 ∧
    (∀ (j : Nat) (b : Blk) (x : Nat), fresh[j]? = some b → ρ[j]? = some x → s1[x]? = some (b.ren (keepF s.length ρ s1.length)))

theorem ro_ren {s s1 : St} {i j : Nat} {f : Nat → Nat} (h : s1[j]? = (s[i]?).map (Blk.ren f) ∨ s1[j]? = s[i]?) : ro s1 j ↔ ro s i := by
  unfold ro
  rcases h with h | h
  · rw [h]
    cases hs : s[i]? with
    | none => simp
    | some b => cases b <;> simp [Blk.ren]
  · rw [h]

theorem dead_ren {s s1 : St} {i j : Nat} {f : Nat → Nat} (h : s1[j]? = (s[i]?).map (Blk.ren f) ∨ s1[j]? = s[i]?) (hd : s1[j]? = some .dead) : s[i]? = some .dead := by
  rcases h with h | h
  · rw [hd] at h
    cases hs : s[i]? with
    | none => rw [hs] at h; simp at h
    | some b => rw [hs] at h; cases b <;> simp [Blk.ren] at h ⊢
  · rw [← h]; exact hd

theorem Gc.sound {m m1 : Inj} {s s1 s' : St} {w w1 : World} {r0 r : AV} {v : Value} (g : Gc s r0 s1 r s') (h0 : Sim m s w) (h1 : Sim m1 s1 w1) (hG : Goes m s w m1 s1 w1) (hv : VR m1 r0 v) :
    ∃ m2, Sim m2 s' w1 ∧ Goes m s w m2 s' w1 ∧ VR m2 r v := by
  obtain ⟨ρ, fresh, rfl, hρ, hnd, hge, hlen, hold, hr, hfr⟩ := g.ex
  let f := keepF s.length ρ s1.length
  have flt : ∀ i, i < s.length → f i = i := fun i hi => by show keepF _ _ _ _ = _; unfold keepF; rw [if_pos hi]
  have fge : ∀ i, s.length ≤ i → f i = ρ.getD (i - s.length) s1.length := fun i hi => by show keepF _ _ _ _ = _; unfold keepF; rw [if_neg (by omega)]
  have htl : (s1.take s.length).length = s.length := by simp; omega
  have getl : ∀ i, i < s.length → (s1.take s.length ++ fresh)[i]? = s1[i]? := fun i hi => by
    rw [List.getElem?_append_left (by omega), List.getElem?_take, if_pos hi]
  have getr : ∀ i, s.length ≤ i → (s1.take s.length ++ fresh)[i]? = fresh[i - s.length]? := fun i hi => by
    rw [List.getElem?_append_right (by omega), htl]
  have top : m1 s1.length = none := h1.fresh (Nat.le_refl _)
  -- a known block behind the dropping
  have known : ∀ i l, m1 (f i) = some l → i < s.length ∨ (s.length ≤ i ∧ ∃ x b, ρ[i - s.length]? = some x ∧ f i = x ∧ fresh[i - s.length]? = some b ∧ s1[x]? = some (b.ren f)) := by
    intro i l hi
    rcases Nat.lt_or_ge i s.length with h | h
    · exact .inl h
    · right
      refine ⟨h, ?_⟩
      rw [fge i h] at hi
      cases hx : ρ[i - s.length]? with
      | none => rw [List.getD_eq_getElem?_getD, hx] at hi; simp [top] at hi
      | some x =>
        have hlt : i - s.length < fresh.length := by rw [← hρ]; exact (List.getElem?_eq_some_iff.1 hx).1
        refine ⟨x, fresh[i - s.length], rfl, by rw [fge i h, List.getD_eq_getElem?_getD, hx]; rfl, by simp [hlt], ?_⟩
        exact hfr _ _ x (by simp [hlt]) hx
  have link : ∀ i l, m1 (f i) = some l → s1[f i]? = ((s1.take s.length ++ fresh)[i]?).map (Blk.ren f) ∨ s1[f i]? = (s1.take s.length ++ fresh)[i]? := by
    intro i l hi
    rcases known i l hi with h | ⟨h, x, b, hx, hfx, hb, hs1⟩
    · right; rw [flt i h, getl i h]
    · left; rw [getr i h, hb, hfx]; exact hs1
  have mle : m.le fun i => m1 (f i) := fun i l hi => by
    have := (h0.lt hi).1
    show m1 (f i) = some l
    rw [flt i this]; exact hG.le i l hi
  refine ⟨fun i => m1 (f i), ⟨?_, ?_⟩, ⟨mle, ?_, by simp; omega, hG.os, hG.tape, hG.output, hG.size, ?_⟩, ?_⟩
  · intro i l hi
    rcases known i l hi with h | ⟨h, x, b, hx, hfx, hb, hs1⟩
    · have hi' : m1 i = some l := by have : m1 (f i) = some l := hi; rwa [flt i h] at this
      obtain ⟨b, o, a1, a2, a3⟩ := h1.at_ i l hi'
      refine ⟨b, o, by rw [getl i h]; exact a1, a2, ?_⟩
      rcases hold i b h a1 with e | e
      · have hm : m i = some l := by
          rcases hG.new i l hi' with e' | e'
          · exact e'
          · omega
        obtain ⟨b', o', c1, c2, c3⟩ := h0.at_ i l hm
        rw [e] at c1
        cases c1
        exact BR.mono mle (BR.back hG.le c3 a3)
      · have : BR m1 l.d l.z (b.ren f) o := by show BR m1 l.d l.z (b.ren (keepF _ _ _)) o; rw [e]; exact a3
        exact this.ren
    · have hi' : m1 x = some l := by have : m1 (f i) = some l := hi; rwa [hfx] at this
      obtain ⟨b', o, a1, a2, a3⟩ := h1.at_ x l hi'
      rw [hs1] at a1
      cases a1
      exact ⟨b, o, by rw [getr i h]; exact hb, a2, a3.ren⟩
  · intro i j l l' hi hj hc hn
    have hn' : ¬ ro s1 (f i) := by rw [ro_ren (link i l hi)]; exact hn
    rcases h1.inj (f i) (f j) l l' hi hj hc hn' with e | e
    · left
      rcases known i l hi with h | ⟨h, x, b, hx, hfx, hb, hs1⟩
      · rcases known j l' hj with h' | ⟨h', x', b', hx', hfx', hb', hs1'⟩
        · rw [flt i h, flt j h'] at e; exact e
        · rw [flt i h, hfx'] at e
          have := hge x' (List.mem_of_getElem? hx'); omega
      · rcases known j l' hj with h' | ⟨h', x', b', hx', hfx', hb', hs1'⟩
        · rw [hfx, flt j h'] at e
          have := hge x (List.mem_of_getElem? hx); omega
        · rw [hfx, hfx'] at e
          subst e
          obtain ⟨p1, p2⟩ := List.getElem?_eq_some_iff.1 hx
          obtain ⟨q1, q2⟩ := List.getElem?_eq_some_iff.1 hx'
          have hpw := List.pairwise_iff_getElem.1 hnd
          rcases Nat.lt_trichotomy (i - s.length) (j - s.length) with k | k | k
          · exact absurd (p2.trans q2.symm) (hpw _ _ p1 q1 k)
          · omega
          · exact absurd (q2.trans p2.symm) (hpw _ _ q1 p1 k)
    · right; exact dead_ren (link j l' hj) e
  · intro i l hi
    rcases Nat.lt_or_ge i s.length with h | h
    · have hi' : m1 (f i) = some l := hi
      rw [flt i h] at hi'
      exact hG.new i l hi'
    · exact .inr h
  · intro c hc hH
    obtain ⟨k1, k2⟩ := hG.keep c hc hH
    exact ⟨k1, fun i l hi hlc => (ro_ren (link i l hi)).1 (k2 (f i) l hi hlc)⟩
  · rw [← VR.ren]
    show VR m1 (r.ren (keepF _ _ _)) v
    rw [hr]
    exact hv

/-- A result's place. -/
inductive RR where
  | tmp (t : Nat)
  | cell (n : Option Nat) (t : Nat)

structure RF where
  N : Nat
  res : List RR
  body : RC

def resA : List RR → Env → St → Option (List AV)
  | [], _, _ => some []
  | .tmp t :: rs, e, s => (resA rs e s).map (e.get t :: ·)
  | .cell n t :: rs, e, s => match ldA s n (e.get t), resA rs e s with
    | some v, some vs => some (v :: vs)
    | _, _ => none

def oneV : List AV → AV
  | [v] => v
  | vs => .tup vs

/-- What a call leaves: as it is, or with the dropping done. -/
def Ret (s : St) (r0 : AV) (s1 : St) (k : AV → St → Prop) : Prop := k r0 s1 ∨ ∃ r s', Gc s r0 s1 r s' ∧ k r s'

def endA (F : RF) (s : St) (k : AV → St → Prop) (e : Env) (s1 : St) : Prop := ∃ vs, resA F.res e s1 = some vs ∧ Ret s (oneV vs) s1 k

def bodyA (X : Oracle) (F : RF) (args : List AV) (s : St) (k : AV → St → Prop) : Prop :=
  args.length ≤ F.N ∧ awp X F.body (fun x e s1 => match x with
    | .exit _ => False
    | .nrm => endA F s k e s1
    | .ret => endA F s k e s1) args s

def MonoX (Z : Oracle) : Prop := ∀ f as s k k', (∀ v s, k v s → k' v s) → Z f as s k → Z f as s k'

/-- A call of a function comes to k: the least that the bodies give. -/
def Run (T : Nat → Option RF) (f : Nat) (args : List AV) (s : St) (k : AV → St → Prop) : Prop :=
  ∀ Z : Oracle, MonoX Z → (∀ f F args s k, T f = some F → bodyA Z F args s k → Z f args s k) → Z f args s k

theorem Run.mono {T : Nat → Option RF} : MonoX (Run T) := fun f as s k k' hk h Z hZ hc => hZ f as s k k' hk (h Z hZ hc)

theorem bodyA_mono {X Y : Oracle} (hXY : ∀ f as s k, X f as s k → Y f as s k) (hY : MonoX Y) {F : RF} {args : List AV} {s : St} {k : AV → St → Prop} (h : bodyA X F args s k) : bodyA Y F args s k :=
  ⟨h.1, awp_mono hXY hY F.body (fun _ _ _ h => h) h.2⟩

theorem Run.body {T : Nat → Option RF} {f : Nat} {F : RF} (hf : T f = some F) {args : List AV} {s : St} {k : AV → St → Prop} (h : bodyA (Run T) F args s k) : Run T f args s k :=
  fun Z hZ hc => hc f F args s k hf (bodyA_mono (fun f as s k hr => hr Z hZ hc) hZ h)

def compRes (P : Program) : List ResultVar → Option (List RR)
  | [] => some []
  | .tmp t :: rs => (compRes P rs).map (.tmp t :: ·)
  | .cell a t :: rs => match shp P t, compRes P rs with
    | some n, some l => some (.cell n a :: l)
    | _, _ => none

def compF (P : Program) (E : Ex) (fn : Func) : Option RF :=
  match fn.body with
  | some c => match compC P E fn.ntmps c, compRes P fn.results.toList with
    | some b, some r => some ⟨fn.ntmps, r, b⟩
    | _, _ => none
  | none => none

structure TOK (P : Program) (E : Ex) (T : Nat → Option RF) : Prop where
  ok : ∀ f F, T f = some F → ∃ fn, P.funcs[f]? = some fn ∧ (fn.name == "runtime.NumGoroutine") = false ∧ compF P E fn = some F

theorem res_run {m : Inj} {e : Env} {s : St} {a : Act} {w : World} (hS : Sim m s w) (hR : ER m e a) : ∀ (l : List ResultVar) (rs : List RR) (vs : List AV), compRes P l = some rs → resA rs e s = some vs →
    ∃ us : List Value, VRs m vs us ∧ (l.mapM fun | .tmp t => pure (a.tmps.getD t undef) | .cell c t => do loadVar t (← asAddr (a.tmps.getD c undef)) : Sem (List Value)).run P w = .ok us w
  | [], rs, vs, hc, hr => by
    simp [compRes] at hc; subst hc
    simp [resA] at hr; subst hr
    exact ⟨[], rfl, by simp⟩
  | .tmp t :: l, rs, vs, hc, hr => by
    simp [compRes] at hc
    obtain ⟨rs', hc, rfl⟩ := hc
    simp [resA] at hr
    obtain ⟨vs', hr, rfl⟩ := hr
    obtain ⟨us, h1, h2⟩ := res_run hS hR l rs' vs' hc hr
    refine ⟨a.tmps.getD t undef :: us, ⟨_, _, rfl, hR t, h1⟩, ?_⟩
    simp only [List.mapM_cons, Sem.run_bind, Sem.run_pure, Result.andThen_ok, h2]
  | .cell c t :: l, rs, vs, hc, hr => by
    simp only [compRes] at hc
    split at hc <;> simp at hc
    subst hc
    rename_i n rs' hn hc
    simp only [resA] at hr
    split at hr <;> simp at hr
    subst hr
    rename_i v vs' hv hr
    obtain ⟨us, h1, h2⟩ := res_run hS hR l rs' vs' hc hr
    obtain ⟨u, hu, hl⟩ := loadVar_run hS hn (hR c) hv
    refine ⟨u :: us, ⟨_, _, rfl, hu, h1⟩, ?_⟩
    have hp : ∃ A, a.tmps.getD c undef = .pointer (some A) := by
      have := hR c
      unfold ldA at hv
      split at hv
      · rename_i b o hb; rw [hb] at this; obtain ⟨l, _, e⟩ := this; exact ⟨_, e⟩
      · simp at hv
    obtain ⟨A, hA⟩ := hp
    rw [hA] at hl
    simp only [Instr.loadAt, Instr.sureAddr, Sem.run_bind, Sem.run_pure, Result.andThen_ok] at hl
    have hA' : ∀ w : World, (asAddr (a.tmps.getD c undef)).run P w = .ok A w := fun w => by rw [hA]; rfl
    simp only [List.mapM_cons, Sem.run_bind, hA', Sem.run_pure, Result.andThen_ok, hl, h2]

theorem results_run {m : Inj} {e : Env} {s : St} {a : Act} {w : World} (hS : Sim m s w) (hR : ER m e a) {fn : Func} {rs : List RR} {vs : List AV} (hc : compRes P fn.results.toList = some rs) (hr : resA rs e s = some vs) :
    ∃ u, VR m (oneV vs) u ∧ (results fn a.tmps).run P w = .ok u w := by
  obtain ⟨us, h1, h2⟩ := res_run hS hR fn.results.toList rs vs hc hr
  have hlen := VRs.length h1
  have hrun : (fn.results.mapM fun | .tmp t => pure (a.tmps.getD t undef) | .cell c t => do loadVar t (← asAddr (a.tmps.getD c undef)) : Sem (Array Value)).run P w = .ok us.toArray w := by
    have e1 : fn.results = fn.results.toList.toArray := by simp
    rw [e1, List.mapM_toArray]
    simp only [Sem.run_map, h2, Result.andThen_ok]
  have key : (results fn a.tmps).run P w = (Result.ok us.toArray w).andThen fun vs w' => (pure (if h : vs.size = 1 then vs[0] else .tuple vs) : Sem Value).run P w' := by
    unfold results
    rw [Sem.run_bind]
    exact congrArg (fun r => Result.andThen r _) hrun
  rw [key]
  simp only [Result.andThen_ok, Sem.run_pure]
  clear key hrun h2
  match vs, us, h1, hlen with
  | [], [], _, _ => exact ⟨.tuple #[], ⟨#[], rfl, rfl⟩, by simp⟩
  | [v], [u], ⟨_, _, e, h, _⟩, _ => cases e; exact ⟨u, h, by simp⟩
  | v1 :: v2 :: vs, u1 :: u2 :: us, h, _ => exact ⟨.tuple (u1 :: u2 :: us).toArray, ⟨(u1 :: u2 :: us).toArray, rfl, by simpa using h⟩, by simp⟩

theorem run_sound (hE : ExOK P E) (hm : P.follows .mixedOrders = true) {T : Nat → Option RF} (hT : TOK P E T) : XS P (Run T) := by
  intro f args s k h
  refine h (fun f args s k => Known P f ∧ ∀ m w (vs : Array Value), Sim m s w → VRs m args vs.toList → Calls P f vs w (CQ m s w k)) ?_ ?_
  · intro f as s k k' hk ⟨h1, h2⟩
    exact ⟨h1, fun m w vs hS hv => (h2 m w vs hS hv).mono fun e w' ⟨a, s', m', v, hk', r⟩ => ⟨a, s', m', v, hk a s' hk', r⟩⟩
  · intro f F args s k hf ⟨hlen, hb⟩
    obtain ⟨fn, h1, h2, h3⟩ := hT.ok f F hf
    unfold compF at h3
    split at h3 <;> try (simp at h3; done)
    rename_i c hbody
    split at h3 <;> simp at h3
    rename_i b r hcb hcr
    subst h3
    refine ⟨⟨fn, h1, h2, by simp [hbody]⟩, fun m w vs hS hv => ?_⟩
    have hvl : vs.size = args.length := by rw [← Array.length_toList]; exact VRs.length hv
    refine calls_of_wp h1 hbody ?_
    simp only at hlen
    have hrel : Rel m s w fn.ntmps args s { tmps := vs ++ Array.replicate (fn.ntmps - vs.size) undef, defers := [] } w := by
      refine ⟨m, hS, ?_, Goes.refl _ _ _, by simp; omega, rfl⟩
      intro t
      unfold Env.get
      by_cases ht : t < args.length
      · obtain ⟨v, hv1, hv2⟩ := VRs.get hv (i := t) (a := args[t]) (by simp [ht])
        have e1 : args.getD t .undef = args[t] := by simp [List.getD_eq_getElem?_getD, ht]
        rw [e1]
        have e2 : (vs ++ Array.replicate (fn.ntmps - vs.size) undef).getD t undef = v := by
          rw [Array.getD_eq_getD_getElem?, Array.getElem?_append_left (by omega), ← Array.getElem?_toList, hv1]; rfl
        rw [e2]
        exact hv2
      · have e1 : args.getD t AV.undef = .undef := by rw [List.getD_eq_getElem?_getD, List.getElem?_eq_none (by omega)]; rfl
        rw [e1]
        trivial
    have hXS : XS P (fun f args s k => Known P f ∧ ∀ m w (vs : Array Value), Sim m s w → VRs m args vs.toList → Calls P f vs w (CQ m s w k)) := fun f args s k h => h
    refine code_sound hXS hE hm c b hcb _ _ ?_ args s _ w hrel hb
    have fin : ∀ e s1 a w1, endA ⟨fn.ntmps, r, b⟩ s k e s1 → Rel m s w fn.ntmps e s1 a w1 → a.defers = [] ∧ ∃ v, (results fn a.tmps).run P w1 = .ok v w1 ∧ CQ m s w k (.returned v) w1 := by
      intro e s1 a w1 ⟨vs', hr, hret⟩ ⟨m1, hS1, hR1, hG1, hN1, hD1⟩
      obtain ⟨u, hu, hru⟩ := results_run hS1 hR1 hcr hr
      refine ⟨hD1, u, hru, ?_⟩
      rcases hret with hk | ⟨r', s', hg, hk⟩
      · exact ⟨_, s1, m1, u, hk, rfl, hS1, hG1, hu⟩
      · obtain ⟨m2, g1, g2, g3⟩ := hg.sound hS hS1 hG1 hu
        exact ⟨r', s', m2, u, hk, rfl, g1, g2, g3⟩
    intro x e s1 a w1 hx hr
    cases x with
    | nrm => exact fin e s1 a w1 hx hr
    | exit id => exact hx.elim
    | ret => exact fin e s1 a w1 hx hr

end Go.Ev
