import Derived.Calls
import Derived.Orders
import Derived.KernelRfl
/-! The abstract machine: values, stores, and how they stand to the model's. -/
namespace Go.Ev
set_option linter.unusedVariables false
set_option linter.unusedSimpArgs false

/-- Abstract values: pointers name logical blocks. `undef`: nothing is known. -/
inductive AV where
  | undef
  | bool (b : Bool)
  | int (k : IntKind) (n : Int)
  | str (s : ByteArray)
  | nilp
  | ptr (b o : Nat)
  | nils
  | sl (b o e n : Nat) (c : Option Nat)
  | nilm
  | map (b : Nat)
  | nilf
  | fn (f : Nat) (cs : List AV)
  | nili
  | ifc (t : Nat) (v : AV)
  | agg (cs : List AV)
  | tup (cs : List AV)

/-- Where a logical block lies: the block, where in it cell 0 is, how many cells the block has. -/
structure Loc where
  c : Nat
  d : Nat
  z : Nat

abbrev Inj := Nat → Option Loc

def Inj.le (m m' : Inj) : Prop := ∀ i l, m i = some l → m' i = some l
theorem Inj.le_refl (m : Inj) : m.le m := fun _ _ h => h
theorem Inj.le_trans {a b c : Inj} (h : a.le b) (k : b.le c) : a.le c := fun i l e => k i l (h i l e)

mutual
/-- The value `v` is what `a` says, the logical blocks lying where `m` says. -/
def VR (m : Inj) : AV → Value → Prop
  | .undef, _ => True
  | .bool b, v => v = .bool b
  | .int k n, v => v = .int k n
  | .str s, v => v = .string s
  | .nilp, v => v = .pointer none
  | .ptr b o, v => ∃ l, m b = some l ∧ v = .pointer (some ⟨l.c, l.d + o, none⟩)
  | .nils, v => v = .slice none 0 0
  | .sl b o e n c, v => ∃ l k x, m b = some l ∧ v = .slice (some ⟨l.c, x, none⟩) n k ∧ n ≤ k ∧ x + k * e ≤ l.z ∧ (x = l.d + o ∨ k = 0) ∧ (∀ y, c = some y → k = y)
  | .nilm, v => v = .map none
  | .map b, v => ∃ l, m b = some l ∧ v = .map (some l.c)
  | .nilf, v => v = .nilFunc
  | .fn f cs, v => ∃ vs : Array Value, v = .func (.func f) #[] vs ∧ VRs m cs vs.toList
  | .nili, v => v = .nilIface
  | .ifc t a, v => ∃ x, v = .iface t x ∧ VR m a x
  | .agg cs, v => ∃ vs : Array Value, v = .agg vs ∧ VRs m cs vs.toList
  | .tup cs, v => ∃ vs : Array Value, v = .tuple vs ∧ VRs m cs vs.toList
def VRs (m : Inj) : List AV → List Value → Prop
  | [], l => l = []
  | a :: as, l => ∃ v vs, l = v :: vs ∧ VR m a v ∧ VRs m as vs
end

mutual
theorem VR.mono {m m' : Inj} (h : m.le m') : ∀ (a : AV) (v : Value), VR m a v → VR m' a v
  | .undef, _, _ => trivial
  | .bool _, _, e => e
  | .int _ _, _, e => e
  | .str _, _, e => e
  | .nilp, _, e => e
  | .ptr b o, _, ⟨l, e, f⟩ => ⟨l, h _ _ e, f⟩
  | .nils, _, e => e
  | .sl _ _ _ _ _, _, ⟨l, k, x, e, f⟩ => ⟨l, k, x, h _ _ e, f⟩
  | .nilm, _, e => e
  | .map _, _, ⟨l, e, f⟩ => ⟨l, h _ _ e, f⟩
  | .nilf, _, e => e
  | .fn _ cs, _, ⟨vs, e, f⟩ => ⟨vs, e, VRs.mono h cs _ f⟩
  | .nili, _, e => e
  | .ifc _ a, _, ⟨x, e, f⟩ => ⟨x, e, VR.mono h a x f⟩
  | .agg cs, _, ⟨vs, e, f⟩ => ⟨vs, e, VRs.mono h cs _ f⟩
  | .tup cs, _, ⟨vs, e, f⟩ => ⟨vs, e, VRs.mono h cs _ f⟩
theorem VRs.mono {m m' : Inj} (h : m.le m') : ∀ (a : List AV) (v : List Value), VRs m a v → VRs m' a v
  | [], _, e => e
  | a :: as, _, ⟨v, vs, e, f, g⟩ => ⟨v, vs, e, VR.mono h a v f, VRs.mono h as vs g⟩
end

theorem VRs.length {m : Inj} : ∀ {as : List AV} {l : List Value}, VRs m as l → l.length = as.length
  | [], _, e => by rw [e]; rfl
  | _ :: as, _, ⟨v, vs, e, _, g⟩ => by rw [e]; simp [VRs.length g]

theorem VRs.get {m : Inj} : ∀ {as : List AV} {l : List Value}, VRs m as l → ∀ {i : Nat} {a : AV}, as[i]? = some a → ∃ v, l[i]? = some v ∧ VR m a v
  | [], _, _, i, a, h => by simp at h
  | _ :: as, _, ⟨v, vs, e, f, g⟩, i, a, h => by
    subst e
    cases i with
    | zero => simp at h; subst h; exact ⟨v, rfl, f⟩
    | succ i => simp at h; obtain ⟨u, hu, hr⟩ := VRs.get g h; exact ⟨u, by simpa using hu, hr⟩

theorem VRs.of_get {m : Inj} : ∀ {as : List AV} {l : List Value}, l.length = as.length → (∀ (i : Nat) (a : AV) (v : Value), as[i]? = some a → l[i]? = some v → VR m a v) → VRs m as l
  | [], l, h, _ => by simp at h; subst h; rfl
  | a :: as, [], h, _ => by simp at h
  | a :: as, v :: vs, h, k => ⟨v, vs, rfl, k 0 a v rfl rfl, VRs.of_get (by simpa using h) fun i b u hb hu => k (i + 1) b u (by simpa using hb) (by simpa using hu)⟩

theorem VRs.append {m : Inj} : ∀ {as bs : List AV} {l k : List Value}, VRs m as l → VRs m bs k → VRs m (as ++ bs) (l ++ k)
  | [], _, _, _, e, g => by rw [e]; exact g
  | a :: as, _, _, _, ⟨v, vs, e, f, g⟩, r => by rw [e]; exact ⟨v, vs ++ _, rfl, f, VRs.append g r⟩

theorem VRs.replicate {m : Inj} {a : AV} {v : Value} (h : VR m a v) : ∀ n, VRs m (List.replicate n a) (List.replicate n v)
  | 0 => rfl
  | n + 1 => ⟨v, _, rfl, h, VRs.replicate h n⟩

theorem VRs.drop {m : Inj} : ∀ {as : List AV} {l : List Value} (n : Nat), VRs m as l → VRs m (as.drop n) (l.drop n)
  | _, _, 0, e => e
  | [], _, n + 1, e => by rw [e]; rfl
  | _ :: as, _, n + 1, ⟨v, vs, e, f, g⟩ => by rw [e]; exact VRs.drop n g

theorem VRs.take {m : Inj} : ∀ {as : List AV} {l : List Value} (n : Nat), VRs m as l → VRs m (as.take n) (l.take n)
  | _, _, 0, e => by simp [VRs]
  | [], _, n + 1, e => by rw [e]; rfl
  | _ :: as, _, n + 1, ⟨v, vs, e, f, g⟩ => by rw [e]; exact ⟨v, _, rfl, f, VRs.take n g⟩

theorem VRs.set {m : Inj} : ∀ {as : List AV} {l : List Value} (n : Nat) {a : AV} {v : Value}, VRs m as l → VR m a v → VRs m (as.set n a) (l.set n v)
  | [], _, _, _, _, e, _ => by rw [e]; rfl
  | _ :: as, _, 0, a, v, ⟨u, vs, e, f, g⟩, h => by rw [e]; exact ⟨v, vs, rfl, h, g⟩
  | _ :: as, _, n + 1, a, v, ⟨u, vs, e, f, g⟩, h => by rw [e]; exact ⟨u, _, rfl, f, VRs.set n g h⟩

/-- One value of one cell: what a store may put into a cell. -/
def AV.cell : AV → Bool
  | .undef | .agg _ | .tup _ => false
  | _ => true

def Value.isCell : Value → Bool
  | .agg _ | .tuple _ => false
  | _ => true

theorem VR.cell {m : Inj} {a : AV} {v : Value} (h : VR m a v) (hc : a.cell = true) : Value.isCell v = true := by
  cases a <;> simp [AV.cell] at hc <;> simp [VR] at h
  all_goals (first | (subst h; rfl) | (obtain ⟨_, h⟩ := h; simp [h]; rfl) | (obtain ⟨_, _, h⟩ := h; simp [h]; rfl) | (obtain ⟨_, _, _, _, h, _⟩ := h; simp [h]; rfl) | (obtain ⟨_, _, _, h, _⟩ := h; simp [h]; rfl) | (obtain ⟨h, _⟩ := h; simp [h]; rfl) | skip)

/-- The cells of a value. -/
def AV.cells : AV → List AV
  | .agg cs => cs
  | v => [v]

theorem VR.cells {m : Inj} {a : AV} {v : Value} (h : VR m a v) (hu : a.cell = true ∨ ∃ cs, a = .agg cs) : VRs m a.cells v.cells.toList := by
  rcases hu with hc | ⟨cs, rfl⟩
  · have hv := VR.cell h hc
    have e : a.cells = [a] := by cases a <;> simp_all [AV.cell, AV.cells]
    have e' : v.cells = #[v] := by cases v <;> simp_all [Value.isCell, Value.cells]
    rw [e, e']
    exact ⟨v, [], rfl, h, rfl⟩
  · obtain ⟨vs, rfl, hr⟩ := h
    exact hr

/-- A constant of the program. -/
def ofScalar : Value → Option AV
  | .bool b => some (.bool b)
  | .int k n => some (.int k n)
  | .string s => some (.str s)
  | .pointer none => some .nilp
  | .slice none 0 0 => some .nils
  | .map none => some .nilm
  | .nilFunc => some .nilf
  | .nilIface => some .nili
  | _ => none

def ofScalars : List Value → Option (List AV)
  | [] => some []
  | v :: vs => match ofScalar v, ofScalars vs with
    | some a, some as => some (a :: as)
    | _, _ => none

def ofConst : Value → Option AV
  | .agg vs => (ofScalars vs.toList).map .agg
  | v => ofScalar v

theorem ofScalar_vr {m : Inj} {v : Value} {a : AV} (h : ofScalar v = some a) : VR m a v := by
  unfold ofScalar at h
  split at h <;> simp at h <;> subst h <;> simp [VR]

theorem ofScalar_cell {v : Value} {a : AV} (h : ofScalar v = some a) : a.cell = true := by
  unfold ofScalar at h
  split at h <;> simp at h <;> subst h <;> rfl

theorem ofScalars_vr {m : Inj} : ∀ {vs : List Value} {as : List AV}, ofScalars vs = some as → VRs m as vs
  | [], as, h => by simp [ofScalars] at h; subst h; rfl
  | v :: vs, as, h => by
    simp only [ofScalars] at h
    split at h <;> simp at h
    subst h
    rename_i h1 h2
    exact ⟨v, vs, rfl, ofScalar_vr h1, ofScalars_vr h2⟩

theorem ofScalars_cell : ∀ {vs : List Value} {as : List AV}, ofScalars vs = some as → ∀ a ∈ as, a.cell = true
  | [], as, h => by simp [ofScalars] at h; subst h; simp
  | v :: vs, as, h => by
    simp only [ofScalars] at h
    split at h <;> simp at h
    subst h
    rename_i h1 h2
    intro x hx
    rcases List.mem_cons.1 hx with rfl | hx
    · exact ofScalar_cell h1
    · exact ofScalars_cell h2 x hx

theorem ofConst_vr {m : Inj} {v : Value} {a : AV} (h : ofConst v = some a) : VR m a v := by
  unfold ofConst at h
  split at h
  · rename_i vs
    simp at h
    obtain ⟨as, h1, rfl⟩ := h
    exact ⟨vs, rfl, ofScalars_vr h1⟩
  · exact ofScalar_vr h

/-- A logical block. `own`: made by the run itself, and written by it alone. -/
inductive Blk where
  | dead
  | cells (own : Bool) (cs : List AV)
  | map (es : List (AV × AV × Nat)) (clock : Nat)
  | obj (o : Obj)

abbrev St := List Blk

def BR (m : Inj) (d z : Nat) : Blk → Obj → Prop
  | .dead, _ => True
  | .cells own cs, o => ∃ c t fz, o = .cells c t fz ∧ c.size = z ∧ (∀ (i : Nat) (a : AV), cs[i]? = some a → ∃ v : Value, c[d + i]? = some v ∧ VR m a v) ∧
      (own = true → ∀ k, k < c.size → ¬ (fz.1 ≤ k ∧ k < fz.2))
  | .map es clock, o => ∃ cs : Array MapEntry, o = .map cs clock ∧ cs.size = es.length ∧ ∀ (i : Nat) (k v : AV) (b : Nat), es[i]? = some (k, v, b) → ∃ e : MapEntry, cs[i]? = some e ∧ VR m k e.key ∧ VR m v e.val ∧ e.born = b
  | .obj o, o' => o' = o

theorem BR.mono {m m' : Inj} (h : m.le m') {d z : Nat} {b : Blk} {o : Obj} (r : BR m d z b o) : BR m' d z b o := by
  cases b with
  | dead => trivial
  | cells own cs =>
    obtain ⟨c, t, fz, e, hz, hr, hf⟩ := r
    exact ⟨c, t, fz, e, hz, fun i a hi => let ⟨v, hv, hr⟩ := hr i a hi; ⟨v, hv, VR.mono h a v hr⟩, hf⟩
  | map es clock =>
    obtain ⟨cs, e, hz, hr⟩ := r
    exact ⟨cs, e, hz, fun i k v b hi => let ⟨x, hx, h1, h2, h3⟩ := hr i k v b hi; ⟨x, hx, VR.mono h _ _ h1, VR.mono h _ _ h2, h3⟩⟩
  | obj o => exact r

/-- The block is nobody's to write: dead, or handed in. -/
def ro (s : St) (i : Nat) : Prop := s[i]? = some .dead ∨ ∃ cs, s[i]? = some (.cells false cs)

structure Sim (m : Inj) (s : St) (w : World) : Prop where
  at_ : ∀ i l, m i = some l → ∃ b o, s[i]? = some b ∧ w.heap[l.c]? = some o ∧ BR m l.d l.z b o
  inj : ∀ i j l l', m i = some l → m j = some l' → l.c = l'.c → ¬ ro s i → i = j ∨ s[j]? = some .dead

/-- Nothing that is handed in maps to the concrete block for writing. -/
def Hands (m : Inj) (s : St) (c : Nat) : Prop := ∀ i l, m i = some l → l.c = c → ro s i

/-- How the world went on. -/
structure Goes (m : Inj) (s : St) (w : World) (m' : Inj) (s' : St) (w' : World) : Prop where
  le : m.le m'
  new : ∀ i l, m' i = some l → m i = some l ∨ s.length ≤ i
  len : s.length ≤ s'.length
  os : w'.os = w.os
  tape : w'.tape = w.tape
  output : w'.output = w.output
  size : w.heap.size ≤ w'.heap.size
  keep : ∀ c, c < w.heap.size → Hands m s c → w'.heap[c]? = w.heap[c]? ∧ Hands m' s' c

theorem Goes.refl (m : Inj) (s : St) (w : World) : Goes m s w m s w :=
  ⟨Inj.le_refl m, fun _ _ h => .inl h, Nat.le_refl _, rfl, rfl, rfl, Nat.le_refl _, fun _ _ h => ⟨rfl, h⟩⟩

theorem Goes.trans {m m1 m2 : Inj} {s s1 s2 : St} {w w1 w2 : World} (h : Goes m s w m1 s1 w1) (k : Goes m1 s1 w1 m2 s2 w2) : Goes m s w m2 s2 w2 :=
  ⟨Inj.le_trans h.le k.le, fun i l e => by
      rcases k.new i l e with e | e
      · exact h.new i l e
      · exact .inr (Nat.le_trans h.len e),
    Nat.le_trans h.len k.len, k.os.trans h.os, k.tape.trans h.tape, k.output.trans h.output, Nat.le_trans h.size k.size, fun c hc hr =>
    let ⟨e1, r1⟩ := h.keep c hc hr
    let ⟨e2, r2⟩ := k.keep c (Nat.lt_of_lt_of_le hc h.size) r1
    ⟨e2.trans e1, r2⟩⟩

theorem Sim.lt {m : Inj} {s : St} {w : World} (h : Sim m s w) {i : Nat} {l : Loc} (hi : m i = some l) : i < s.length ∧ l.c < w.heap.size := by
  obtain ⟨b, o, h1, h2, _⟩ := h.at_ i l hi
  refine ⟨?_, ?_⟩
  · exact (List.getElem?_eq_some_iff.1 h1).1
  · rcases Nat.lt_or_ge l.c w.heap.size with k | k
    · exact k
    · simp [Array.getElem?_eq_none k] at h2

/-- The run's temporaries. -/
abbrev Env := List AV
def Env.get (e : Env) (t : Nat) : AV := e.getD t .undef
def Env.put : Env → Nat → AV → Env
  | [], 0, v => [v]
  | [], n + 1, v => .undef :: Env.put [] n v
  | _ :: e, 0, v => v :: e
  | a :: e, n + 1, v => a :: Env.put e n v

theorem Env.get_put (e : Env) (i j : Nat) (v : AV) : (e.put i v).get j = if j = i then v else e.get j := by
  induction e, i, v using Env.put.induct generalizing j with
  | case1 v => cases j <;> simp [Env.put, Env.get]
  | case2 n v ih => cases j with
    | zero => simp [Env.put, Env.get]
    | succ j => simpa [Env.put, Env.get] using ih j
  | case3 a e v => cases j <;> simp [Env.put, Env.get]
  | case4 a e n v ih => cases j with
    | zero => simp [Env.put, Env.get]
    | succ j => simpa [Env.put, Env.get] using ih j

def ER (m : Inj) (e : Env) (a : Act) : Prop := ∀ t, VR m (e.get t) (a.tmps.getD t undef)

theorem ER.mono {m m' : Inj} (h : m.le m') {e : Env} {a : Act} (r : ER m e a) : ER m' e a := fun t => VR.mono h _ _ (r t)

theorem ER.put {m : Inj} {e : Env} {a : Act} (r : ER m e a) {t : Nat} {x : AV} {v : Value} (ht : t < a.tmps.size) (h : VR m x v) : ER m (e.put t x) (a.put (some t) v) := by
  intro j
  rw [Env.get_put]
  simp only [Act.put]
  by_cases hj : j = t
  · subst hj; simp [ht, h]
  · rw [if_neg hj]
    have := r j
    simp only [Array.getD_eq_getD_getElem?] at this ⊢
    rw [Array.getElem?_setIfInBounds_ne (by omega)]
    exact this

end Go.Ev
