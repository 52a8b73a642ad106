import Derived.Test.YtkainejbilbjfaaEvE
/-! The operations that ask nothing of the store: one theorem. -/
namespace Go.Ev
set_option linter.unusedVariables false
set_option linter.unusedSimpArgs false
variable {P : Program} {m : Inj}

theorem zeroV_agg {t : TypeId} {z : List AV} (h : zeroV P t = some (.agg z)) : ∃ vs : Array Value, (∀ w, (zeroValue t).run P w = .ok (.agg vs) w) ∧ VRs m z vs.toList := by
  obtain ⟨i, v, hi, hv, hc⟩ := zeroV_vr h
  have := ofConst_vr (m := m) hc
  obtain ⟨vs, rfl, hr⟩ := this
  exact ⟨vs, fun w => by simp [zeroValue, run_typeInfo hi, hv], hr⟩

theorem mapM_places (fs : Array Field) (hs : ∀ (i : Nat) (f : Field), fs[i]? = some f → (szOf P f.type).isSome = true) (w : World) :
    ∃ ps : Array (Nat × Nat), (fs.mapM fun f => do pure (f.offset, ← sizeOf f.type) : Sem (Array (Nat × Nat))).run P w = .ok ps w ∧ ∀ i : Nat, ps[i]? = placeS P fs i := by
  obtain ⟨fs⟩ := fs
  have key : ∀ (l : List Field), (∀ (i : Nat) (f : Field), l[i]? = some f → (szOf P f.type).isSome = true) → ∃ ps : List (Nat × Nat), (l.mapM fun f => do pure (f.offset, ← sizeOf f.type) : Sem (List (Nat × Nat))).run P w = .ok ps w ∧
      ∀ i : Nat, ps[i]? = (l[i]?).bind fun f => (szOf P f.type).map fun s => (f.offset, s) := by
    intro l
    induction l with
    | nil => intro _; exact ⟨[], by simp, by simp⟩
    | cons f l ih =>
      intro h
      obtain ⟨ps, h1, h2⟩ := ih fun i g hg => h (i + 1) g (by simpa using hg)
      have hf := h 0 f rfl
      obtain ⟨s, hs⟩ := Option.isSome_iff_exists.1 hf
      refine ⟨(f.offset, s) :: ps, ?_, ?_⟩
      · simp only [List.mapM_cons, Sem.run_bind, run_szOf hs, Result.andThen_ok, Sem.run_pure, h1]
      · intro i
        cases i with
        | zero => simp [hs]
        | succ i => simpa using h2 i
  obtain ⟨ps, h1, h2⟩ := key fs (by simpa using hs)
  refine ⟨ps.toArray, ?_, by simpa [placeS] using h2⟩
  simp only [List.mapM_toArray]
  simp only [Sem.run_map, h1, Result.andThen_ok]

theorem run_sub64 (x y c : Int) (hx : 0 ≤ x) (hy : 0 ≤ y) (hc0 : 0 ≤ c) (hc : c ≤ 1) (hy2 : y < 18446744073709551616) (w : World) :
    (sub64Entry #[.int .u64 x, .int .u64 y, .int .u64 c]).run P w =
      .ok (.tuple #[.int .u64 ((x - y - c) % 18446744073709551616), .int .u64 (if x < y + c then 1 else 0)]) w := by
  have key : ∀ k : Nat, k ≤ 1 → (sub64Entry #[.int .u64 x, .int .u64 y, .int .u64 (k : Int)]).run P w =
      .ok (Extern.MathBitsCarry.pair ((x.toNat + Extern.MathBitsCarry.m64 - y.toNat - k) % Extern.MathBitsCarry.m64) (if x.toNat < y.toNat + k then 1 else 0)) w := by
    intro k hk
    have : k = 0 ∨ k = 1 := by omega
    rcases this with rfl | rfl <;> rfl
  obtain ⟨k, rfl⟩ := Int.eq_ofNat_of_zero_le hc0
  rw [key k (by omega)]
  obtain ⟨X, rfl⟩ := Int.eq_ofNat_of_zero_le hx
  obtain ⟨Y, rfl⟩ := Int.eq_ofNat_of_zero_le hy
  simp only [Extern.MathBitsCarry.pair, Extern.MathBitsCarry.m64, Int.toNat_natCast]
  have e1 : (Int.ofNat ((X + 2 ^ 64 - Y - k) % 2 ^ 64)) = ((X : Int) - Y - k) % 18446744073709551616 := by
    simp only [Int.ofNat_eq_natCast]; omega
  have e2 : (Int.ofNat (if X < Y + k then 1 else 0)) = (if (X : Int) < Y + k then 1 else 0) := by
    split <;> split <;> first | rfl | omega
  rw [e1, e2]

theorem pure_sound {o : Oper} {ro : RO} (hp : ro.isPure = true) {E : Ex} (hX : ExOK P E) (hc : compOp P E o.op o.type = some ro) {e : Env} {a : Act} (hE : ER m e a) {v : AV} (hv : pureA ro e = some v) : Gives P m a o v := by
  obtain ⟨dst, op, type, pos, after, guard⟩ := o
  simp only at hc
  unfold Gives
  cases op with
  | move x =>
    simp [compOp] at hc; obtain ⟨r, hr, rfl⟩ := hc
    simp [pureA] at hv; subst hv
    exact ⟨_, compX_vr hE hr, fun w => by simp [execOp]⟩
  | assign x =>
    simp [compOp] at hc; obtain ⟨r, hr, rfl⟩ := hc
    simp [pureA] at hv; subst hv
    exact ⟨_, compX_vr hE hr, fun w => by simp [execOp]⟩
  | pick c x y =>
    simp only [compOp] at hc
    split at hc <;> simp at hc
    subst hc
    rename_i c' x' y' h1 h2 h3
    have hc' := compX_vr hE h1
    simp only [pureA] at hv
    split at hv
    · rename_i he; rw [he] at hc'; simp at hv; subst hv
      exact ⟨_, compX_vr hE h2, fun w => by simp only [VR] at hc'; simp [execOp, hc', asBool]⟩
    · rename_i he; rw [he] at hc'; simp at hv; subst hv
      exact ⟨_, compX_vr hE h3, fun w => by simp only [VR] at hc'; simp [execOp, hc', asBool]⟩
    · simp at hv
  | build t parts =>
    simp only [compOp] at hc
    split at hc
    · rename_i fs z hu h1
      split at hc
      · rename_i hall
        simp at hc
        obtain ⟨l, h2, rfl⟩ := hc
        simp [pureA] at hv
        obtain ⟨r, hf, rfl⟩ := hv
        obtain ⟨vs, hz, hvs⟩ := zeroV_agg (m := m) h1
        obtain ⟨us, hfill, hru⟩ := run_fill hE h2 hvs hf
        refine ⟨.agg us, ⟨us, rfl, hru⟩, fun w => ?_⟩
        obtain ⟨ps, hps, hpl⟩ := mapM_places (P := P) fs (fun i f hi => by
          have := List.all_eq_true.1 hall f (by rw [← Array.getElem?_toList] at hi; exact List.mem_of_getElem? hi)
          exact this) w
        have hfun : (fun x : Nat => ps[x]?) = placeS P fs := funext hpl
        simp only [execOp, Instr.build, Sem.run_bind, hz, Result.andThen_ok, Value.cells, run_underlying hu, hps, Sem.run_pure]
        rw [hfun]
        simp only [Array.toList_map, hfill, Sem.run_pure, Result.andThen_ok]
      · simp at hc
    · rename_i n el z hu h1
      split at hc
      · rename_i s hs
        simp at hc
        obtain ⟨l, h2, rfl⟩ := hc
        simp [pureA] at hv
        obtain ⟨r, hf, rfl⟩ := hv
        obtain ⟨vs, hz, hvs⟩ := zeroV_agg (m := m) h1
        obtain ⟨us, hfill, hru⟩ := run_fill hE h2 hvs hf
        refine ⟨.agg us, ⟨us, rfl, hru⟩, fun w => ?_⟩
        simp only [execOp, Instr.build, Sem.run_bind, hz, Result.andThen_ok, Value.cells, run_underlying hu, run_szOf hs, Sem.run_pure]
        simp only [Array.toList_map, hfill, Sem.run_pure, Result.andThen_ok]
      · simp at hc
    · simp at hc
  | nilCheck x =>
    simp [compOp] at hc; obtain ⟨r, hr, rfl⟩ := hc
    have hx := compX_vr hE hr
    simp only [pureA] at hv
    split at hv <;> simp at hv
    all_goals
      rename_i he
      rw [he] at hx
      subst hv
      refine ⟨_, hx, fun w => ?_⟩
    · obtain ⟨l, _, hx⟩ := hx; simp [execOp, hx]
    · obtain ⟨y, hx, _⟩ := hx; simp [execOp, hx]
    · obtain ⟨y, hx, _⟩ := hx; simp [execOp, hx]
  | binOp bop t x y yt =>
    have hgen : (∃ q x' y' neg, ro = .eq neg q x' y' ∧ compEq P 20 t = some q ∧ compX x = some x' ∧ compX y = some y' ∧ bop = if neg then .neq else .eql) ∨
        (∃ x' y', ro = .bin bop x' y' ∧ compX x = some x' ∧ compX y = some y' ∧ bop ≠ .eql ∧ bop ≠ .neq) := by
      cases bop <;> simp only [compOp] at hc <;> split at hc <;> simp at hc <;> subst hc
      all_goals first
        | (rename_i h1 h2; right; exact ⟨_, _, rfl, h1, h2, by simp, by simp⟩)
        | (rename_i h1 h2 h3; left; exact ⟨_, _, _, false, rfl, h1, h2, h3, by simp⟩)
        | (rename_i h1 h2 h3; left; exact ⟨_, _, _, true, rfl, h1, h2, h3, by simp⟩)
    rcases hgen with ⟨q, x', y', neg, rfl, hq, hx, hy, rfl⟩ | ⟨x', y', rfl, hx, hy, n1, n2⟩
    · simp only [pureA, Option.map_eq_some_iff] at hv
      obtain ⟨r, hr, rfl⟩ := hv
      refine ⟨.bool (if neg then !r else r), rfl, fun w => ?_⟩
      have := eql_run (m := m) (by omega) hq (compX_vr hE hx) (compX_vr hE hy) hr neg x y w
      simp only [execOp, Sem.run_bind] at this ⊢
      rw [this]; rfl
    · simp only [pureA] at hv
      obtain ⟨u, hu, hr⟩ := bin_run (P := P) n1 n2 (compX_vr hE hx) (compX_vr hE hy) hv
      refine ⟨u, hu, fun w => ?_⟩
      have := hr t x y w
      simp only [execOp, Sem.run_bind] at this ⊢
      rw [this]; rfl
  | unOp uop t x =>
    simp [compOp] at hc; obtain ⟨r, hr, rfl⟩ := hc
    simp only [pureA] at hv
    obtain ⟨u, hu, hr'⟩ := un_run (P := P) (compX_vr hE hr) hv
    exact ⟨u, hu, fun w => by simp [execOp, hr']⟩
  | convert s d x =>
    simp only [compOp] at hc
    split at hc <;> simp at hc
    · subst hc
      rename_i h1 h2 h3
      simp only [pureA] at hv
      split at hv <;> simp at hv
      rename_i k n he
      subst hv
      have hx := compX_vr hE h3
      rw [he] at hx
      simp only [VR] at hx
      exact ⟨_, rfl, fun w => by simp [execOp, convert, run_underlying h1, run_underlying h2, hx, Conv.intToInt]⟩
    · subst hc
      rename_i h1 h2 h3
      simp only [pureA] at hv
      split at hv <;> simp at hv
      rename_i he
      subst hv
      have hx := compX_vr hE h3
      rw [he] at hx
      simp only [VR] at hx
      exact ⟨_, rfl, fun w => by simp [execOp, convert, run_underlying h1, run_underlying h2, hx]⟩
  | makeInterface t x =>
    simp only [compOp] at hc
    split at hc <;> simp at hc
    subst hc
    rename_i d x' hni h1 h2
    simp [pureA] at hv
    subst hv
    refine ⟨.iface t (a.eval x), ⟨_, rfl, compX_vr hE h2⟩, fun w => ?_⟩
    cases d with
    | interface ms => exact absurd rfl (hni ms)
    | _ => simp [execOp, Instr.makeInterface, run_underlying h1]
  | makeFunc fn first captured =>
    cases fn <;> simp only [compOp] at hc <;> try (simp at hc; done)
    split at hc <;> simp at hc
    obtain ⟨xs, hxs, rfl⟩ := hc
    rename_i f hf
    simp [pureA] at hv
    subst hv
    have : first = #[] := Array.eq_empty_of_size_eq_zero hf
    subst this
    refine ⟨.func (.func f) #[] (captured.map a.eval), ⟨_, rfl, ?_⟩, fun w => by simp [execOp, Instr.makeFunc]⟩
    rw [Array.toList_map]
    exact compXs_vr hE hxs
  | slice t x lo hi mx =>
    simp only [compOp] at hc
    split at hc <;> try (simp at hc; done)
    rename_i x' lo' hi' mx' h1 h2 h3 h4
    have cv : ∀ {y : Option Operand} {z : Option RX}, compXo y = some z → (optX e z = none ∧ y.map a.eval = none) ∨ ∃ p q, optX e z = some p ∧ y.map a.eval = some q ∧ VR m p q := by
      intro y z h
      rcases optX_vr hE h with ⟨rfl, rfl⟩ | ⟨p, q, rfl, rfl, hr⟩
      · exact .inl ⟨rfl, rfl⟩
      · exact .inr ⟨_, _, rfl, rfl, hr⟩
    split at hc <;> try (simp at hc; done)
    · rename_i el hu
      simp at hc
      obtain ⟨s, hs, rfl⟩ := hc
      simp only [pureA] at hv
      obtain ⟨u, hu', hr⟩ := slc_run (P := P) hu hs (compX_vr hE h1) (cv h2) (cv h3) (cv h4) hv
      exact ⟨u, hu', fun w => by simp [execOp, hr]⟩
    · rename_i hu
      split at hc
      · rename_i hmx
        simp at hc
        subst hc
        simp only [pureA] at hv
        have : mx = none := by
          rcases optX_vr hE h4 with ⟨rfl, rfl⟩ | ⟨p, q, rfl, rfl, hr⟩
          · rfl
          · simp at hmx
        subst this
        obtain ⟨u, hu', hr⟩ := sls_run (P := P) hu (compX_vr hE h1) (cv h2) (cv h3) hv
        exact ⟨u, hu', fun w => by simp [execOp, hr]⟩
      · simp at hc
  | fieldAddr t x f =>
    simp only [compOp] at hc
    split at hc <;> try (simp at hc; done)
    rename_i fs x' hu hx
    split at hc <;> try (simp at hc; done)
    rename_i fd hf
    split at hc <;> try (simp at hc; done)
    rename_i s hs
    split at hc <;> simp at hc
    subst hc
    rename_i hz
    simp only [pureA] at hv
    split at hv <;> simp at hv
    subst hv
    rename_i b o he
    have hx' := compX_vr hE hx
    rw [he] at hx'
    obtain ⟨l, hl, hx'⟩ := hx'
    refine ⟨.pointer (some ⟨l.c, l.d + (o + fd.offset), none⟩), ⟨l, hl, rfl⟩, fun w => ?_⟩
    simp [execOp, Instr.fieldAt, run_underlying hu, hf, hx', Instr.sureAddr, fieldPlace, run_szOf hs, hz, Addr.add_lit, Nat.add_assoc]
  | field t x f =>
    simp only [compOp] at hc
    split at hc <;> try (simp at hc; done)
    rename_i fs x' hu hx
    split at hc <;> try (simp at hc; done)
    rename_i fd hf
    simp at hc
    obtain ⟨n, hn, rfl⟩ := hc
    simp only [pureA] at hv
    split at hv <;> try (simp at hv; done)
    rename_i cs he
    have hx' := compX_vr hE hx
    rw [he] at hx'
    obtain ⟨vs, hx', hvs⟩ := hx'
    obtain ⟨u, hu', hr⟩ := run_part hn hvs hv
    exact ⟨u, hu', fun w => by simp [execOp, Instr.field, run_underlying hu, hf, hx', asAgg, hr]⟩
  | indexAddr t x i =>
    simp only [compOp] at hc
    split at hc <;> simp at hc
    · rename_i el x' i' hu hx hi
      obtain ⟨s, hs, rfl⟩ := hc
      simp only [pureA] at hv
      split at hv <;> try (simp at hv; done)
      rename_i b o e' n c k j he1 he2
      split at hv <;> simp at hv
      rename_i hcond
      obtain ⟨rfl, h0, hj⟩ := hcond
      subst hv
      have hx' := compX_vr hE hx
      have hi' := compX_vr hE hi
      rw [he1] at hx'
      rw [he2] at hi'
      obtain ⟨l, K, X, hl, hx', hk, hz, ho, hcap⟩ := hx'
      simp only [VR] at hi'
      have : X = l.d + o := by
        rcases ho with ho | ho
        · exact ho
        · omega
      subst this
      refine ⟨.pointer (some ⟨l.c, l.d + (o + j.toNat * e'), none⟩), ⟨l, hl, rfl⟩, fun w => ?_⟩
      simp [execOp, Instr.indexAt, asIntOf, run_underlying hu, hx', hi', h0, hj, run_szOf hs, Addr.add_lit, Nat.add_assoc]
    · rename_i n el x' i' hu hx hi
      obtain ⟨s, hs, rfl⟩ := hc
      simp only [pureA] at hv
      split at hv <;> try (simp at hv; done)
      rename_i b o k j he1 he2
      split at hv <;> simp at hv
      rename_i hcond
      obtain ⟨h0, hj⟩ := hcond
      subst hv
      have hx' := compX_vr hE hx
      have hi' := compX_vr hE hi
      rw [he1] at hx'
      rw [he2] at hi'
      obtain ⟨l, hl, hx'⟩ := hx'
      simp only [VR] at hi'
      refine ⟨.pointer (some ⟨l.c, l.d + (o + j.toNat * s), none⟩), ⟨l, hl, rfl⟩, fun w => ?_⟩
      simp [execOp, Instr.indexAt, asIntOf, run_underlying hu, hx', hi', h0, hj, run_szOf hs, Addr.add_lit, Nat.add_assoc, Instr.sureAddr]
  | index t x i =>
    simp only [compOp] at hc
    split at hc <;> try (simp at hc; done)
    · rename_i n el x' i' hu hx hi
      split at hc <;> simp at hc
      rename_i k s hk hs
      subst hc
      simp only [pureA] at hv
      split at hv <;> try (simp at hv; done)
      rename_i cs kk j he1 he2
      split at hv <;> try (simp at hv; done)
      rename_i hcond
      obtain ⟨h0, hj⟩ := hcond
      have hx' := compX_vr hE hx
      have hi' := compX_vr hE hi
      rw [he1] at hx'
      rw [he2] at hi'
      obtain ⟨vs, hx', hvs⟩ := hx'
      simp only [VR] at hi'
      obtain ⟨u, hu', hr⟩ := run_part hk hvs hv
      exact ⟨u, hu', fun w => by simp [execOp, Instr.index, asIntOf, run_underlying hu, hx', hi', h0, hj, run_szOf hs, hr]⟩
    · rename_i x' i' hu hx hi
      simp at hc
      subst hc
      simp only [pureA] at hv
      split at hv <;> try (simp at hv; done)
      rename_i s kk j he1 he2
      split at hv <;> simp at hv
      rename_i hcond
      subst hv
      have hx' := compX_vr hE hx
      have hi' := compX_vr hE hi
      rw [he1] at hx'
      rw [he2] at hi'
      simp only [VR] at hx' hi'
      refine ⟨_, rfl, fun w => ?_⟩
      have hb : s[j.toNat]? = some (s[j.toNat]'hcond.2) := by
        exact getElem?_pos s j.toNat hcond.2
      simp [execOp, Instr.index, asIntOf, run_underlying hu, hx', hi', hcond.1, hb]
  | extract x i =>
    simp [compOp] at hc; obtain ⟨r, hr, rfl⟩ := hc
    have hx := compX_vr hE hr
    simp only [pureA] at hv
    split at hv <;> try (simp at hv; done)
    rename_i vs he
    rw [he] at hx
    obtain ⟨us, hx, hus⟩ := hx
    obtain ⟨u, hu, hru⟩ := VRs.get hus hv
    have : us[i]? = some u := by rw [← Array.getElem?_toList]; exact hu
    exact ⟨u, hru, fun w => by simp [execOp, Instr.extract, hx, this]⟩
  | call c =>
    simp only [compOp, compCall] at hc
    split at hc <;> try (simp at hc; done)
    rename_i xs hxs
    split at hc <;> try (simp at hc; done)
    · rename_i f hcal
      split at hc
      · rename_i hadd
        split at hc <;> simp at hc
        subst hc
        rename_i x y z
        obtain ⟨vx, vr, e1, hx, vy, vr2, e2, hy, vz, vr3, e3, hz, e4⟩ := compXs_vr hE hxs
        obtain rfl : vr3 = [] := e4
        subst e3; subst e2
        have hargs : c.args.map a.eval = #[vx, vy, vz] := by
          apply Array.ext'; rw [Array.toList_map]; exact e1
        simp only [pureA] at hv
        split at hv <;> try (simp at hv; done)
        rename_i i j k he1 he2 he3
        split at hv <;> simp at hv
        rename_i hcond
        subst hv
        rw [he1] at hx; rw [he2] at hy; rw [he3] at hz
        simp only [VR] at hx hy hz
        subst hx; subst hy; subst hz
        obtain ⟨fn, h1, h2, h3, h4, h5⟩ := hX.add f hadd
        refine ⟨.tuple #[.int .u64 ((i + j + k) % 18446744073709551616), .int .u64 ((i + j + k) / 18446744073709551616)], ⟨_, rfl, _, _, rfl, rfl, _, _, rfl, rfl, rfl⟩, fun w => ?_⟩
        simp only [execOp, resolve, hcal, Act.eval, Deferred.ofValue, invoke, Sem.run_bind, Sem.run_pure, Result.andThen_ok, hargs]
        rw [show (#[] ++ #[Value.int .u64 i, .int .u64 j, .int .u64 k] ++ #[] : Array Value) = #[.int .u64 i, .int .u64 j, .int .u64 k] by simp]
        rw [run_callFunc_extern h1 h2 h3 h4 h5, run_add64 i j k hcond.1 hcond.2.1 hcond.2.2.1 hcond.2.2.2]
        rfl
      · split at hc
        · rename_i hnadd hsub
          split at hc <;> simp at hc
          subst hc
          rename_i x y z
          obtain ⟨vx, vr, e1, hx, vy, vr2, e2, hy, vz, vr3, e3, hz, e4⟩ := compXs_vr hE hxs
          obtain rfl : vr3 = [] := e4
          subst e3; subst e2
          have hargs : c.args.map a.eval = #[vx, vy, vz] := by
            apply Array.ext'; rw [Array.toList_map]; exact e1
          simp only [pureA] at hv
          split at hv <;> try (simp at hv; done)
          rename_i i j k he1 he2 he3
          split at hv <;> simp at hv
          rename_i hcond
          subst hv
          rw [he1] at hx; rw [he2] at hy; rw [he3] at hz
          simp only [VR] at hx hy hz
          subst hx; subst hy; subst hz
          obtain ⟨fn, h1, h2, h3, h4, h5⟩ := hX.sub f hsub
          refine ⟨.tuple #[.int .u64 ((i - j - k) % 18446744073709551616), .int .u64 (if i < j + k then 1 else 0)], ⟨_, rfl, _, _, rfl, rfl, _, _, rfl, rfl, rfl⟩, fun w => ?_⟩
          simp only [execOp, resolve, hcal, Act.eval, Deferred.ofValue, invoke, Sem.run_bind, Sem.run_pure, Result.andThen_ok, hargs]
          rw [show (#[] ++ #[Value.int .u64 i, .int .u64 j, .int .u64 k] ++ #[] : Array Value) = #[.int .u64 i, .int .u64 j, .int .u64 k] by simp]
          rw [run_callFunc_extern h1 h2 h3 h4 h5, run_sub64 i j k hcond.1 hcond.2.1 hcond.2.2.1 hcond.2.2.2.1 hcond.2.2.2.2]
          rfl
        · simp at hc; subst hc; simp [RO.isPure] at hp
    · simp at hc; subst hc; simp [RO.isPure] at hp
    · rename_i hcal
      split at hc <;> try (simp at hc; done)
      rename_i t x ht
      have hvs := compXs_vr hE hxs
      obtain ⟨vx, vr, e1, hx, e2⟩ := hvs
      obtain rfl : vr = [] := e2
      have hargs : c.args.map a.eval = #[vx] := by
        apply Array.ext'; rw [Array.toList_map]; exact e1
      split at hc <;> simp at hc
      · rename_i el hu
        subst hc
        simp only [pureA] at hv
        split at hv <;> simp at hv
        · rename_i he; rw [he] at hx; simp only [VR] at hx; subst hv
          exact ⟨_, rfl, fun w => by simp [execOp, resolve, hcal, invoke, builtin, Builtin.len_, hargs, ht, run_underlying hu, hx, goInt]⟩
        · rename_i he; rw [he] at hx; subst hv
          obtain ⟨l, k, y, _, hx, _⟩ := hx
          exact ⟨_, rfl, fun w => by simp [execOp, resolve, hcal, invoke, builtin, Builtin.len_, hargs, ht, run_underlying hu, hx, goInt]⟩
      · rename_i hu
        subst hc
        simp only [pureA] at hv
        split at hv <;> simp at hv
        rename_i he; rw [he] at hx; simp only [VR] at hx; subst hv
        exact ⟨_, rfl, fun w => by simp [execOp, resolve, hcal, invoke, builtin, Builtin.len_, hargs, ht, run_underlying hu, hx, goInt]⟩
    · rename_i hcal
      split at hc <;> try (simp at hc; done)
      rename_i t x ht
      have hvs := compXs_vr hE hxs
      obtain ⟨vx, vr, e1, hx, e2⟩ := hvs
      obtain rfl : vr = [] := e2
      have hargs : c.args.map a.eval = #[vx] := by
        apply Array.ext'; rw [Array.toList_map]; exact e1
      split at hc <;> simp at hc
      rename_i el hu
      subst hc
      simp only [pureA] at hv
      split at hv <;> simp at hv
      · rename_i he; rw [he] at hx; simp only [VR] at hx; subst hv
        exact ⟨_, rfl, fun w => by simp [execOp, resolve, hcal, invoke, builtin, Builtin.cap_, hargs, ht, run_underlying hu, hx, goInt]⟩
      · rename_i he; rw [he] at hx; subst hv
        obtain ⟨l, k, y, _, hx, _, _, _, hcap⟩ := hx
        have := hcap _ rfl
        subst this
        exact ⟨_, rfl, fun w => by simp [execOp, resolve, hcal, invoke, builtin, Builtin.cap_, hargs, ht, run_underlying hu, hx, goInt]⟩
    · split at hc <;> try (simp at hc; done)
      split at hc <;> try (simp at hc; done)
      all_goals
        split at hc <;> try (simp at hc; done)
        split at hc <;> simp at hc
        subst hc; simp [RO.isPure] at hp
  | alloc t => simp [compOp] at hc; obtain ⟨r, hr, rfl⟩ := hc; simp [RO.isPure] at hp
  | box t x => simp only [compOp] at hc; split at hc <;> simp at hc; subst hc; simp [RO.isPure] at hp
  | load t x => simp only [compOp] at hc; split at hc <;> simp at hc; subst hc; simp [RO.isPure] at hp
  | store t x y => simp only [compOp] at hc; split at hc <;> simp at hc; subst hc; simp [RO.isPure] at hp
  | buildSlice t n ps =>
    simp only [compOp] at hc
    split at hc <;> try (simp at hc; done)
    split at hc <;> try (simp at hc; done)
    split at hc <;> try (simp at hc; done)
    split at hc <;> simp at hc
    subst hc; simp [RO.isPure] at hp
  | makeSlice t l c =>
    simp only [compOp] at hc
    split at hc <;> try (simp at hc; done)
    split at hc <;> try (simp at hc; done)
    split at hc <;> simp at hc
    subst hc; simp [RO.isPure] at hp
  | _ => simp [compOp] at hc

end Go.Ev
