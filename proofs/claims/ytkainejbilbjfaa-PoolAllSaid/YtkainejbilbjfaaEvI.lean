import Derived.Test.YtkainejbilbjfaaEvH
/-! append and make; one operation: soundness. -/
namespace Go.Ev
set_option linter.unusedVariables false
set_option linter.unusedSimpArgs false
variable {P : Program} {E : Ex} {m : Inj} {s : St} {w : World}

theorem setL_append {α : Type} : ∀ (C A B : List α), B.length = C.length → setL (A ++ B) A.length C = A ++ C
  | [], A, B, h => by simp at h; subst h; rfl
  | c :: C, A, [], h => by simp at h
  | c :: C, A, b :: B, h => by
    simp only [setL]
    have e : (A ++ b :: B).set A.length c = (A ++ [c]) ++ B := by
      rw [List.set_append_right _ _ (Nat.le_refl _)]; simp
    rw [e]
    have := setL_append C (A ++ [c]) B (by simpa using h)
    simp only [List.length_append, List.length_cons, List.length_nil] at this
    simp only [Nat.zero_add] at this
    rw [this]; simp

theorem put_self (m : Inj) (i : Nat) (l : Loc) : (m.put i l) i = some l := by unfold Inj.put; rw [if_pos rfl]

theorem grown_ge (w : World) (need old : Nat) (e : TypeId) : need ≤ grownCap w need old e := by
  unfold grownCap; exact Nat.le_add_right _ _

/-- A new row of `need` elements and room behind them. -/
theorem grow_sim (h : Sim m s w) {e : TypeId} {i : TypeInfo} {zv : Value} {zl : List AV} (hz : ∀ m, VRs m zl zv.cells.toList) (hzl : zl.length = i.size) {cs : List AV} {vs : Array Value} (hr : VRs m cs vs.toList) {need old : Nat} (hn : vs.size = need * i.size) :
    ∃ m', Sim m' (s ++ [.cells true cs]) (w.drew.alloc (.cells (vs ++ Builtin.zeroCells zv.cells (grownCap w need old e - need)) e)) ∧
      Goes m s w m' (s ++ [.cells true cs]) (w.drew.alloc (.cells (vs ++ Builtin.zeroCells zv.cells (grownCap w need old e - need)) e)) ∧
      VR m' (.sl s.length 0 i.size need none) (.slice (some ⟨w.heap.size, 0, none⟩) need (grownCap w need old e)) := by
  have hd : Sim m s w.drew := h.heap rfl
  have hg : Goes m s w m s w.drew := Goes.heap rfl rfl rfl rfl
  obtain ⟨h1, h2⟩ := hd.alloc (t := e) (cells_prefix hr (Builtin.zeroCells zv.cells (grownCap w need old e - need)))
  refine ⟨_, h1, hg.trans h2, ⟨⟨w.heap.size, 0, (vs ++ Builtin.zeroCells zv.cells (grownCap w need old e - need)).size⟩, grownCap w need old e, 0, by unfold Inj.put; rw [if_pos rfl]; rfl, rfl, grown_ge w need old e, ?_, .inl rfl, by simp⟩⟩
  have hzs : zv.cells.size = i.size := by rw [← Array.length_toList, VRs.length (hz m), hzl]
  have := grown_ge w need old e
  simp only [Array.size_append, hn, Builtin.zeroCells, Array.size_map, Array.size_range, hzs, Nat.zero_add]
  rw [← Nat.add_mul]
  exact Nat.mul_le_mul_right _ (by omega)

theorem app_run (h : Sim m s w) {t u e e2 : TypeId} {ty : TypeId} {ts : Array TypeId} (ht0 : ts[0]? = some t) (ht1 : ts[1]? = some u) (ht : P.underlying t = some (.slice e)) (hu : P.underlying u = some (.slice e2))
    {i : TypeInfo} {zl : List AV} (hi : P.info? e = some i) (hz : zeroL P e = some zl) (hzl : zl.length = i.size) {x y r : AV} {s' : St} {vx vy : Value} (hx : VR m x vx) (hy : VR m y vy) (ha : appA s i.size i.bytes x y = some (r, s')) :
    ∃ w' m' v, (Builtin.append_ ts ty #[vx, vy]).run P w = .ok v w' ∧ Sim m' s' w' ∧ Goes m s w m' s' w' ∧ VR m' r v := by
  obtain ⟨i', zv, hi', hzv, hzr, hzvr⟩ := zeroL_run hz
  rw [hi] at hi'
  cases hi'
  unfold appA at ha
  split at ha <;> try (simp at ha; done)
  rename_i xs ys n k hcx hcy hlx hly
  split at ha <;> try (simp at ha; done)
  rename_i hcond
  obtain ⟨hcell, hcellx, hbound⟩ := hcond
  obtain ⟨us, hus, husl, hfirst, hlen⟩ := first_run (P := P) h hy hcy hly
  obtain ⟨os, hos, hosl, hofirst, holen⟩ := first_run (P := P) h hx hcx hlx
  have hszs : sizeOf e = (do pure (← typeInfo e).size : Sem Nat) := rfl
  have hb1 : (n + k) * i.bytes ≤ 35184372088832 := Nat.le_trans (Nat.mul_le_mul_left _ (by omega)) hbound
  have hb2 : n + k ≤ 35184372088832 := Nat.le_trans (Nat.le_mul_of_pos_right _ (by omega)) hbound
  -- the growing way
  have grow : ∀ (base : Option Addr) (sCap : Nat), vx = .slice base n sCap → sCap < n + k →
      (Builtin.append_ ts ty #[vx, vy]).run P w = .ok (.slice (some ⟨w.heap.size, 0, none⟩) (n + k) (grownCap w (n + k) sCap e))
        (w.drew.alloc (.cells ((os ++ us).toArray ++ Builtin.zeroCells zv.cells (grownCap w (n + k) sCap e - (n + k))) e)) := by
    intro base sCap hvx hlt
    have hfit := growslice_fits (need := n + k) (old := sCap) (bytes := i.bytes) hlt (by omega)
    have n1 : ¬ (n + k ≤ sCap) := by omega
    have n2 : ¬ (9223372036854775807 < ((n : Int) + (k : Int))) := by omega
    have n3 : ¬ (281474976710656 < Builtin.nextslicecap (n + k) sCap * i.bytes) := by omega
    have f1 := hofirst w.drew rfl
    have f2 := hfirst w.drew rfl
    rw [hvx] at f1
    have hl2 := hlen w
    rw [hvx]
    simp [Builtin.append_, ht0, ht1, run_underlying ht, run_underlying hu, sizeOf, typeInfo, zeroValue, hi, hzv, hl2, n1, n2, n3, Question.forced, f1, f2, newRow, grownCap]
    rw [show ((os ++ us).toArray : Array Value) = os.toArray ++ us.toArray by simp, Array.append_assoc]
  have hvs : (os ++ us).toArray.size = (n + k) * i.size := by simp [hosl, husl, Nat.add_mul]
  split at ha
  · -- nil
    simp [lenA] at hlx
    subst hlx
    simp only [VR] at hx
    subst hx
    simp at husl hosl
    subst hosl
    split at ha <;> simp at ha
    · rename_i hk
      subst hk
      obtain ⟨rfl, rfl⟩ := ha
      have : us = [] := by simpa using husl
      subst this
      refine ⟨w, m, .slice none 0 0, ?_, h, Goes.refl _ _ _, rfl⟩
      have f2 := hfirst w rfl
      simp [Builtin.append_, ht0, ht1, run_underlying ht, run_underlying hu, sizeOf, typeInfo, hi, hlen w, f2]
    · rename_i hk
      obtain ⟨rfl, rfl⟩ := ha
      simp [cellsA] at hcx
      subst hcx
      obtain ⟨m', h1, h2, h3⟩ := grow_sim (i := i) (e := e) (need := 0 + k) (old := 0) h hzvr hzl (vs := ([] ++ us).toArray) (cs := ys) (by simpa using hus) hvs
      refine ⟨_, m', _, grow none 0 rfl (by omega), h1, h2, ?_⟩
      simpa using h3
  · rename_i b o es0 n0 c
    simp [lenA] at hlx
    subst hlx
    split at ha
    · rename_i hk
      subst hk
      simp at ha
      obtain ⟨rfl, rfl⟩ := ha
      have : us = [] := by simpa using husl
      subst this
      have hes : es0 = i.size := by
        simp only [cellsA] at hcx
        split at hcx <;> try (simp at hcx; done)
        split at hcx <;> simp at hcx
        rename_i hh; exact hh.1
      subst hes
      have hx0 := hx
      obtain ⟨l, K, X, hl, rfl, hk, hzz, ho, hcap⟩ := hx
      refine ⟨w, m, _, ?_, h, Goes.refl _ _ _, hx0⟩
      have f2 := hfirst w rfl
      simp [Builtin.append_, ht0, ht1, run_underlying ht, run_underlying hu, sizeOf, typeInfo, hi, hlen w, f2, hk, storeCells]
    · rename_i hk
      have hes : es0 = i.size := by
        simp only [cellsA] at hcx
        split at hcx <;> try (simp at hcx; done)
        split at hcx <;> simp at hcx
        rename_i hh; exact hh.1
      subst hes
      obtain ⟨l, K, X, hl, hvx, hnk, hzz, ho, hcap⟩ := hx
      have hvrs : VRs m (xs ++ ys) (os ++ us).toArray.toList := by simpa using VRs.append hos hus
      split at ha
      · rename_i c'
        split at ha <;> simp at ha
        rename_i hgt
        obtain ⟨rfl, rfl⟩ := ha
        have := hcap c' rfl
        obtain ⟨m', h1, h2, h3⟩ := grow_sim (i := i) (e := e) (need := n0 + k) (old := K) h hzvr hzl hvrs hvs
        exact ⟨_, m', _, grow _ K hvx (by omega), h1, h2, h3⟩
      · split at ha <;> simp at ha
        rename_i cs hs
        obtain ⟨rfl, rfl⟩ := ha
        have hrd : rdB s b = some cs := by simp [rdB, hs]
        have hblt := (h.lt hl).1
        by_cases hroom : n0 + k ≤ K
        · -- in place
          have hX : X = l.d + o := by
            rcases ho with ho | ho
            · exact ho
            · omega
          subst hX
          simp only [cellsA, hrd] at hcx
          split at hcx <;> simp at hcx
          rename_i hh
          have hroomz : l.d + o + n0 * i.size + k * i.size ≤ l.z := by
            have h1 : n0 * i.size + k * i.size = (n0 + k) * i.size := by rw [Nat.add_mul]
            have h2 : (n0 + k) * i.size ≤ K * i.size := Nat.mul_le_mul_right _ hroom
            omega
          obtain ⟨hS, hG⟩ := sim_move h hl hs o (n0 * i.size) (k * i.size) hh.2 hroomz
          have hslen : (s.set b .dead).length = s.length := by simp
          have hnew : (s.set b Blk.dead ++ [Blk.cells true ((cs.drop o).take (n0 * i.size) ++ List.replicate (k * i.size) .undef)])[s.length]? = some (.cells true ((cs.drop o).take (n0 * i.size) ++ List.replicate (k * i.size) .undef)) := by
            rw [← hslen]; simp
          have hysl : ys.length = k * i.size := by rw [← VRs.length hus, husl]
          have htl : ((cs.drop o).take (n0 * i.size)).length = n0 * i.size := by simp; omega
          obtain ⟨w', hrun, hS', hG'⟩ := storeCells_run (P := P) ys us 0 (b := s.length) (l := ⟨l.c, l.d + o, l.z⟩) (x := n0 * i.size) hS (put_self _ _ _) hnew (VRs.mono hG.le _ _ hus) hcell (by simp [hysl]; omega)
          have hset : (s.set b Blk.dead ++ [Blk.cells true ((cs.drop o).take (n0 * i.size) ++ List.replicate (k * i.size) .undef)]).set s.length (Blk.cells true (setL ((cs.drop o).take (n0 * i.size) ++ List.replicate (k * i.size) .undef) (n0 * i.size + 0) ys)) =
              s.set b .dead ++ [Blk.cells true (xs ++ ys)] := by
            rw [← hslen, List.set_append_right _ _ (Nat.le_refl _)]
            simp only [Nat.sub_self, List.set_cons_zero, Nat.add_zero]
            have hsl := setL_append ys ((cs.drop o).take (n0 * i.size)) (List.replicate (k * i.size) AV.undef) (by simp [hysl])
            rw [htl] at hsl
            rw [hsl, ← hcx]
          rw [hset] at hS' hG'
          refine ⟨w', _, .slice (some ⟨l.c, l.d + o, none⟩) (n0 + k) K, ?_, hS', hG.trans hG', ⟨⟨l.c, l.d + o, l.z⟩, K, l.d + o, put_self _ _ _, rfl, hroom, hzz, .inl rfl, by simp⟩⟩
          have f2 := hfirst w rfl
          rw [hvx]
          simp [Builtin.append_, ht0, ht1, run_underlying ht, run_underlying hu, sizeOf, typeInfo, hi, hlen w, hroom, f2, Addr.add_lit]
          rw [hrun]
          simp
        · obtain ⟨m', h1, h2, h3⟩ := grow_sim (i := i) (e := e) (need := n0 + k) (old := K) h hzvr hzl hvrs hvs
          have e1 : (s ++ [Blk.cells true (xs ++ ys)]).set b .dead = s.set b .dead ++ [Blk.cells true (xs ++ ys)] := by
            rw [List.set_append_left _ _ hblt]
          have h4 := sim_kill h1 (b := b)
          have h5 := goes_kill h1 (b := b)
          rw [e1] at h4 h5
          exact ⟨_, m', _, grow _ K hvx (by omega), h4, h2.trans h5, h3⟩
  · simp at ha

theorem appz_run (h : Sim m s w) {t u e : TypeId} {kk : IntKind} {ty : TypeId} {ts : Array TypeId} (ht0 : ts[0]? = some t) (ht1 : ts[1]? = some u) (ht : P.underlying t = some (.slice e)) (hu : P.underlying u = some (.int kk))
    {i : TypeInfo} {zl : List AV} (hi : P.info? e = some i) (hz : zeroL P e = some zl) (hzl : zl.length = i.size) (hpos : 0 < i.size) {x y r : AV} {s' : St} {vx vy : Value} (hx : VR m x vx) (hy : VR m y vy) (ha : appzA s i.size i.bytes zl x y = some (r, s')) :
    ∃ w' m' v, (Builtin.append_ ts ty #[vx, vy]).run P w = .ok v w' ∧ Sim m' s' w' ∧ Goes m s w m' s' w' ∧ VR m' r v := by
  obtain ⟨i', zv, hi', hzv, hzr, hzvr⟩ := zeroL_run hz
  rw [hi] at hi'
  cases hi'
  unfold appzA at ha
  split at ha <;> try (simp at ha; done)
  rename_i k n
  split at ha <;> try (simp at ha; done)
  rename_i hcond
  obtain ⟨h0, hb⟩ := hcond
  obtain ⟨C, rfl⟩ := Int.eq_ofNat_of_zero_le h0
  have hb' : C * (i.bytes + 1) ≤ 35184372088832 := by
    have e1 : ((C * (i.bytes + 1) : Nat) : Int) = (C : Int) * ((i.bytes : Int) + 1) := by push_cast; rfl
    rw [← e1] at hb; omega
  have hb1 : C * i.bytes ≤ 35184372088832 := Nat.le_trans (Nat.mul_le_mul_left _ (by omega)) hb'
  have hb2 : C ≤ 35184372088832 := Nat.le_trans (Nat.le_mul_of_pos_right _ (by omega)) hb'
  simp only [VR] at hx hy
  subst hx
  subst hy
  have wl : IntKind.i64.wrap (C : Int) = C := by rw [IntKind.wrap_i64]; omega
  have hbytes : ¬ (281474976710656 < (C : Int) * (i.bytes : Int)) := by
    have e1 : ((C * i.bytes : Nat) : Int) = (C : Int) * (i.bytes : Int) := by push_cast; rfl
    rw [← e1]; omega
  have hneg : ¬ ((C : Int) < 0) := by omega
  split at ha
  · rename_i hC
    have hC' : C = 0 := by omega
    subst hC'
    simp at ha
    obtain ⟨rfl, rfl⟩ := ha
    refine ⟨w, m, .slice none 0 0, ?_, h, Goes.refl _ _ _, rfl⟩
    have wl0 : IntKind.i64.wrap 0 = 0 := by decide
    simp [Builtin.append_, ht0, ht1, run_underlying ht, run_underlying hu, sizeOf, typeInfo, hi, asInt, asIntOf, wl0]
  · rename_i hC
    simp at ha
    obtain ⟨rfl, rfl⟩ := ha
    have hC' : C ≠ 0 := by omega
    have hzs : zv.cells.size = i.size := by rw [← Array.length_toList, VRs.length (hzvr m), hzl]
    have hmade : (Builtin.zeroCells zv.cells C).toList = (List.replicate C zv.cells.toList).flatten := range_mod_flat zv.cells (by omega) C
    have hvr : VRs m (List.replicate C zl).flatten (Builtin.zeroCells zv.cells C).toList := by rw [hmade]; exact vrs_flat (hzvr m) C
    have hsz : (Builtin.zeroCells zv.cells C).size = C * i.size := by simp [Builtin.zeroCells, hzs]
    obtain ⟨m', h1, h2, h3⟩ := grow_sim (i := i) (e := e) (need := C) (old := 0) h hzvr hzl hvr hsz
    refine ⟨_, m', _, ?_, h1, h2, h3⟩
    have hfit := growslice_fits (need := C) (old := 0) (bytes := i.bytes) (by omega) (by omega)
    have n3 : ¬ (281474976710656 < Builtin.nextslicecap C 0 * i.bytes) := by omega
    have n2 : ¬ (9223372036854775807 < (C : Int)) := by omega
    have n4 : ¬ (C * i.size = 0) := by
      intro e0
      rcases Nat.mul_eq_zero.1 e0 with e0 | e0 <;> omega
    simp [Builtin.append_, ht0, ht1, run_underlying ht, run_underlying hu, sizeOf, typeInfo, zeroValue, hi, hzv, asInt, asIntOf, wl, hneg, hbytes, hC', n2, n3, n4, Question.forced, newRow, grownCap, Builtin.firstCells]

theorem mks_run (h : Sim m s w) {t e : TypeId} (ht : P.underlying t = some (.slice e)) {i : TypeInfo} {zl : List AV} (hi : P.info? e = some i) (hz : zeroL P e = some zl) (hzl : zl.length = i.size) (hpos : 0 < i.size)
    {x y r : AV} {s' : St} {vx vy : Value} (hx : VR m x vx) (hy : VR m y vy) (ha : mksA s i.size i.bytes zl x y = some (r, s')) :
    ∃ w' m' v, (Instr.makeSlice t vx vy).run P w = .ok v w' ∧ Sim m' s' w' ∧ Goes m s w m' s' w' ∧ VR m' r v := by
  obtain ⟨i', zv, hi', hzv, hzr, hzvr⟩ := zeroL_run hz
  rw [hi] at hi'
  cases hi'
  unfold mksA at ha
  split at ha <;> try (simp at ha; done)
  rename_i kl l kc c
  split at ha <;> simp at ha
  rename_i hcond
  obtain ⟨h0, hlc, hb⟩ := hcond
  obtain ⟨rfl, rfl⟩ := ha
  simp only [VR] at hx hy
  subst hx
  subst hy
  have hc0 : 0 ≤ c := by omega
  obtain ⟨C, rfl⟩ := Int.eq_ofNat_of_zero_le hc0
  have hb' : C * (i.bytes + 1) ≤ 35184372088832 := by
    have e1 : ((C * (i.bytes + 1) : Nat) : Int) = (C : Int) * ((i.bytes : Int) + 1) := by push_cast; rfl
    rw [← e1] at hb; omega
  have hb1 : C * i.bytes ≤ 35184372088832 := Nat.le_trans (Nat.mul_le_mul_left _ (by omega)) hb'
  have hb2 : C ≤ 35184372088832 := Nat.le_trans (Nat.le_mul_of_pos_right _ (by omega)) hb'
  have hbytes : (i.bytes : Int) * (C : Int) ≤ 281474976710656 := by
    have e1 : ((C * i.bytes : Nat) : Int) = (i.bytes : Int) * (C : Int) := by push_cast; exact Int.mul_comm _ _
    rw [← e1]; omega
  have hrun := run_make (P := P) w t e i zv ht hi hzv kl kc l C h0 hlc hbytes (by omega)
  have hzs : zv.cells.size = i.size := by rw [← Array.length_toList, VRs.length (hzvr m), hzl]
  have hmade : (madeCells zv.cells ((C : Int).toNat * i.size)).toList = (List.replicate C zv.cells.toList).flatten := by
    rw [← hzs]
    exact range_mod_flat zv.cells (by omega) C
  have hvr : VRs m (List.replicate C zl).flatten (madeCells zv.cells ((C : Int).toNat * i.size)).toList := by
    rw [hmade]; exact vrs_flat (hzvr m) C
  obtain ⟨h1, h2⟩ := h.alloc (t := e) (cells_exact hvr)
  refine ⟨_, _, _, hrun, h1, h2, ⟨_, C, 0, put_self _ _ _, rfl, by omega, ?_, .inl rfl, by simp⟩⟩
  simp [size_madeCells]

/-- ONE OPERATION. -/
theorem op_sound {X : Oracle} (hX : XS P X) (hE : ExOK P E) {o : Oper} {ro : RO} (hc : compOp P E o.op o.type = some ro) {e : Env} {a : Act} (hR : ER m e a) (hS : Sim m s w) {k : AV → St → Prop} (h : opA X ro e s k)
    {K : Act → World → Prop} {Q : Exit → Act → World → Prop} (hK : ∀ v s' m' u w', k v s' → Sim m' s' w' → Goes m s w m' s' w' → VR m' v u → K (a.put o.dst u) w') : o.wp P a w K Q := by
  by_cases hp : ro.isPure = true
  · obtain ⟨v, hv, hk⟩ := opA_pure hp h
    obtain ⟨u, hu, hr⟩ := pure_sound hp hE hc hR hv
    exact wp_value (hr w) (hK v s m u w hk hS (Goes.refl _ _ _) hu)
  · obtain ⟨dst, op, type, pos, after, guard⟩ := o
    simp only at hc hK
    cases op with
    | alloc t =>
      simp [compOp] at hc
      obtain ⟨z, hz, rfl⟩ := hc
      obtain ⟨i, zv, hi, hzv, hzr, hzvr⟩ := zeroL_run hz
      obtain ⟨h1, h2⟩ := hS.alloc (t := t) (cells_exact (hzvr m))
      refine wp_value (u := .pointer (some ⟨w.heap.size, 0, none⟩)) (w' := w.alloc (.cells zv.cells t)) ?_ (hK _ _ _ _ _ h h1 h2 ⟨_, put_self _ _ _, rfl⟩)
      simp only [execOp, Instr.alloc, newVar, newRow, Sem.run_bind, hzr, Result.andThen_ok, run_newObj, Sem.run_pure]
      rfl
    | box t x =>
      simp only [compOp] at hc
      split at hc <;> simp at hc
      subst hc
      rename_i n x' hn hx
      obtain ⟨cs, hcs, hk⟩ := h
      have hx' := compX_vr hR hx
      have hvr : VRs m cs (a.eval x).cells.toList := by
        unfold boxA at hcs
        split at hcs
        · split at hcs <;> simp at hcs
          rename_i hcell
          subst hcs
          have := VR.cells hx' (.inl hcell)
          have e1 : (x'.ev e).cells = [x'.ev e] := by revert hcell; cases x'.ev e <;> simp [AV.cell, AV.cells]
          rwa [e1] at this
        · split at hcs <;> try (simp at hcs; done)
          split at hcs <;> simp at hcs
          rename_i cs' hag _
          subst hcs
          have := VR.cells hx' (.inr ⟨_, hag⟩)
          rw [hag] at this
          exact this
      obtain ⟨h1, h2⟩ := hS.alloc (t := t) (cells_exact hvr)
      refine wp_value (u := .pointer (some ⟨w.heap.size, 0, none⟩)) (w' := w.alloc (.cells (a.eval x).cells t)) ?_ (hK _ _ _ _ _ hk h1 h2 ⟨_, put_self _ _ _, rfl⟩)
      simp only [execOp, Instr.box, newVar, newRow, Sem.run_bind, Result.andThen_ok, run_newObj, Sem.run_pure]
      rfl
    | buildSlice t len parts =>
      simp only [compOp] at hc
      split at hc <;> try (simp at hc; done)
      rename_i el hu
      split at hc <;> try (simp at hc; done)
      rename_i sz z hsz hz
      split at hc <;> try (simp at hc; done)
      rename_i hcond
      obtain ⟨hlim, hzl, hpos⟩ := hcond
      split at hc <;> simp at hc
      subst hc
      rename_i l hl
      obtain ⟨cs, hcs, hk⟩ := h
      obtain ⟨i, zv, hi, hzv, hzr, hzvr⟩ := zeroL_run hz
      have hzs : zv.cells.size = sz := by rw [← Array.length_toList, VRs.length (hzvr m), hzl]
      have hvr : VRs m (List.replicate len z).flatten ((Array.range (len * sz)).map (zv.cells[· % zv.cells.size]!)).toList := by
        rw [← hzs, range_mod_flat zv.cells (by omega) len]
        exact vrs_flat (hzvr m) len
      obtain ⟨us, hfill, hus⟩ := run_fill hR hl hvr hcs
      obtain ⟨h1, h2⟩ := hS.alloc (t := el) (cells_exact hus)
      have hlen : us.size = len * sz := by
        have e1 : ∀ (ps : List (Nat × Value)) (ds r : Array Value), Instr.fill (fun i => some (i * sz, sz)) ds ps = some r → r.size = ds.size := by
          intro ps
          induction ps with
          | nil => intro ds r hh; simp [Instr.fill] at hh; rw [hh]
          | cons p ps ih =>
            intro ds r hh
            obtain ⟨pi, pv⟩ := p
            simp only [Instr.fill] at hh
            split at hh
            · simp at hh
            · have := ih _ _ hh
              rw [this]
              rw [← Array.foldl_toList]
              exact foldl_set_size _ _ _
        have := e1 _ _ _ hfill
        simpa using this
      refine wp_value (u := .slice (some ⟨w.heap.size, 0, none⟩) len len) (w' := w.alloc (.cells us el)) ?_ (hK _ _ _ _ _ hk h1 h2 ⟨_, len, 0, put_self _ _ _, rfl, Nat.le_refl _, by simp [hlen], .inl rfl, by simp⟩)
      simp only [execOp, Instr.buildSlice, newRow, Sem.run_bind, Result.andThen_ok, run_newObj, Sem.run_pure, run_underlying hu, run_szOf hsz]
      rw [if_neg (by omega)]
      by_cases h00 : len * sz = 0
      · have hfill0 : Instr.fill (fun i => some (i * sz, sz)) ((Array.range (len * sz)).map ((#[] : Array Value)[· % 0]!)) (parts.map fun (i, x) => (i, a.eval x)).toList = some us := by
          rw [← hfill]
          have e0 : Array.range (len * sz) = #[] := by rw [h00]; rfl
          rw [e0]
          simp
        simp only [h00, if_true, Sem.run_pure, Result.andThen_ok, Sem.run_bind] at hfill0 ⊢
        simp only [Array.size_empty] at hfill0 ⊢
        rw [hfill0]
        simp [run_newObj]
      · simp only [h00, if_false, Sem.run_bind, hzr, Result.andThen_ok, Sem.run_pure]
        have hfill0 : Instr.fill (fun i => some (i * sz, sz)) ((Array.range (len * sz)).map (zv.cells[· % zv.cells.size]!)) (parts.map fun (i, x) => (i, a.eval x)).toList = some us := by
          rw [← hfill]; simp
        rw [hfill0]
        simp [run_newObj]
    | load t x =>
      simp only [compOp] at hc
      split at hc <;> simp at hc
      subst hc
      rename_i n x' hn hx
      obtain ⟨v, hv, hk⟩ := h
      obtain ⟨u, hu, hr⟩ := loadVar_run hS hn (compX_vr hR hx) hv
      refine wp_value (u := u) (w' := w) ?_ (hK _ _ _ _ _ hk hS (Goes.refl _ _ _) hu)
      simp [execOp, hr]
    | store t x y =>
      simp only [compOp] at hc
      split at hc <;> simp at hc
      subst hc
      rename_i n x' y' hn hx hy
      obtain ⟨s', hs', hk⟩ := h
      have hx' := compX_vr hR hx
      have hy' := compX_vr hR hy
      unfold stA at hs'
      split at hs' <;> try (simp at hs'; done)
      rename_i b o hp
      rw [hp] at hx'
      obtain ⟨l, hl, hx'⟩ := hx'
      have go : ∀ (vs : List AV) (sz : Nat), wrA s b o vs = some s' → (sizeOf t).run P w = .ok sz w → vs.length = sz → VRs m vs (a.eval y).cells.toList →
          ∃ w', (execOp a.eval (⟨dst, .store t x y, type, pos, after, guard⟩ : Oper)).run P w = .ok .skip w' ∧ Sim m s' w' ∧ Goes m s w m s' w' := by
        intro vs sz hw hsz hlen hvr
        unfold wrA at hw
        split at hw <;> try (simp at hw; done)
        rename_i cs hs
        split at hw <;> simp at hw
        rename_i hcond
        subst hw
        obtain ⟨w', hrun, h1, h2⟩ := storeCells_run (P := P) vs (a.eval y).cells.toList 0 (x := o) hS hl hs hvr hcond.2 (by omega)
        refine ⟨w', ?_, h1, h2⟩
        have hsz' : ¬ ((a.eval y).cells.size ≠ sz) := by
          have : (a.eval y).cells.size = vs.length := by rw [← Array.length_toList]; exact VRs.length hvr
          omega
        simp only [execOp, Instr.storeAt, Instr.sureAddr, hx', storeVar, Sem.run_bind, Sem.run_pure, Result.andThen_ok, hsz, if_neg hsz']
        rw [hrun]
        rfl
      cases n with
      | none =>
        simp only at hs'
        split at hs' <;> try (simp at hs'; done)
        rename_i hcell
        have e1 : (y'.ev e).cells = [y'.ev e] := by revert hcell; cases y'.ev e <;> simp [AV.cell, AV.cells]
        have hvr := VR.cells hy' (.inl hcell)
        rw [e1] at hvr
        obtain ⟨w', h1, h2, h3⟩ := go _ 1 hs' (shp_none hn w).2 rfl hvr
        exact wp_skip' h1 (hK _ _ _ _ _ hk h2 h3 trivial)
      | some n =>
        simp only at hs'
        split at hs' <;> try (simp at hs'; done)
        rename_i cs hag
        split at hs' <;> try (simp at hs'; done)
        rename_i hlen
        have hvr := VR.cells hy' (.inr ⟨_, hag⟩)
        rw [hag] at hvr
        obtain ⟨w', h1, h2, h3⟩ := go _ n hs' (shp_some hn w).2 hlen hvr
        exact wp_skip' h1 (hK _ _ _ _ _ hk h2 h3 trivial)
    | makeSlice t l c =>
      simp only [compOp] at hc
      split at hc <;> try (simp at hc; done)
      rename_i el l' c' hu hl hc'
      split at hc <;> try (simp at hc; done)
      rename_i i z hi hz
      split at hc <;> simp at hc
      rename_i hzl
      subst hc
      obtain ⟨⟨r, s'⟩, hr, hk⟩ := h
      obtain ⟨w', m', v, h1, h2, h3, h4⟩ := mks_run (P := P) hS hu hi hz hzl.1 hzl.2 (compX_vr hR hl) (compX_vr hR hc') hr
      exact wp_value (u := v) (w' := w') (by simp [execOp, h1]) (hK _ _ _ _ _ hk h2 h3 h4)
    | call c =>
      simp only [compOp, compCall] at hc
      split at hc <;> try (simp at hc; done)
      rename_i xs hxs
      have hvs := compXs_vr hR hxs
      split at hc <;> try (simp at hc; done)
      · rename_i f hcal
        split at hc
        · split at hc <;> simp at hc
          subst hc; simp [RO.isPure] at hp
        · split at hc
          · split at hc <;> simp at hc
            subst hc; simp [RO.isPure] at hp
          · simp at hc
            subst hc
            obtain ⟨hkn, hcalls⟩ := hX _ _ _ _ h
            have hcs := hcalls m w (c.args.map a.eval) hS (by rw [Array.toList_map]; exact hvs)
            refine wp_enter (f := f) (args := c.args.map a.eval) (w' := w) ?_ (hcs.mono fun e' w'' ⟨av, s', m', v, hk, he, h1, h2, h3⟩ => ⟨v, he, hK _ _ _ _ _ hk h1 h2 h3⟩)
            simp only [execOp, resolve, hcal, Act.eval, Deferred.ofValue, invoke, Sem.run_bind, Sem.run_pure, Result.andThen_ok]
            rw [show (#[] ++ c.args.map a.eval ++ #[] : Array Value) = c.args.map a.eval by simp]
            exact run_callFunc_known hkn _ w
      · rename_i t hcal
        simp at hc
        subst hc
        simp only [opA, RX.ev] at h
        split at h <;> try (exact h.elim)
        rename_i f cs hf
        have ht := hR t
        rw [hf] at ht
        obtain ⟨vs, ht, hcv⟩ := ht
        obtain ⟨hkn, hcalls⟩ := hX _ _ _ _ h
        have hcs := hcalls m w (c.args.map a.eval ++ vs) hS (by rw [Array.toList_append, Array.toList_map]; exact VRs.append hvs hcv)
        refine wp_enter (f := f) (args := c.args.map a.eval ++ vs) (w' := w) ?_ (hcs.mono fun e' w'' ⟨av, s', m', v, hk, he, h1, h2, h3⟩ => ⟨v, he, hK _ _ _ _ _ hk h1 h2 h3⟩)
        simp only [execOp, resolve, hcal, Act.eval, ht, Deferred.ofValue, invoke, Sem.run_bind, Sem.run_pure, Result.andThen_ok]
        rw [show (#[] ++ c.args.map a.eval ++ vs : Array Value) = c.args.map a.eval ++ vs by simp]
        exact run_callFunc_known hkn _ w
      · split at hc <;> try (simp at hc; done)
        split at hc <;> simp at hc
        · subst hc; simp [RO.isPure] at hp
        · subst hc; simp [RO.isPure] at hp
      · split at hc <;> try (simp at hc; done)
        split at hc <;> simp at hc
        subst hc; simp [RO.isPure] at hp
      · rename_i hcal
        split at hc <;> try (simp at hc; done)
        rename_i t u x y ht hu
        obtain ⟨vx, vr, e1, hx, vy, vr2, e2, hy, e3⟩ := hvs
        obtain rfl : vr2 = [] := e3
        subst e2
        have hargs : c.args.map a.eval = #[vx, vy] := by
          apply Array.ext'; rw [Array.toList_map]; exact e1
        split at hc <;> try (simp at hc; done)
        · rename_i el el2 htu huu
          split at hc <;> try (simp at hc; done)
          rename_i i z hi hz
          split at hc <;> simp at hc
          rename_i hzl
          subst hc
          obtain ⟨⟨r, s'⟩, hr, hk⟩ := h
          obtain ⟨w', m', v, h1, h2, h3, h4⟩ := app_run (P := P) (ty := type) hS ht hu htu huu hi hz hzl hx hy hr
          refine wp_value (u := v) (w' := w') ?_ (hK _ _ _ _ _ hk h2 h3 h4)
          simp [execOp, resolve, hcal, invoke, builtin, hargs, h1]
        · rename_i el kk htu huu
          split at hc <;> try (simp at hc; done)
          rename_i i z hi hz
          split at hc <;> simp at hc
          rename_i hzl
          subst hc
          obtain ⟨⟨r, s'⟩, hr, hk⟩ := h
          obtain ⟨w', m', v, h1, h2, h3, h4⟩ := appz_run (P := P) (ty := type) hS ht hu htu huu hi hz hzl.1 hzl.2 hx hy hr
          refine wp_value (u := v) (w' := w') ?_ (hK _ _ _ _ _ hk h2 h3 h4)
          simp [execOp, resolve, hcal, invoke, builtin, hargs, h1]
    | binOp bop t x y yt =>
      exfalso
      cases bop <;> simp only [compOp] at hc <;> split at hc <;> simp at hc <;> (subst hc; simp [RO.isPure] at hp)
    | makeFunc fn first captured =>
      exfalso
      cases fn <;> simp only [compOp] at hc <;> try (simp at hc; done)
      split at hc <;> simp at hc
      obtain ⟨r, hr, rfl⟩ := hc
      simp [RO.isPure] at hp
    | move x | assign x | nilCheck x | unOp u t x | extract x i =>
      exfalso
      simp [compOp] at hc; obtain ⟨r, hr, rfl⟩ := hc; simp [RO.isPure] at hp
    | pick c x y | build t ps | convert t u x | makeInterface t x | slice t x lo hi mx | fieldAddr t x f | field t x f | indexAddr t x i | index t x i =>
      exfalso
      simp only [compOp] at hc
      repeat' (split at hc)
      all_goals first
        | (simp at hc; done)
        | (simp at hc; subst hc; simp [RO.isPure] at hp; done)
        | (simp at hc; obtain ⟨r, hr, rfl⟩ := hc; simp [RO.isPure] at hp; done)
    | _ => simp [compOp] at hc

end Go.Ev
