import Derived.Test.YtkainejbilbjfaaEvF
/-! Memory: new blocks, loads, stores, append. -/
namespace Go.Ev
set_option linter.unusedVariables false
set_option linter.unusedSimpArgs false
variable {P : Program} {m : Inj} {s : St} {w : World}

theorem Sim.heap {w' : World} (h : Sim m s w) (e : w'.heap = w.heap) : Sim m s w' :=
  ⟨fun i l hi => by rw [e]; exact h.at_ i l hi, h.inj⟩

theorem Goes.heap {w' : World} (e : w'.heap = w.heap) (h1 : w'.os = w.os) (h2 : w'.tape = w.tape) (h3 : w'.output = w.output) : Goes m s w m s w' :=
  ⟨Inj.le_refl m, fun _ _ h => .inl h, Nat.le_refl _, h1, h2, h3, by rw [e]; exact Nat.le_refl _, fun c _ h => ⟨by rw [e], h⟩⟩

def Inj.put (m : Inj) (i : Nat) (l : Loc) : Inj := fun j => if j = i then some l else m j

theorem Inj.put_le {i : Nat} {l : Loc} (h : m i = none) : m.le (m.put i l) := fun j k e => by
  unfold Inj.put
  split
  · rename_i hj; subst hj; rw [h] at e; simp at e
  · exact e

theorem Sim.fresh (h : Sim m s w) {i : Nat} (hi : s.length ≤ i) : m i = none := by
  cases hm : m i with
  | none => rfl
  | some l => have := (h.lt hm).1; omega

theorem ro_append {s t : St} {i : Nat} (hi : i < s.length) : ro (s ++ t) i ↔ ro s i := by
  unfold ro
  rw [List.getElem?_append_left hi]

/-- A new block, at the end of the store. -/
theorem Sim.alloc (h : Sim m s w) {cs : List AV} {vs : Array Value} {t : TypeId} (hr : ∀ (i : Nat) (a : AV), cs[i]? = some a → ∃ v : Value, vs[i]? = some v ∧ VR m a v) :
    Sim (m.put s.length ⟨w.heap.size, 0, vs.size⟩) (s ++ [.cells true cs]) (w.alloc (.cells vs t)) ∧
    Goes m s w (m.put s.length ⟨w.heap.size, 0, vs.size⟩) (s ++ [.cells true cs]) (w.alloc (.cells vs t)) := by
  have hle := Inj.put_le (l := ⟨w.heap.size, 0, vs.size⟩) (h.fresh (Nat.le_refl s.length))
  have old : ∀ {i l}, (m.put s.length ⟨w.heap.size, 0, vs.size⟩) i = some l → (i = s.length ∧ l = ⟨w.heap.size, 0, vs.size⟩) ∨ (i < s.length ∧ m i = some l) := by
    intro i l hi
    unfold Inj.put at hi
    split at hi
    · rename_i e; simp at hi; exact .inl ⟨e, hi.symm⟩
    · exact .inr ⟨(h.lt hi).1, hi⟩
  refine ⟨⟨?_, ?_⟩, ⟨hle, ?_, by simp, rfl, rfl, rfl, by show _ ≤ (w.heap.push _).size; simp, ?_⟩⟩
  · intro i l hi
    rcases old hi with ⟨rfl, rfl⟩ | ⟨hlt, hm⟩
    · refine ⟨.cells true cs, .cells vs t, by simp, by show (w.heap.push _)[_]? = _; simp, vs, t, (0, 0), rfl, rfl, ?_, ?_⟩
      · intro i a ha
        obtain ⟨v, hv, hr'⟩ := hr i a ha
        exact ⟨v, by simpa using hv, VR.mono hle a v hr'⟩
      · intro _ k _; simp
    · obtain ⟨b, o, h1, h2, h3⟩ := h.at_ i l hm
      refine ⟨b, o, by rw [List.getElem?_append_left hlt]; exact h1, ?_, BR.mono hle h3⟩
      have := (h.lt hm).2
      simp only [World.alloc, Array.getElem?_push]
      rw [if_neg (by omega)]
      exact h2
  · intro i j l l' hi hj hc hro
    rcases old hi with ⟨rfl, rfl⟩ | ⟨hlt, hm⟩
    · rcases old hj with ⟨rfl, rfl⟩ | ⟨hlt', hm'⟩
      · exact .inl rfl
      · have := (h.lt hm').2; simp at hc; omega
    · rcases old hj with ⟨rfl, rfl⟩ | ⟨hlt', hm'⟩
      · have := (h.lt hm).2; simp at hc; omega
      · rw [ro_append hlt] at hro
        rw [List.getElem?_append_left hlt']
        exact h.inj i j l l' hm hm' hc hro
  · intro i l hi
    rcases old hi with ⟨rfl, rfl⟩ | ⟨hlt, hm⟩
    · exact .inr (Nat.le_refl _)
    · exact .inl hm
  · intro c hc hH
    refine ⟨by simp only [World.alloc, Array.getElem?_push]; rw [if_neg (by omega)], ?_⟩
    intro i l hi hlc
    rcases old hi with ⟨rfl, rfl⟩ | ⟨hlt, hm⟩
    · simp at hlc; omega
    · rw [ro_append hlt]; exact hH i l hm hlc

theorem own_ro {b : Nat} {cs : List AV} (hs : s[b]? = some (.cells true cs)) : ¬ ro s b := by
  intro h
  rcases h with h | ⟨c, h⟩ <;> rw [hs] at h <;> simp at h

/-- One block of the run's own is written. -/
theorem Sim.write (h : Sim m s w) {b : Nat} {l : Loc} (hb : m b = some l) {cs cs' : List AV} (hs : s[b]? = some (.cells true cs)) {w' : World}
    (hw : ∀ c, c ≠ l.c → w'.heap[c]? = w.heap[c]?) (hsz : w'.heap.size = w.heap.size) (hos : w'.os = w.os) (htp : w'.tape = w.tape) (hout : w'.output = w.output)
    (hnew : ∃ o, w'.heap[l.c]? = some o ∧ BR m l.d l.z (.cells true cs') o) :
    Sim m (s.set b (.cells true cs')) w' ∧ Goes m s w m (s.set b (.cells true cs')) w' := by
  have hlt := (h.lt hb).1
  have hro := own_ro hs
  have hset : ∀ i, i ≠ b → (s.set b (.cells true cs'))[i]? = s[i]? := fun i hi => List.getElem?_set_ne (Ne.symm hi)
  have hself : (s.set b (.cells true cs'))[b]? = some (.cells true cs') := by simp [hlt]
  have hro' : ∀ i, ro (s.set b (.cells true cs')) i ↔ ro s i := by
    intro i
    by_cases hi : i = b
    · subst hi
      exact ⟨fun k => absurd k (own_ro hself), fun k => absurd k hro⟩
    · unfold ro; rw [hset i hi]
  refine ⟨⟨?_, ?_⟩, ⟨Inj.le_refl m, fun _ _ e => .inl e, by simp, hos, htp, hout, by omega, ?_⟩⟩
  · intro i l' hi
    by_cases hib : i = b
    · subst hib
      rw [hb] at hi
      cases hi
      obtain ⟨o, h1, h2⟩ := hnew
      exact ⟨_, o, hself, h1, h2⟩
    · obtain ⟨bb, o, h1, h2, h3⟩ := h.at_ i l' hi
      rw [hset i hib]
      by_cases hc : l'.c = l.c
      · rcases h.inj b i l l' hb hi hc.symm hro with e | e
        · exact absurd e.symm hib
        · obtain ⟨o', h4, _⟩ := hnew
          exact ⟨.dead, o', e, by rw [hc]; exact h4, trivial⟩
      · exact ⟨bb, o, h1, by rw [hw _ hc]; exact h2, h3⟩
  · intro i j l1 l2 hi hj hc hn
    rw [hro'] at hn
    rcases h.inj i j l1 l2 hi hj hc hn with e | e
    · exact .inl e
    · by_cases hjb : j = b
      · subst hjb; rw [hs] at e; simp at e
      · right; rw [hset j hjb]; exact e
  · intro c hc hH
    have hne : c ≠ l.c := fun e => hro (hH b l hb e.symm)
    exact ⟨hw c hne, fun i l' hi hlc => (hro' i).2 (hH i l' hi hlc)⟩

theorem cell_of {l : Loc} {arr : Array Value} {t : TypeId} {fz : Nat × Nat} (h : w.heap[l.c]? = some (.cells arr t fz)) (o : Nat) : w.cell? ⟨l.c, o, none⟩ = arr[o]? := by
  simp [World.cell?, h]

/-- Cells of a live block. -/
theorem Sim.cells (h : Sim m s w) {b : Nat} {l : Loc} (hb : m b = some l) {cs : List AV} (hs : rdB s b = some cs) : ∀ (i : Nat) (a : AV), cs[i]? = some a → ∃ v, w.cell? ⟨l.c, l.d + i, none⟩ = some v ∧ VR m a v := by
  obtain ⟨bb, o, h1, h2, h3⟩ := h.at_ b l hb
  unfold rdB at hs
  rw [h1] at hs
  cases bb with
  | cells own cs' =>
    simp at hs
    subst hs
    obtain ⟨arr, t, fz, rfl, hz, hr, _⟩ := h3
    intro i a hi
    obtain ⟨v, hv, hr'⟩ := hr i a hi
    exact ⟨v, by rw [cell_of h2]; exact hv, hr'⟩
  | _ => simp at hs

/-- Cells in a row, as values. -/
theorem Sim.row (h : Sim m s w) {b : Nat} {l : Loc} (hb : m b = some l) {cs : List AV} (hs : rdB s b = some cs) (o n : Nat) (hle : o + n ≤ cs.length) :
    ∃ us : List Value, VRs m ((cs.drop o).take n) us ∧ us.length = n ∧ ∀ w' : World, w'.heap = w.heap → ∀ j v, us[j]? = some v → w'.cell? (Addr.add ⟨l.c, l.d + o, none⟩ j) = some v := by
  have key : ∀ (k : Nat), k ≤ n → ∃ us : List Value, VRs m ((cs.drop o).take k) us ∧ us.length = k ∧ ∀ j v, us[j]? = some v → w.cell? (Addr.add ⟨l.c, l.d + o, none⟩ j) = some v := by
    intro k
    induction k with
    | zero => intro _; exact ⟨[], by simp [VRs], rfl, by simp⟩
    | succ k ih =>
      intro hk
      obtain ⟨us, h1, h2, h3⟩ := ih (by omega)
      have hlt : o + k < cs.length := by omega
      obtain ⟨v, hv, hr⟩ := h.cells hb hs (o + k) cs[o + k] (by simp [hlt])
      refine ⟨us ++ [v], ?_, by simp [h2], ?_⟩
      · have e : (cs.drop o).take (k + 1) = (cs.drop o).take k ++ [cs[o + k]] := by
          rw [List.take_add_one]
          have : (cs.drop o)[k]? = some cs[o + k] := by simp [List.getElem?_drop, hlt]
          rw [this]; rfl
        rw [e]
        exact VRs.append h1 ⟨v, [], rfl, hr, rfl⟩
      · intro j u hj
        rcases Nat.lt_or_ge j k with hjk | hjk
        · rw [List.getElem?_append_left (by omega)] at hj
          exact h3 j u hj
        · have hjk' : j = k := by
            have := (List.getElem?_eq_some_iff.1 hj).1
            simp [h2] at this; omega
          subst hjk'
          rw [List.getElem?_append_right (by omega)] at hj
          simp [h2] at hj
          subst hj
          rw [Addr.add_lit, Nat.add_assoc]
          exact hv
  obtain ⟨us, h1, h2, h3⟩ := key n (Nat.le_refl _)
  refine ⟨us, h1, h2, fun w' e j v hj => ?_⟩
  have := h3 j v hj
  unfold World.cell? at this ⊢
  rw [e]
  exact this

theorem loadVar_run (h : Sim m s w) {t : TypeId} {n : Option Nat} (hs : shp P t = some n) {p v : AV} {u : Value} (hp : VR m p u) (hv : ldA s n p = some v) :
    ∃ x, VR m v x ∧ (Instr.loadAt t u).run P w = .ok x w := by
  unfold ldA at hv
  split at hv <;> try (simp at hv; done)
  rename_i b o
  obtain ⟨l, hl, rfl⟩ := hp
  split at hv <;> try (simp at hv; done)
  rename_i cs hcs
  cases n with
  | none =>
    obtain ⟨x, hx, hr⟩ := h.cells hl hcs o v hv
    exact ⟨x, hr, by simp [Instr.loadAt, Instr.sureAddr, loadVar, (shp_none hs w).1, hx]⟩
  | some n =>
    simp only [partA] at hv
    split at hv <;> simp at hv
    subst hv
    rename_i hle
    obtain ⟨us, h1, h2, h3⟩ := h.row hl hcs o n hle
    refine ⟨.agg us.toArray, ⟨us.toArray, rfl, by simpa using h1⟩, ?_⟩
    have := run_loadCells_list (P := P) w ⟨l.c, l.d + o, none⟩ us (h3 w rfl)
    rw [h2] at this
    simp [Instr.loadAt, Instr.sureAddr, loadVar, (shp_some hs w).1, (shp_some hs w).2, this]

theorem isCell_one {v : Value} (h : Value.isCell v = true) : v.oneCell' = true := by cases v <;> simp_all [Value.isCell, Value.oneCell']

/-- Cells stored one by one into a block of the run's own. -/
theorem storeCells_run : ∀ (vs : List AV) (us : List Value) (i : Nat) {s : St} {w : World} {b : Nat} {l : Loc} {cs : List AV} {x : Nat}, Sim m s w → m b = some l → s[b]? = some (.cells true cs) →
    VRs m vs us → vs.all AV.cell = true → x + i + vs.length ≤ cs.length →
    ∃ w', (storeCells ⟨l.c, l.d + x, none⟩ us i).run P w = .ok () w' ∧ Sim m (s.set b (.cells true (setL cs (x + i) vs))) w' ∧ Goes m s w m (s.set b (.cells true (setL cs (x + i) vs))) w'
  | [], us, i, s, w, b, l, cs, x, h, hb, hs, hr, hc, hle => by
    obtain rfl : us = [] := hr
    have hlt := (h.lt hb).1
    have e : s.set b (.cells true cs) = s := by
      apply List.ext_getElem?
      intro j
      by_cases hj : j = b
      · subst hj; simp [hlt, hs]
        exact (List.getElem?_eq_some_iff.1 hs).2.symm
      · rw [List.getElem?_set_ne (Ne.symm hj)]
    refine ⟨w, by simp [storeCells], ?_⟩
    simp only [setL, e]
    exact ⟨h, Goes.refl _ _ _⟩
  | v :: vs, _, i, s, w, b, l, cs, x, h, hb, hs, ⟨u, us, rfl, hv, hr⟩, hc, hle => by
    simp only [List.all_cons, Bool.and_eq_true] at hc
    obtain ⟨hc1, hc2⟩ := hc
    simp only [List.length_cons] at hle
    have hu := isCell_one (VR.cell hv hc1)
    obtain ⟨bb, o, h1, h2, h3⟩ := h.at_ b l hb
    rw [hs] at h1
    cases h1
    obtain ⟨arr, t, fz, rfl, hz, hrel, hfz⟩ := h3
    have hlt : x + i < cs.length := by omega
    obtain ⟨v0, hv0, _⟩ := hrel (x + i) cs[x + i] (by simp [hlt])
    have hz0 : l.d + (x + i) < arr.size := (Array.getElem?_eq_some_iff.1 hv0).1
    have hcell : w.cell? ⟨l.c, l.d + x + i, none⟩ = some v0 := by rw [cell_of h2]; rw [show l.d + x + i = l.d + (x + i) by omega]; exact hv0
    have hfrz : w.frozen? ⟨l.c, l.d + x + i, none⟩ = false := by
      have := hfz rfl (l.d + (x + i)) hz0
      simp only [World.frozen?, h2]
      rw [show l.d + x + i = l.d + (x + i) by omega]
      simp only [Bool.and_eq_false_iff, decide_eq_false_iff_not]
      omega
    have hst : (store ⟨l.c, l.d + x + i, none⟩ u).run P w = .ok () (w.setCell ⟨l.c, l.d + x + i, none⟩ u) := by
      rw [run_store P w _ u .plain hu, hcell]
      simp [hfrz]
    have hheap : (w.setCell ⟨l.c, l.d + x + i, none⟩ u).heap[l.c]? = some (.cells (arr.setIfInBounds (l.d + x + i) u) t fz) := by
      simp [World.setCell, Array.getElem?_modify, h2]
    obtain ⟨hS, hG⟩ := h.write hb hs (cs' := cs.set (x + i) v) (w' := w.setCell ⟨l.c, l.d + x + i, none⟩ u)
      (fun c hne => by simp only [World.setCell, Array.getElem?_modify]; rw [if_neg (by omega)]) (by simp [World.setCell]) rfl rfl rfl
      ⟨_, hheap, arr.setIfInBounds (l.d + x + i) u, t, fz, rfl, by simpa using hz, by
        intro j a hj
        by_cases hji : j = x + i
        · subst hji
          rw [List.getElem?_set_self hlt] at hj
          cases hj
          refine ⟨u, ?_, hv⟩
          rw [show l.d + x + i = l.d + (x + i) by omega]
          simp [hz0]
        · rw [List.getElem?_set_ne (by omega)] at hj
          obtain ⟨v1, hv1, hr1⟩ := hrel j a hj
          refine ⟨v1, ?_, hr1⟩
          rw [Array.getElem?_setIfInBounds_ne (by omega)]
          exact hv1, fun hh k hk => hfz hh k (by simpa using hk)⟩
    have hlb := (h.lt hb).1
    obtain ⟨w', hrun, hS', hG'⟩ := storeCells_run vs us (i + 1) (b := b) (l := l) (cs := cs.set (x + i) v) (x := x) hS hb (by simp [hlb]) hr hc2 (by simp; omega)
    refine ⟨w', ?_, ?_, ?_⟩
    · simp only [storeCells, Sem.run_bind, Addr.add_lit, hst, Result.andThen_ok]
      exact hrun
    · simp only [List.set_set] at hS'
      exact hS'
    · have := hG.trans hG'
      simp only [List.set_set] at this
      exact this

end Go.Ev
