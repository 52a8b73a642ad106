import Derived.Test.YtkainejbilbjfaaEvT
import Derived.WalkKit
import Derived.ProofKit
import Derived.OpenShut
import Derived.ShutString
import Derived.ChangeOld
import Derived.Below
import Derived.SizedLaws
import Derived.ChangeSlices
import Derived.ChangeArms
import Derived.WideShapes
import Derived.Deep.Slices
import Derived.Carry
/-! From a run of the abstract machine to a call in the model: the arguments as read-only blocks. -/
namespace Go.Ev
open Go.ChangeShapes Go.WideShapes Go.ChangeAt Go.RowKit
set_option linter.unusedVariables false
set_option linter.unusedSimpArgs false

theorem row_le {p : Program} {fits : TypeId → Bool} {d : Nat} {e : TypeId} {count off n : Nat} (h : rowAt p fits d e count off n = true) : off ≤ count * p.cellsOf e := by
  cases d with
  | zero => simp [rowAt] at h
  | succ d =>
    unfold rowAt at h
    simp only at h
    split at h
    · simp at h
    rename_i hs
    have hd := Nat.div_add_mod off (p.cellsOf e)
    simp only [Bool.or_eq_true, Bool.and_eq_true] at h
    have hmul : ∀ i, i ≤ count → i * p.cellsOf e ≤ count * p.cellsOf e := fun i hi => Nat.mul_le_mul_right _ hi
    rcases h with ⟨⟨h1, h2⟩, _⟩ | ⟨h1, _⟩
    · have h1' : off % p.cellsOf e = 0 := by simpa using h1
      have h2' : off / p.cellsOf e + n ≤ count := by simpa using h2
      have := hmul (off / p.cellsOf e) (by omega)
      rw [Nat.mul_comm] at hd
      omega
    · have h1' : off / p.cellsOf e < count := by simpa using h1
      have := hmul (off / p.cellsOf e + 1) (by omega)
      have hlt := Nat.mod_lt off (Nat.pos_of_ne_zero hs)
      rw [Nat.add_mul, Nat.one_mul, Nat.mul_comm (off / _)] at this
      omega
theorem lies_le {p : Program} : ∀ {d : Nat} {e u : TypeId} {count off n : Nat}, liesAt p d e count off u n = true → off ≤ count * p.cellsOf e
  | 0, _, _, _, _, _, h => by simp [liesAt] at h
  | d + 1, e, u, count, off, n, h => by
    unfold liesAt at h
    rw [Bool.or_eq_true] at h
    rcases h with h | h
    · exact row_le h
    · split at h
      · exact lies_le h
      · simp at h

section
variable {α : Type}
/-- A slice that was handed in. -/
def SlArg (W : World) (v : Value) (n : Nat) (en : α → List AV) (l : List α) : Prop :=
  (v = .slice none 0 0 ∧ l = []) ∨ ∃ c x k cs t fz, v = .slice (some ⟨c, x, none⟩) l.length k ∧ l.length ≤ k ∧ x + k * n ≤ cs.size ∧ W.heap[c]? = some (.cells cs t fz) ∧
    ∀ i a, (l.flatMap en)[i]? = some a → ∃ u : Value, cs[x + i]? = some u ∧ ∀ m, VR m a u
/-- Where a run starts: all blocks were handed in. -/
structure Start (W : World) (s : St) (m : Inj) : Prop where
  sim : Sim m s W
  ro : ∀ i, i < s.length → ∃ cs, s[i]? = some (.cells false cs)
theorem start_nil (W : World) : Start W [] fun _ => none := ⟨⟨fun i l h => by simp at h, fun i j l l' h => by simp at h⟩, fun i h => by simp at h⟩

theorem Start.slice {W : World} {s : St} {m : Inj} (h : Start W s m) {v : Value} {n : Nat} {en : α → List AV} {l : List α} (ha : SlArg W v n en l) (he : ∀ q, (en q).length = n) :
    ∃ s' m' a, Start W s' m' ∧ Ext s s' ∧ m.le m' ∧ VR m' a v ∧ Rd n en s' a l := by
  rcases ha with ⟨rfl, rfl⟩ | ⟨c, x, k, cs, t, fz, rfl, hk, hz, hc, hcs⟩
  · exact ⟨s, m, .nils, h, .refl s, Inj.le_refl m, rfl, Rd.nil⟩
  · have hf := h.sim.fresh (Nat.le_refl s.length)
    have hle := Inj.put_le (l := ⟨c, x, cs.size⟩) hf
    have hlast : (s ++ [Blk.cells false (l.flatMap en)])[s.length]? = some (.cells false (l.flatMap en)) := by simp
    have hput : m.put s.length ⟨c, x, cs.size⟩ s.length = some ⟨c, x, cs.size⟩ := by unfold Inj.put; rw [if_pos rfl]
    have hro : ∀ i, i < (s ++ [Blk.cells false (l.flatMap en)]).length → ∃ cs, (s ++ [Blk.cells false (l.flatMap en)])[i]? = some (.cells false cs) := by
      intro i hi
      by_cases hs : i < s.length
      · rw [List.getElem?_append_left hs]; exact h.ro i hs
      · have : i = s.length := by simp at hi; omega
        subst this; exact ⟨_, hlast⟩
    refine ⟨s ++ [.cells false (l.flatMap en)], m.put s.length ⟨c, x, cs.size⟩, .sl s.length 0 n l.length none, ⟨⟨?_, ?_⟩, hro⟩, ⟨_, rfl⟩, hle, ?_, ?_⟩
    · intro i lo hi
      unfold Inj.put at hi
      split at hi
      · rename_i hs; subst hs
        cases hi
        exact ⟨_, _, hlast, hc, cs, t, fz, rfl, rfl, fun i a h => let ⟨u, h1, h2⟩ := hcs i a h; ⟨u, h1, h2 _⟩, fun h => by simp at h⟩
      · obtain ⟨b, o, h1, h2, h3⟩ := h.sim.at_ i lo hi
        exact ⟨b, o, by rw [List.getElem?_append_left (List.getElem?_eq_some_iff.1 h1).1]; exact h1, h2, h3.mono hle⟩
    · intro i j lo lo' hi hj _ hn
      exfalso
      apply hn
      have : i < (s ++ [Blk.cells false (l.flatMap en)]).length := by
        unfold Inj.put at hi
        split at hi
        · rename_i hs; subst hs; simp
        · have := (h.sim.lt hi).1; simp; omega
      exact .inr (hro i this)
    · exact ⟨_, k, x, hput, rfl, hk, hz, .inl rfl, fun y hy => by cases hy⟩
    · refine ⟨rfl, ?_, by simp [AV.under]⟩
      simp only [cellsA, rd_own hlast, List.drop_zero, true_and]
      have := flat_len he l
      rw [if_pos (by omega), List.take_of_length_le (by omega)]

theorem list_of {P : Nat → α → Prop} (n : Nat) (h : ∀ i, i < n → ∃ x, P i x) : ∃ l : List α, l.length = n ∧ ∀ i x, l[i]? = some x → P i x := by
  induction n with
  | zero => exact ⟨[], rfl, fun i x h => by simp at h⟩
  | succ n ih =>
    obtain ⟨l, hl, hi⟩ := ih (fun i hi => h i (by omega))
    obtain ⟨x, hp⟩ := h n (by omega)
    refine ⟨l ++ [x], by simp [hl], fun i y hy => ?_⟩
    by_cases hin : i < l.length
    · rw [List.getElem?_append_left hin] at hy; exact hi i y hy
    · have := (List.getElem?_eq_some_iff.1 hy).1
      have e : i = l.length := by simp at this; omega
      subst e
      simp at hy
      subst hy
      rw [hl]; exact hp
theorem flat_at {n : Nat} {en : α → List AV} (he : ∀ q, (en q).length = n) : ∀ {l : List α} {i : Nat} {a : AV}, (l.flatMap en)[i]? = some a → ∃ j k q, i = j * n + k ∧ k < n ∧ l[j]? = some q ∧ (en q)[k]? = some a
  | [], i, a, h => by simp at h
  | x :: l, i, a, h => by
    rw [List.flatMap_cons] at h
    by_cases hi : i < n
    · rw [List.getElem?_append_left (by rw [he]; exact hi)] at h
      exact ⟨0, i, x, by simp, hi, rfl, h⟩
    · rw [List.getElem?_append_right (by rw [he]; omega), he] at h
      obtain ⟨j, k, q, h1, h2, h3, h4⟩ := flat_at he h
      exact ⟨j + 1, k, q, by rw [Nat.succ_mul]; omega, h2, h3, h4⟩

variable {H : Type} {enc : TypeId × Value → H} {P : Program} {W : World}
theorem cell_off {c x k : Nat} {cs : Array Value} {t : TypeId} {fz : Nat × Nat} (hc : W.heap[c]? = some (.cells cs t fz)) : W.cell? (Addr.add ⟨c, x, none⟩ k) = cs[x + k]? := by
  have h1 : (Addr.add ⟨c, x, none⟩ k).block = c := by unfold Addr.add; split <;> rfl
  have h2 : (Addr.add ⟨c, x, none⟩ k).spot = none := by unfold Addr.add; split <;> rfl
  have h3 : (Addr.add ⟨c, x, none⟩ k).off = x + k := by
    unfold Addr.add
    split
    · rename_i h; rw [h]; rfl
    · rfl
  unfold World.cell?
  rw [h1, hc]
  simp only [h2, h3]
  rfl
theorem VRs.at {m : Inj} : ∀ {as : List AV} {vs : List Value} {i : Nat} {a : AV}, VRs m as vs → as[i]? = some a → ∃ u, vs[i]? = some u ∧ VR m a u
  | [], _, i, a, _, h => by simp at h
  | b :: as, vs, 0, a, ⟨v, vs', e, h1, h2⟩, h => by simp at h; subst h; subst e; exact ⟨v, rfl, h1⟩
  | b :: as, vs, i + 1, a, ⟨v, vs', e, h1, h2⟩, h => by
    subst e
    obtain ⟨u, h3, h4⟩ := VRs.at h2 (by simpa using h)
    exact ⟨u, by simpa using h3, h4⟩

/-- A slice argument, opened. -/
theorem slice_arg {t e : TypeId} {v : Value} {d : DataW H} {ps : List MemPlace} {b0 : Nat} (ht : P.underlying t = some (.slice e)) (hv : Value.okWide P W .any b0 t v) (h : DataW.Trod enc P W 0 (fun _ => true) true t v d ps)
    {n : Nat} (hn : P.cellsOf e = n) (h0 : 0 < n) {en : α → List AV} (he : ∀ q, (en q).length = n) {Q : α → Prop}
    (elem : ∀ fuel cs x, DataW.trod enc P W 0 (fun _ => true) true fuel e cs = some x → ∃ q, Q q ∧ ∀ m, VRs m (en q) cs)
    {ts : List TypeId} {ds : List (DataW H)} (hsz : (DataW.weightsEach P ts ds).all (· ≤ reachBytes) = true) {j : Nat} (htj : ts[j]? = some t) (hdj : ds[j]? = some d) (hB : 0 < P.bytesOf e) :
    ∃ l : List α, (∀ q ∈ l, Q q) ∧ SlArg W v n en l ∧ l.length ≤ 140737488351232 := by
  obtain ⟨a, len, cap, rfl⟩ := okWide_slice ht hv
  obtain ⟨fuel, hf⟩ := h
  rcases Go.Deep.open_slice ht hf with ⟨hcs, _⟩ | ⟨a', len', cap', m, k, D, Pl, hcs, _, hl, hm, hmm, hx, hi⟩
  · simp [Value.cells] at hcs
    obtain ⟨rfl, rfl, rfl⟩ := hcs
    exact ⟨[], by simp, .inl ⟨rfl, rfl⟩, by simp⟩
  · simp [Value.cells] at hcs
    obtain ⟨rfl, rfl, rfl⟩ := hcs
    simp at hmm
    subst hmm
    rw [hn] at hi
    have hok : len ≤ m ∧ (m : Int) ≤ IntKind.i64.max ∧ W.has P .any b0 a' e m := by
      have hv' := hv
      unfold Value.okWide at hv'
      rw [ht] at hv'
      simp only [Cell.okWide, ht, Cell.ok] at hv'
      exact hv'
    obtain ⟨_, hsp, row, cells, hsh, hlies⟩ := hok.2.2
    obtain ⟨c, x, sp⟩ := a'
    simp only at hsp
    subst hsp
    unfold World.shape? at hsh
    split at hsh <;> try (simp at hsh; done)
    rename_i cs tt fz hc
    simp only [Option.some.injEq, Prod.mk.injEq] at hsh
    obtain ⟨rfl, rfl⟩ := hsh
    have hx0 := lies_le hlies
    change x ≤ _ at hx0
    change W.heap[c]? = _ at hc
    have hx1 := Nat.div_mul_le_self cs.size (P.cellsOf tt)
    have cellAt : ∀ i, i < m → ∃ (cs' : List Value) (z : DataW H × List MemPlace), DataW.trod enc P W 0 (fun _ => true) true k e cs' = some z ∧ cs'.length = n ∧ ∀ k, k < n → cs[x + (i * n + k)]? = cs'[k]? := by
      intro i hlt
      obtain ⟨cs', h1, h2⟩ := hi i hlt
      obtain ⟨_, h3, h4⟩ := World.cells?_some h1
      refine ⟨cs', _, h2, h3, fun k hk => ?_⟩
      have := h4 k hk
      rw [Go.Deep.add_add] at this
      rw [← this, cell_off hc]
    obtain ⟨l, hll, hle⟩ := list_of (P := fun i (q : α) => Q q ∧ ∀ k a, (en q)[k]? = some a → ∃ u : Value, cs[x + (i * n + k)]? = some u ∧ ∀ m, VR m a u) len fun i hlt => by
      obtain ⟨cs', z, h1, h2, h3⟩ := cellAt i (by omega)
      obtain ⟨q, hq, hvr⟩ := elem _ _ _ h1
      refine ⟨q, hq, fun k a ha => ?_⟩
      have hkn : k < n := by rw [← he q]; exact (List.getElem?_eq_some_iff.1 ha).1
      obtain ⟨u, hu, _⟩ := VRs.at (hvr fun _ => none) ha
      refine ⟨u, by rw [h3 k hkn]; exact hu, fun m => ?_⟩
      obtain ⟨u', hu', hr⟩ := VRs.at (hvr m) ha
      rw [hu] at hu'; cases hu'; exact hr
    refine ⟨l, ?_, .inr ⟨c, x, m, cs, tt, fz, by rw [hll], by omega, ?_, hc, ?_⟩, ?_⟩
    · intro q hq
      obtain ⟨i, hlt, rfl⟩ := List.getElem_of_mem hq
      exact (hle i _ (List.getElem?_eq_getElem hlt)).1
    · rcases Nat.eq_zero_or_pos m with rfl | hm0
      · rw [Nat.zero_mul]; omega
      · obtain ⟨cs', z, h1, h2, h3⟩ := cellAt (m - 1) (by omega)
        have h4 := h3 (n - 1) (by omega)
        rw [List.getElem?_eq_getElem (by omega)] at h4
        have h5 := (Array.getElem?_eq_some_iff.1 h4).1
        have : m * n = (m - 1) * n + n := by rw [← Nat.succ_mul]; congr 1; omega
        omega
    · intro i a ha
      obtain ⟨j, k, q, rfl, hk, hq, hqa⟩ := flat_at he ha
      exact (hle j q hq).2 k a hqa
    · obtain ⟨hx, _⟩ := Prod.mk.inj hx
      have z := sized_slice hsz htj (hdj.trans (congrArg some hx)) ht
      have h1 : ((List.range len).map D).length + ((List.range (m - len)).map fun j => D (len + j)).length = m := by simp; omega
      rw [h1] at z
      rw [hll]
      have : m * 1 ≤ m * P.bytesOf e := Nat.mul_le_mul_left _ hB
      unfold reachBytes at z
      omega
end

/-- What a run that answers true says of the call in the model. -/
theorem run_calls {P : Program} {X : Oracle} (hX : XS P X) {W : World} {s : St} {m : Inj} (h : Start W s m) {f : Nat} {xs : List AV} {vs : Array Value} (hv : VRs m xs vs.toList) (hr : X f xs s fun r _ => r = .bool true) :
    Calls P f vs W fun e W' => e = .returned (.bool true) ∧ Below W.heap.size W W' := by
  refine ((hX f xs s _ hr).2 m W vs h.sim hv).mono fun e W' ⟨a, s', m', v, hk, he, _, hg, hvr⟩ => ?_
  subst hk
  have hvr' : v = .bool true := hvr
  refine ⟨by rw [he, hvr'], hg.os, hg.tape, hg.output, hg.size, fun c hc => (hg.keep c hc fun i l hi _ => .inr (h.ro i (h.sim.lt hi).1)).1⟩
end Go.Ev
