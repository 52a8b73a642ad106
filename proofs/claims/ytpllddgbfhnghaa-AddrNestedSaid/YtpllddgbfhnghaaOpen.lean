-- Written by pp.py, a program of this session, out of the translation.
import Derived.Test.YtpllddgbfhnghaaPx0
import Derived.WalkKit
import Derived.ProofKit
import Derived.OpenShut
import Derived.ShutString
import Derived.ChangeOld
import Derived.Below
import Derived.SizedLaws
import Derived.ChangeSlices
import Derived.ChangeArms
import Derived.WideShapes
import Derived.Deep.Slices
import Derived.Carry
namespace Go.Proofs.Ytpllddgbfhnghaa
open Go.ChangeShapes Go.WideShapes Go.ChangeAt Go.RowKit Go.Proofs.Ytpllddgbfhnghaa.P Go.Proofs.YtpllddgbfhnghaaW.PrintWords
set_option linter.unusedVariables false
set_option linter.unusedSimpArgs false

section
variable {H : Type} {enc : TypeId × Value → H} {P : Program} {w : World} {base : Nat} {spare : Nat → Bool} {held : Bool}
theorem list_of {α : Type} {P : α → List Value → Prop} (n : Nat) (Q : Nat → List Value → Prop) (h : ∀ i, i < n → ∃ x c, P x c ∧ Q i c) : ∃ l : List α, l.length = n ∧ ∀ i (hi : i < l.length), ∃ c, P l[i] c ∧ Q i c := by
  induction n with
  | zero => exact ⟨[], rfl, fun i hi => absurd hi (by simp)⟩
  | succ n ih =>
    obtain ⟨l, hl, hi⟩ := ih (fun i hi => h i (by omega))
    obtain ⟨x, c, hp, hq⟩ := h n (by omega)
    refine ⟨l ++ [x], by simp [hl], fun i hlt => ?_⟩
    by_cases hin : i < l.length
    · rw [List.getElem_append_left hin]
      exact hi i hin
    · have : i = l.length := by simp at hlt; omega
      subst this
      rw [List.getElem_append_right (Nat.le_refl _)]
      simp only [Nat.sub_self, List.getElem_cons_zero]
      exact ⟨c, hp, hl ▸ hq⟩
theorem slice_rows {t e : TypeId} {a : Option Addr} {len cap fuel : Nat} {x : DataW H × List MemPlace} (ht : P.underlying t = some (.slice e)) (h : DataW.trod enc P w base spare held fuel t (Value.slice a len cap).cells.toList = some x) :
    len ≤ cap ∧ cap ≤ 9223372036854775807 ∧ (0 < len → ∃ ad, a = some ad) ∧ ∀ i, i < len → ∃ ad, a = some ad ∧ ∃ n y cs, w.cells? base (ad.add (i * P.cellsOf e)) (P.cellsOf e) = some cs ∧ DataW.trod enc P w base spare held n e cs = some y := by
  rcases Go.Deep.open_slice ht h with ⟨hcs, _⟩ | ⟨a', len', cap', m, n, D, Pl, hcs, _, hl, hm, hmm, _, hi⟩
  · simp [Value.cells] at hcs
    obtain ⟨rfl, rfl, rfl⟩ := hcs
    exact ⟨Nat.le_refl _, by omega, fun h => absurd h (by omega), fun i h => absurd h (by omega)⟩
  · simp [Value.cells] at hcs
    obtain ⟨rfl, rfl, rfl⟩ := hcs
    unfold maxLen at hm
    have hle : len ≤ m := by rw [hmm]; split <;> omega
    refine ⟨hl, hm, fun _ => ⟨a', rfl⟩, fun i hlt => ⟨a', rfl, n, ?_⟩⟩
    obtain ⟨cs', hc, ht'⟩ := hi i (by omega)
    exact ⟨_, cs', hc, ht'⟩
theorem cells_at {ad : Addr} {i n : Nat} {cs : List Value} (h : w.cells? base (ad.add (i * n)) n = some cs) (j : Nat) (u : Value) (hu : cs[j]? = some u) : w.cell? (ad.add (i * n + j)) = some u := by
  obtain ⟨_, hcl, hat⟩ := World.cells?_some h
  have hj : j < n := by rw [← hcl]; exact (List.getElem?_eq_some_iff.1 hu).1
  have := hat j hj
  rw [Go.Deep.add_add] at this
  rw [this, hu]
theorem slice_len_le {ts : List TypeId} {ds : List (DataW H)} (hsz : (DataW.weightsEach P ts ds).all (· ≤ reachBytes) = true) {j : Nat} {t e : TypeId} {d : DataW H} (ht : ts[j]? = some t) (hd : ds[j]? = some d) (hu : P.underlying t = some (.slice e)) {B : Nat} (hB : P.bytesOf e = B) {a : Option Addr} {len cap : Nat} {ps : List MemPlace}
    (h : DataW.Trod enc P w base spare held t (.slice a len cap) d ps) : len * B ≤ 140737488351232 := by
  obtain ⟨fuel, hf⟩ := h
  rcases Go.Deep.open_slice hu hf with ⟨hcs, _⟩ | ⟨a', len', cap', m, n, D, Pl, hcs, _, hl, hm, hmm, hx, _⟩
  · simp [Value.cells] at hcs
    obtain ⟨rfl, rfl, rfl⟩ := hcs
    simp
  · simp [Value.cells] at hcs
    obtain ⟨rfl, rfl, rfl⟩ := hcs
    obtain ⟨hx, _⟩ := Prod.mk.inj hx
    subst hx
    have z := sized_slice hsz ht hd hu
    rw [hB] at z
    have h1 : ((List.range len).map D).length + ((List.range (m - len)).map fun j => D (len + j)).length = max m len := by simp; omega
    rw [h1] at z
    exact Nat.le_trans (Nat.mul_le_mul_right _ (Nat.le_max_right _ _)) z
end

theorem cells_S24 {H : Type} {enc : TypeId × Value → H} {w : World} {base : Nat} {spare : Nat → Bool} {held : Bool} {fuel : Nat} {cs : List Value} {x : DataW H × List MemPlace} (h : DataW.trod enc Try.prog w base spare held fuel 24 cs = some x) :
    ∃ (x0 : Int) (x1 : Int), cs = [.int .u64 x0, .int .u64 x1] ∧ (Lit.int .u64 x0).wf = true ∧ (Lit.int .u64 x1).wf = true := by
  obtain ⟨xs, n, _, hx, hl, hlen, hf⟩ := DataW.trod_struct Try.underlying24 h
  have hl' : cs.length = 2 := hl.trans (by kernel_rfl)
  obtain ⟨c0, c1, rfl⟩ : ∃ c0 c1 : Value, cs = [c0, c1] := by
    match cs, hl' with
    | [c0, c1], _ => exact ⟨_, _, rfl⟩
  have k0 : Try.prog.cellsOf 22 = 1 := by kernel_rfl
  have h0 : DataW.trod enc Try.prog w base spare held n 22 ((([c0, c1] : List Value).drop 0).take (Try.prog.cellsOf 22)) = xs[0]? := hf 0 _ rfl
  rw [k0, List.getElem?_eq_getElem (by rw [hlen]; decide)] at h0
  simp only [List.drop_succ_cons, List.drop_zero, List.take_succ_cons, List.take_zero] at h0
  obtain ⟨y0, e0, _, u0⟩ := DataW.trod_int Try.underlying22 h0
  simp only [List.cons.injEq, and_true] at e0
  have k1 : Try.prog.cellsOf 22 = 1 := by kernel_rfl
  have h1 : DataW.trod enc Try.prog w base spare held n 22 ((([c0, c1] : List Value).drop 1).take (Try.prog.cellsOf 22)) = xs[1]? := hf 1 _ rfl
  rw [k1, List.getElem?_eq_getElem (by rw [hlen]; decide)] at h1
  simp only [List.drop_succ_cons, List.drop_zero, List.take_succ_cons, List.take_zero] at h1
  obtain ⟨y1, e1, _, u1⟩ := DataW.trod_int Try.underlying22 h1
  simp only [List.cons.injEq, and_true] at e1
  subst e0
  subst e1
  exact ⟨_, _, rfl, u0, u1⟩
theorem open_S24 {H : Type} {enc : TypeId × Value → H} {w : World} {base b0 : Nat} {r : Reach} {spare : Nat → Bool} {held : Bool} {v : Value} {d : DataW H} {p : List MemPlace} (hv : Value.okWide Try.prog w r b0 24 v) (h : DataW.Trod enc Try.prog w base spare held 24 v d p) :
    ∃ (x0 : Int) (x1 : Int), v = .agg #[.int .u64 x0, .int .u64 x1] ∧ (Lit.int .u64 x0).wf = true ∧ (Lit.int .u64 x1).wf = true := by
  obtain ⟨cs, rfl, _⟩ := okWide_struct Try.underlying24 hv
  obtain ⟨fuel, hf⟩ := h
  obtain ⟨x0, x1, hcs, u0, u1⟩ := cells_S24 hf
  try simp only [Value.cells] at hcs
  exact ⟨x0, x1, by rw [← hcs], u0, u1⟩
theorem cells_S33 {H : Type} {enc : TypeId × Value → H} {w : World} {base : Nat} {spare : Nat → Bool} {held : Bool} {fuel : Nat} {cs : List Value} {x : DataW H × List MemPlace} (h : DataW.trod enc Try.prog w base spare held fuel 33 cs = some x) :
    ∃ (x0 : Int) (x1 : Int) (x2 : Int), cs = [.int .u64 x0, .int .u64 x1, .int .i64 x2] ∧ (Lit.int .u64 x0).wf = true ∧ (Lit.int .u64 x1).wf = true ∧ (Lit.int .i64 x2).wf = true := by
  obtain ⟨xs, n, _, hx, hl, hlen, hf⟩ := DataW.trod_struct Try.underlying33 h
  have hl' : cs.length = 3 := hl.trans (by kernel_rfl)
  obtain ⟨c0, c1, c2, rfl⟩ : ∃ c0 c1 c2 : Value, cs = [c0, c1, c2] := by
    match cs, hl' with
    | [c0, c1, c2], _ => exact ⟨_, _, _, rfl⟩
  have k0 : Try.prog.cellsOf 24 = 2 := by kernel_rfl
  have h0 : DataW.trod enc Try.prog w base spare held n 24 ((([c0, c1, c2] : List Value).drop 0).take (Try.prog.cellsOf 24)) = xs[0]? := hf 0 _ rfl
  rw [k0, List.getElem?_eq_getElem (by rw [hlen]; decide)] at h0
  simp only [List.drop_succ_cons, List.drop_zero, List.take_succ_cons, List.take_zero] at h0
  obtain ⟨y0, y1, e0, u0, u1⟩ := cells_S24 h0
  simp only [List.cons.injEq, and_true] at e0
  have k1 : Try.prog.cellsOf 3 = 1 := by kernel_rfl
  have h1 : DataW.trod enc Try.prog w base spare held n 3 ((([c0, c1, c2] : List Value).drop 2).take (Try.prog.cellsOf 3)) = xs[1]? := hf 1 _ rfl
  rw [k1, List.getElem?_eq_getElem (by rw [hlen]; decide)] at h1
  simp only [List.drop_succ_cons, List.drop_zero, List.take_succ_cons, List.take_zero] at h1
  obtain ⟨y2, e1, _, u2⟩ := DataW.trod_int Try.underlying3 h1
  simp only [List.cons.injEq, and_true] at e1
  obtain ⟨rfl, rfl⟩ := e0
  subst e1
  exact ⟨_, _, _, rfl, u0, u1, u2⟩
theorem open_S33 {H : Type} {enc : TypeId × Value → H} {w : World} {base b0 : Nat} {r : Reach} {spare : Nat → Bool} {held : Bool} {v : Value} {d : DataW H} {p : List MemPlace} (hv : Value.okWide Try.prog w r b0 33 v) (h : DataW.Trod enc Try.prog w base spare held 33 v d p) :
    ∃ (x0 : Int) (x1 : Int) (x2 : Int), v = .agg #[.int .u64 x0, .int .u64 x1, .int .i64 x2] ∧ (Lit.int .u64 x0).wf = true ∧ (Lit.int .u64 x1).wf = true ∧ (Lit.int .i64 x2).wf = true := by
  obtain ⟨cs, rfl, _⟩ := okWide_struct Try.underlying33 hv
  obtain ⟨fuel, hf⟩ := h
  obtain ⟨x0, x1, x2, hcs, u0, u1, u2⟩ := cells_S33 hf
  try simp only [Value.cells] at hcs
  exact ⟨x0, x1, x2, by rw [← hcs], u0, u1, u2⟩
end Go.Proofs.Ytpllddgbfhnghaa
