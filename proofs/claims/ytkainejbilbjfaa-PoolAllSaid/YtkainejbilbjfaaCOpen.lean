import Derived.Test.YtkainejbilbjfaaEvX
import Derived.Test.YtkainejbilbjfaaFs
/-! The arguments' types: addresses and ranges. -/
namespace Go.Ev
open Go.ChangeShapes Go.WideShapes Go.ChangeAt Go.RowKit Go.Proofs
set_option maxRecDepth 100000
set_option linter.unusedVariables false
set_option linter.unusedSimpArgs false

theorem HL_of (x y : Int) (hx : (Lit.int .u64 x).wf = true) (hy : (Lit.int .u64 y).wf = true) : ∃ n : Nat, n < 340282366920938463463374607431768211456 ∧ x = H n ∧ y = L n := by
  have h1 : 0 ≤ x ∧ x ≤ 18446744073709551615 := by simpa [Lit.wf, IntKind.min, IntKind.max, IntKind.signed, IntKind.bits] using hx
  have h2 : 0 ≤ y ∧ y ≤ 18446744073709551615 := by simpa [Lit.wf, IntKind.min, IntKind.max, IntKind.signed, IntKind.bits] using hy
  exact ⟨x.toNat * 18446744073709551616 + y.toNat, by omega, by unfold H; omega, by unfold L; omega⟩

section
variable {Hh : Type} {enc : TypeId × Value → Hh} {w : World} {base : Nat} {spare : Nat → Bool} {held : Bool} {fuel : Nat} {cs : List Value} {x : DataW Hh × List MemPlace}
theorem trod_A (h : DataW.trod enc Try.prog w base spare held fuel 31 cs = some x) : ∃ q : Nat, q < 340282366920938463463374607431768211456 ∧ ∀ m, VRs m (cA q) cs := by
  obtain ⟨xs, n, _, hx, hl, hlen, hf⟩ := DataW.trod_struct Try.underlying31 h
  have hl' : cs.length = 2 := hl.trans (by kernel_rfl)
  obtain ⟨c0, c1, rfl⟩ : ∃ c0 c1 : Value, cs = [c0, c1] := by
    match cs, hl' with
    | [c0, c1], _ => exact ⟨_, _, rfl⟩
  have k0 : Try.prog.cellsOf 24 = 1 := by kernel_rfl
  have h0 : DataW.trod enc Try.prog w base spare held n 24 ((([c0, c1] : List Value).drop 0).take (Try.prog.cellsOf 24)) = xs[0]? := hf 0 _ rfl
  rw [k0, List.getElem?_eq_getElem (by rw [hlen]; decide)] at h0
  simp only [List.drop_succ_cons, List.drop_zero, List.take_succ_cons, List.take_zero] at h0
  obtain ⟨y0, e0, _, u0⟩ := DataW.trod_int Try.underlying24 h0
  simp only [List.cons.injEq, and_true] at e0
  have h1 : DataW.trod enc Try.prog w base spare held n 24 ((([c0, c1] : List Value).drop 1).take (Try.prog.cellsOf 24)) = xs[1]? := hf 1 _ rfl
  rw [k0, List.getElem?_eq_getElem (by rw [hlen]; decide)] at h1
  simp only [List.drop_succ_cons, List.drop_zero, List.take_succ_cons, List.take_zero] at h1
  obtain ⟨y1, e1, _, u1⟩ := DataW.trod_int Try.underlying24 h1
  simp only [List.cons.injEq, and_true] at e1
  subst e0
  subst e1
  obtain ⟨q, hq, rfl, rfl⟩ := HL_of y0 y1 u0 u1
  exact ⟨q, hq, fun m => ⟨_, _, rfl, rfl, _, _, rfl, rfl, rfl⟩⟩
theorem VRs.app {m : Inj} : ∀ {p q : List AV} {us vs : List Value}, VRs m p us → VRs m q vs → VRs m (p ++ q) (us ++ vs)
  | [], _, us, vs, h, k => by have : us = [] := h; subst this; exact k
  | a :: p, q, us, vs, ⟨v, us', e, h1, h2⟩, k => by subst e; exact ⟨v, _, rfl, h1, VRs.app h2 k⟩
theorem trod_R (h : DataW.trod enc Try.prog w base spare held fuel 40 cs = some x) : ∃ q : Nat × Nat, (q.1 < 340282366920938463463374607431768211456 ∧ q.2 < 340282366920938463463374607431768211456) ∧ ∀ m, VRs m (cR q) cs := by
  obtain ⟨xs, n, _, hx, hl, hlen, hf⟩ := DataW.trod_struct Try.underlying40 h
  have hl' : cs.length = 4 := hl.trans (by kernel_rfl)
  obtain ⟨c0, c1, c2, c3, rfl⟩ : ∃ c0 c1 c2 c3 : Value, cs = [c0, c1, c2, c3] := by
    match cs, hl' with
    | [c0, c1, c2, c3], _ => exact ⟨_, _, _, _, rfl⟩
  have k0 : Try.prog.cellsOf 31 = 2 := by kernel_rfl
  have h0 : DataW.trod enc Try.prog w base spare held n 31 ((([c0, c1, c2, c3] : List Value).drop 0).take (Try.prog.cellsOf 31)) = xs[0]? := hf 0 _ rfl
  rw [k0, List.getElem?_eq_getElem (by rw [hlen]; decide)] at h0
  have h1 : DataW.trod enc Try.prog w base spare held n 31 ((([c0, c1, c2, c3] : List Value).drop 2).take (Try.prog.cellsOf 31)) = xs[1]? := hf 1 _ rfl
  rw [k0, List.getElem?_eq_getElem (by rw [hlen]; decide)] at h1
  obtain ⟨q0, b0, r0⟩ := trod_A h0
  obtain ⟨q1, b1, r1⟩ := trod_A h1
  exact ⟨(q0, q1), ⟨b0, b1⟩, fun m => VRs.app (r0 m) (r1 m)⟩

/-- An address, a range by value. -/
theorem arg_A {v : Value} {d : DataW Hh} {p : List MemPlace} {b0 : Nat} {r : Reach} (hv : Value.okWide Try.prog w r b0 31 v) (h : DataW.Trod enc Try.prog w base spare held 31 v d p) : ∃ q : Nat, q < 340282366920938463463374607431768211456 ∧ ∀ m, VR m (aA q) v := by
  obtain ⟨cs, rfl, _⟩ := okWide_struct Try.underlying31 hv
  obtain ⟨fuel, hf⟩ := h
  obtain ⟨q, hq, hr⟩ := trod_A hf
  exact ⟨q, hq, fun m => ⟨cs, rfl, hr m⟩⟩
theorem arg_R {v : Value} {d : DataW Hh} {p : List MemPlace} {b0 : Nat} {r : Reach} (hv : Value.okWide Try.prog w r b0 40 v) (h : DataW.Trod enc Try.prog w base spare held 40 v d p) : ∃ q : Nat × Nat, (q.1 < 340282366920938463463374607431768211456 ∧ q.2 < 340282366920938463463374607431768211456) ∧ ∀ m, VR m (aR q) v := by
  obtain ⟨cs, rfl, _⟩ := okWide_struct Try.underlying40 hv
  obtain ⟨fuel, hf⟩ := h
  obtain ⟨q, hq, hr⟩ := trod_R hf
  exact ⟨q, hq, fun m => ⟨cs, rfl, hr m⟩⟩
end
end Go.Ev
