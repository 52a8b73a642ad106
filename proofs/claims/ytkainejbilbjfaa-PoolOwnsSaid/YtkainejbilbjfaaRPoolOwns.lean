/- The statement Rows.PoolOwnsSaid: the law returns true for every input, and each argument reads behind the call as it read before. No condition. -/
import Derived.Test.YtkainejbilbjfaaRows
import Derived.Test.YtkainejbilbjfaaZPoolOwns6
import Derived.WalkKit
import Derived.ProofKit
import Derived.OpenShut
import Derived.ShutString
import Derived.ChangeOld
import Derived.Below
import Derived.SizedLaws
import Derived.ChangeSlices
import Derived.Deep.Slices
import Derived.Carry
-- Written by lawrow.py, a program of this session.
namespace Go.Proofs.Ytkainejbilbjfaa.poolOwns
open Go.ChangeShapes Go.WideShapes Go.ChangeAt Go.RowKit
open Go.ChangeMaps (open_string shut_string)
open Go.Ev
set_option linter.unusedVariables false
theorem own : ownKnob Try.prog.godebug = none := by kernel_rfl
theorem laidOut : laidOutB Try.prog = true := by kernel_rfl
set_option maxRecDepth 100000 in
theorem lifted (os : Os) (started : os.Started) (H : Type) (enc : TypeId × Value → H) :
    ReturnsInHanded {} Try.checked os 4 .any (Rows.poolOwnsSpec.pre6 enc Try.prog Try.f4 Rows.poolOwnsRow.domain false) (Rows.poolOwnsSpec.post enc Try.prog Try.f4 false true false false) := by
  refine returnsInHanded_of_change_sized (C := Try.checked) own started (by kernel_rfl) Try.func4
    (ChangeSpec.witness6 (enc := enc) (C := Try.checked) false ⟨#[], #[.slice none 0 0, .int .i64 0], []⟩ 8 (by kernel_rfl) (by kernel_rfl) (by kernel_rfl) (by kernel_rfl)) ?_
  intro W base args ds gs before hval0 hW hcnd hsz0 _
  have hsz : (DataW.weightsEach Try.prog (Try.f4.params.toList ++ Rows.poolOwnsSpec.plain.varTypes Try.prog) (ds ++ gs)).all (· ≤ reachBytes) = true := hsz0
  have hval : ∀ (j : Nat) t v, Try.f4.params[j]? = some t → args[j]? = some v → Value.okWide Try.prog W .any base t v := hval0
  have hW' := hW
  obtain ⟨p, q, hA0, hV, rfl, hfz, hnd⟩ := hW
  have hA : DataW.TrodAll enc Try.prog W 0 (fun _ => true) true Try.f4.params.toList args.toList ds p := hA0
  rw [Try.params4] at hA hval hsz
  obtain ⟨v0, vs0, d0, ds0, p0, q0, hargs, rfl, rfl, h0, r0⟩ := trodAll_cons hA
  obtain ⟨v1, vs1, d1, ds1, p1, q1, rfl, rfl, rfl, h1, r1⟩ := trodAll_cons r0
  obtain ⟨rfl, rfl, rfl⟩ := trodAll_nil r1
  obtain rfl : args = #[v0, v1] := by cases args; simp_all
  obtain ⟨rfl, rfl⟩ := trodVars_none hV
  have lt0 : ∀ x ∈ p0, x.block < W.heap.size := by obtain ⟨m, hm⟩ := h0; exact DataW.trod_lt m _ _ _ hm
  obtain ⟨l0, hw0, sa0, len0⟩ := slice_arg Try.underlying35 (hval 0 35 v0 rfl rfl) h0 (n := 8) (by kernel_rfl) (by decide) (en := cL) cL_len (Q := fun q => q.a < 340282366920938463463374607431768211456 ∧ q.ok = true) (fun _ _ _ h => trod_L h) hsz (j := 0) rfl rfl (of_decide_eq_true (by kernel_rfl))
  have lt1 : ∀ x ∈ p1, x.block < W.heap.size := by obtain ⟨m, hm⟩ := h1; exact DataW.trod_lt m _ _ _ hm
  obtain ⟨l1, hw1, sa1⟩ := arg_I (hval 1 3 v1 rfl rfl) h1
  obtain ⟨s0, m0, a0, st0, xt0, le0, vr0, rd0⟩ := (start_nil W).slice sa0 cL_len
  have hr : Run T 4 [a0, .int .i64 l1] s0 fun r _ => r = .bool true := owns_r s0 a0 l0 l1 (by omega) hw0 rd0 hw1
  refine (run_calls sound st0 (xs := [a0, .int .i64 l1]) (vs := #[v0, v1]) ⟨_, _, rfl, vr0, ⟨_, _, rfl, (sa1 m0), rfl⟩⟩ hr).mono fun e W' ⟨he, bel⟩ => ?_
  subst he
  exact ⟨_, rfl, _, _, _, [], _, [], hW', trodAll_mk1 (shut_bool Try.underlying4 _), (trodAll_cons_mk (Below.trod laidOut (by kernel_rfl) (of_decide_eq_true (by kernel_rfl)) h0 bel lt0) (trodAll_cons_mk (Below.trod laidOut (by kernel_rfl) (of_decide_eq_true (by kernel_rfl)) h1 bel lt1) trodAll_mk0)), rfl, bel.frame _, fun h => by cases h⟩
theorem over : Rows.poolOwnsRow.holds Try.pinned (OpenSpec.ofChange Rows.poolOwnsSpec) :=
  OpenClaim.holds_of_wide 4 Try.f4 rfl rfl rfl rfl rfl rfl rfl ⟨rfl, rfl, rfl, rfl, rfl⟩ rfl rfl rfl rfl rfl (by kernel_rfl) Try.func4 (by kernel_rfl)
    (of_decide_eq_true (by kernel_rfl)) (by unfold Func.isWrapper; first | (rw [if_pos (by decide +kernel)]; kernel_rfl) | (rw [if_neg (by decide +kernel)]; exact ⟨rfl, rfl⟩))
    (fun os started H enc _ => lifted os started H enc)
theorem proved : Rows.PoolOwnsSaid := over
end Go.Proofs.Ytkainejbilbjfaa.poolOwns
namespace Go.Proofs.Ytkainejbilbjfaa
/-- The row, under a short name, for the claim. -/
theorem poolOwns_holds : Rows.PoolOwnsSaid := poolOwns.proved
#print axioms poolOwns_holds
end Go.Proofs.Ytkainejbilbjfaa
