/- The statement Rows.BuddyRowSaid: the law returns true for every input, and each argument reads behind the call as it read before. No condition. -/
import Derived.Test.YtljbogpfgeiipaaRows
import Derived.Test.YtljbogpfgeiipaaZBuddyRow6
import Derived.WalkKit
import Derived.ProofKit
import Derived.OpenShut
import Derived.ShutString
import Derived.ChangeOld
import Derived.Below
import Derived.SizedLaws
import Derived.ChangeSlices
import Derived.Deep.Slices
import Derived.Carry
-- Written by lawrow.py, a program of this session.
namespace Go.Proofs.Ytljbogpfgeiipaa.buddyRow
open Go.ChangeShapes Go.WideShapes Go.ChangeAt Go.RowKit
open Go.ChangeMaps (open_string shut_string)
open Go.Ev
set_option linter.unusedVariables false
theorem own : ownKnob Try.prog.godebug = none := by kernel_rfl
theorem laidOut : laidOutB Try.prog = true := by kernel_rfl
set_option maxRecDepth 100000 in
theorem lifted (os : Os) (started : os.Started) (H : Type) (enc : TypeId × Value → H) :
    ReturnsInHanded {} Try.checked os 6 .any (Rows.buddyRowSpec.pre6 enc Try.prog Try.f6 Rows.buddyRowRow.domain false) (Rows.buddyRowSpec.post enc Try.prog Try.f6 false true false false) := by
  refine returnsInHanded_of_change_sized (C := Try.checked) own started (by kernel_rfl) Try.func6
    (ChangeSpec.witness6 (enc := enc) (C := Try.checked) false ⟨#[], #[.agg #[.int .u64 0, .int .u64 0, .int .i64 0], .slice none 0 0], []⟩ 8 (by kernel_rfl) (by kernel_rfl) (by kernel_rfl) (by kernel_rfl)) ?_
  intro W base args ds gs before hval0 hW hcnd hsz0 _
  have hsz : (DataW.weightsEach Try.prog (Try.f6.params.toList ++ Rows.buddyRowSpec.plain.varTypes Try.prog) (ds ++ gs)).all (· ≤ reachBytes) = true := hsz0
  have hval : ∀ (j : Nat) t v, Try.f6.params[j]? = some t → args[j]? = some v → Value.okWide Try.prog W .any base t v := hval0
  have hW' := hW
  obtain ⟨p, q, hA0, hV, rfl, hfz, hnd⟩ := hW
  have hA : DataW.TrodAll enc Try.prog W 0 (fun _ => true) true Try.f6.params.toList args.toList ds p := hA0
  rw [Try.params6] at hA hval hsz
  obtain ⟨v0, vs0, d0, ds0, p0, q0, hargs, rfl, rfl, h0, r0⟩ := trodAll_cons hA
  obtain ⟨v1, vs1, d1, ds1, p1, q1, rfl, rfl, rfl, h1, r1⟩ := trodAll_cons r0
  obtain ⟨rfl, rfl, rfl⟩ := trodAll_nil r1
  obtain rfl : args = #[v0, v1] := by cases args; simp_all
  obtain ⟨rfl, rfl⟩ := trodVars_none hV
  have lt0 : ∀ x ∈ p0, x.block < W.heap.size := by obtain ⟨m, hm⟩ := h0; exact DataW.trod_lt m _ _ _ hm
  obtain ⟨l0, hw0, sa0⟩ := arg_P (hval 0 26 v0 rfl rfl) h0
  have lt1 : ∀ x ∈ p1, x.block < W.heap.size := by obtain ⟨m, hm⟩ := h1; exact DataW.trod_lt m _ _ _ hm
  obtain ⟨l1, hw1, sa1, len1⟩ := slice_arg Try.underlying40 (hval 1 40 v1 rfl rfl) h1 (n := 3) (by kernel_rfl) (by decide) (en := cAct) cAct_len (Q := ActQ) (fun _ _ _ h => trod_Act h) hsz (j := 1) rfl rfl (of_decide_eq_true (by kernel_rfl))
  obtain ⟨s1, m1, a1, st1, xt1, le1, vr1, rd1⟩ := (start_nil W).slice sa1 cAct_len
  have hr : Run T 6 [aP l0, a1] s1 fun r _ => r = .bool true := row11_r s1 a1 l0 l1 hw0 (by omega) hw1 rd1
  refine (run_calls sound st1 (xs := [aP l0, a1]) (vs := #[v0, v1]) ⟨_, _, rfl, (sa0 m1), ⟨_, _, rfl, vr1, rfl⟩⟩ hr).mono fun e W' ⟨he, bel⟩ => ?_
  subst he
  exact ⟨_, rfl, _, _, _, [], _, [], hW', trodAll_mk1 (shut_bool Try.underlying4 _), (trodAll_cons_mk (Below.trod laidOut (by kernel_rfl) (of_decide_eq_true (by kernel_rfl)) h0 bel lt0) (trodAll_cons_mk (Below.trod laidOut (by kernel_rfl) (of_decide_eq_true (by kernel_rfl)) h1 bel lt1) trodAll_mk0)), rfl, bel.frame _, fun h => by cases h⟩
theorem over : Rows.buddyRowRow.holds Try.pinned (OpenSpec.ofChange Rows.buddyRowSpec) :=
  OpenClaim.holds_of_wide 6 Try.f6 rfl rfl rfl rfl rfl rfl rfl ⟨rfl, rfl, rfl, rfl, rfl⟩ rfl rfl rfl rfl rfl (by kernel_rfl) Try.func6 (by kernel_rfl)
    (of_decide_eq_true (by kernel_rfl)) (by unfold Func.isWrapper; first | (rw [if_pos (by decide +kernel)]; kernel_rfl) | (rw [if_neg (by decide +kernel)]; exact ⟨rfl, rfl⟩))
    (fun os started H enc _ => lifted os started H enc)
theorem proved : Rows.BuddyRowSaid := over
end Go.Proofs.Ytljbogpfgeiipaa.buddyRow
namespace Go.Proofs.Ytljbogpfgeiipaa
/-- The row, under a short name, for the claim. -/
theorem buddyRow_holds : Rows.BuddyRowSaid := buddyRow.proved
#print axioms buddyRow_holds
end Go.Proofs.Ytljbogpfgeiipaa
