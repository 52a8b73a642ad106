/- The statement Rows.PoolAllSaid: the law returns true for every input, and each argument reads behind the call as it read before. No condition. -/
-- Written by lawrow.py, a program of this session.
import Derived.Test.YtkainejbilbjfaaRows
import Derived.Test.YtkainejbilbjfaaPoolU
import Derived.Test.YtkainejbilbjfaaPoolOpen
import Derived.WalkKit
import Derived.ProofKit
import Derived.OpenShut
import Derived.ShutString
import Derived.ChangeOld
import Derived.Below
import Derived.SizedLaws
import Derived.ChangeSlices
import Derived.Deep.Slices
import Derived.Carry
namespace Go.Proofs.Ytkainejbilbjfaa.poolAll
open Go.ChangeShapes Go.WideShapes Go.ChangeAt Go.RowKit
open Go.ChangeMaps (open_string shut_string)
open Go.Ev
set_option linter.unusedVariables false
theorem own : ownKnob Try.prog.godebug = none := by kernel_rfl
theorem laidOut : laidOutB Try.prog = true := by kernel_rfl
set_option maxRecDepth 100000 in
theorem lifted (os : Os) (started : os.Started) (H : Type) (enc : TypeId × Value → H) :
    ReturnsInHanded {} Try.checked os 6 .any (Rows.poolAllSpec.pre6 enc Try.prog Try.f6 Rows.poolAllRow.domain false) (Rows.poolAllSpec.post enc Try.prog Try.f6 false true false false) := by
  refine returnsInHanded_of_change_sized (C := Try.checked) own started (by kernel_rfl) Try.func6
    (ChangeSpec.witness6 (enc := enc) (C := Try.checked) false ⟨#[], #[.slice none 0 0, .slice none 0 0, .slice none 0 0], []⟩ 8 (by kernel_rfl) (by kernel_rfl) (by kernel_rfl) (by kernel_rfl)) ?_
  intro W base args ds gs before hval0 hW hcnd hsz0 _
  have hsz : (DataW.weightsEach Try.prog (Try.f6.params.toList ++ Rows.poolAllSpec.plain.varTypes Try.prog) (ds ++ gs)).all (· ≤ reachBytes) = true := hsz0
  have hval : ∀ (j : Nat) t v, Try.f6.params[j]? = some t → args[j]? = some v → Value.okWide Try.prog W .any base t v := hval0
  have hW' := hW
  obtain ⟨p, q, hA0, hV, rfl, hfz, hnd⟩ := hW
  have hA : DataW.TrodAll enc Try.prog W 0 (fun _ => true) true Try.f6.params.toList args.toList ds p := hA0
  rw [Try.params6] at hA hval hsz
  obtain ⟨v0, vs0, d0, ds0, p0, q0, hargs, rfl, rfl, h0, r0⟩ := trodAll_cons hA
  obtain ⟨v1, vs1, d1, ds1, p1, q1, rfl, rfl, rfl, h1, r1⟩ := trodAll_cons r0
  obtain ⟨v2, vs2, d2, ds2, p2, q2, rfl, rfl, rfl, h2, r2⟩ := trodAll_cons r1
  obtain ⟨rfl, rfl, rfl⟩ := trodAll_nil r2
  obtain rfl : args = #[v0, v1, v2] := by cases args; simp_all
  obtain ⟨rfl, rfl⟩ := trodVars_none hV
  have lt0 : ∀ x ∈ p0, x.block < W.heap.size := by obtain ⟨m, hm⟩ := h0; exact DataW.trod_lt m _ _ _ hm
  obtain ⟨l0, hw0, sa0, len0⟩ := slice_arg Try.underlying22 (hval 0 22 v0 rfl rfl) h0 (n := 4) (by kernel_rfl) (by decide) (en := cR) cR_len (Q := fun q => q.1 < 340282366920938463463374607431768211456 ∧ q.2 < 340282366920938463463374607431768211456) (fun _ _ _ h => trod_R h) hsz (j := 0) rfl rfl (of_decide_eq_true (by kernel_rfl))
  have lt1 : ∀ x ∈ p1, x.block < W.heap.size := by obtain ⟨m, hm⟩ := h1; exact DataW.trod_lt m _ _ _ hm
  obtain ⟨l1, hw1, sa1, len1⟩ := slice_arg Try.underlying23 (hval 1 23 v1 rfl rfl) h1 (n := 2) (by kernel_rfl) (by decide) (en := cA) cA_len (Q := fun q => q < 340282366920938463463374607431768211456) (fun _ _ _ h => trod_A h) hsz (j := 1) rfl rfl (of_decide_eq_true (by kernel_rfl))
  have lt2 : ∀ x ∈ p2, x.block < W.heap.size := by obtain ⟨m, hm⟩ := h2; exact DataW.trod_lt m _ _ _ hm
  obtain ⟨l2, hw2, sa2, len2⟩ := slice_arg Try.underlying43 (hval 2 43 v2 rfl rfl) h2 (n := 1) (by kernel_rfl) (by decide) (en := cU) cU_len (Q := fun q => q < 18446744073709551616) (fun _ _ _ h => trod_U h) hsz (j := 2) rfl rfl (of_decide_eq_true (by kernel_rfl))
  obtain ⟨s0, m0, a0, st0, xt0, le0, vr0, rd0⟩ := (start_nil W).slice sa0 cR_len
  obtain ⟨s1, m1, a1, st1, xt1, le1, vr1, rd1⟩ := st0.slice sa1 cA_len
  obtain ⟨s2, m2, a2, st2, xt2, le2, vr2, rd2⟩ := st1.slice sa2 cU_len
  replace vr0 := VR.mono le1 _ _ vr0
  replace rd0 := rd0.ext xt1
  replace vr0 := VR.mono le2 _ _ vr0
  replace rd0 := rd0.ext xt2
  replace vr1 := VR.mono le2 _ _ vr1
  replace rd1 := rd1.ext xt2
  have hr : Run T 6 [a0, a1, a2] s2 fun r _ => r = .bool true := all_r s2 a0 a1 a2 l0 l1 l2 (by omega) hw0 rd0 (by omega) hw1 rd1 (by omega) hw2 rd2
  refine (run_calls sound st2 (xs := [a0, a1, a2]) (vs := #[v0, v1, v2]) ⟨_, _, rfl, vr0, ⟨_, _, rfl, vr1, ⟨_, _, rfl, vr2, rfl⟩⟩⟩ hr).mono fun e W' ⟨he, bel⟩ => ?_
  subst he
  exact ⟨_, rfl, _, _, _, [], _, [], hW', trodAll_mk1 (shut_bool Try.underlying4 _), (trodAll_cons_mk (Below.trod laidOut (by kernel_rfl) (of_decide_eq_true (by kernel_rfl)) h0 bel lt0) (trodAll_cons_mk (Below.trod laidOut (by kernel_rfl) (of_decide_eq_true (by kernel_rfl)) h1 bel lt1) (trodAll_cons_mk (Below.trod laidOut (by kernel_rfl) (of_decide_eq_true (by kernel_rfl)) h2 bel lt2) trodAll_mk0))), rfl, bel.frame _, fun h => by cases h⟩
theorem over : Rows.poolAllRow.holds Try.pinned (OpenSpec.ofChange Rows.poolAllSpec) :=
  OpenClaim.holds_of_wide 6 Try.f6 rfl rfl rfl rfl rfl rfl rfl ⟨rfl, rfl, rfl, rfl, rfl⟩ rfl rfl rfl rfl rfl (by kernel_rfl) Try.func6 (by kernel_rfl)
    (of_decide_eq_true (by kernel_rfl)) (by unfold Func.isWrapper; first | (rw [if_pos (by decide +kernel)]; kernel_rfl) | (rw [if_neg (by decide +kernel)]; exact ⟨rfl, rfl⟩))
    (fun os started H enc _ => lifted os started H enc)
theorem proved : Rows.PoolAllSaid := over
end Go.Proofs.Ytkainejbilbjfaa.poolAll
namespace Go.Proofs.Ytkainejbilbjfaa
/-- The row, under a short name, for the claim. -/
theorem poolAll_holds : Rows.PoolAllSaid := poolAll.proved
#print axioms poolAll_holds
end Go.Proofs.Ytkainejbilbjfaa
