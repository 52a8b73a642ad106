/- The pure statement of AddrGroup: addresses are a group under addition modulo 2^128. -/
import Derived.Test.YtpllddgbfhnghaaPx12
import Derived.Test.YtpllddgbfhnghaaAwake1
namespace Go.Proofs.Ytpllddgbfhnghaa.Pure
open Go.RowKit Go.Proofs.Ytpllddgbfhnghaa.P Go.Proofs.Ytpllddgbfhnghaa Go.Proofs.YtpllddgbfhnghaaW.PrintWords Go.Proofs.YtpllddgbfhnghaaW.PrintLast Go.Proofs.YtpllddgbfhnghaaW.PrintMore
theorem grp1 (a b : Nat) : (a + b) % 340282366920938463463374607431768211456 = (b + a) % 340282366920938463463374607431768211456 := by omega
theorem grp2 (a b c : Nat) : ((a + b) % 340282366920938463463374607431768211456 + c) % 340282366920938463463374607431768211456 = (a + (b + c) % 340282366920938463463374607431768211456) % 340282366920938463463374607431768211456 := by omega
theorem grp3 (a b : Nat) (ha : a < 340282366920938463463374607431768211456) (hb : b < 340282366920938463463374607431768211456) : ((a + b) % 340282366920938463463374607431768211456 + 340282366920938463463374607431768211456 - b) % 340282366920938463463374607431768211456 = a := by omega
theorem grp4 (a b : Nat) (ha : a < 340282366920938463463374607431768211456) (hb : b < 340282366920938463463374607431768211456) : 340282366920938463463374607431768211456 ≤ a + b ↔ (a + b) % 340282366920938463463374607431768211456 < a := by omega
theorem grp5 (a b : Nat) (ha : a < 340282366920938463463374607431768211456) (hb : b < 340282366920938463463374607431768211456) : decide (340282366920938463463374607431768211456 ≤ a + b) = decide ((a + b) % 340282366920938463463374607431768211456 < a) := decide_eq_decide.2 (grp4 a b ha hb)
theorem AddrGroup : tenancylaw01_AddrGroup.Pure := by
  intro a0 a1 b0 b1 c0 c1 ha0 ha1 hb0 hb1 hc0 hc1
  obtain ⟨a, ha, rfl, rfl⟩ := HL_of a0 a1 ha0 ha1
  obtain ⟨b, hb, rfl, rfl⟩ := HL_of b0 b1 hb0 hb1
  obtain ⟨c, hc, rfl, rfl⟩ := HL_of c0 c1 hc0 hc1
  have m : ∀ x : Nat, x % 340282366920938463463374607431768211456 < 340282366920938463463374607431768211456 := fun x => Nat.mod_lt _ (by decide)
  refine ⟨80, ?_⟩
  unfold tenancylaw01_AddrGroup.f
  rw [awake1_v 80 (by decide), add_v a b ha hb, add_v b a hb ha, add_v b c hb hc]
  simp only [bindS, if_true]
  rw [add_v _ c (m _) hc, add_v a _ ha (m _), sub_v _ b (m _) hb, sub_v a b ha hb]
  simp only [bindS, HL_beq]
  rw [cmp_v 80 _ _ (by decide), cmp_v 80 _ _ (by decide)]
  simp only [bindS, cmpN_dlt]
  rw [grp1 b a, Nat.add_comm b a, grp2 a b c, grp3 a b ha hb, grp5 a b ha hb]
  simp only [decide_true, if_true, beq_self_eq_true]
end Go.Proofs.Ytpllddgbfhnghaa.Pure
