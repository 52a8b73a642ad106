-- Written by pp.py, a program of this session, out of the translation.
import Derived.Test.YtpllddgbfhnghaaPx0
import Derived.Test.YtpllddgbfhnghaaPx2
import Derived.Test.YtpllddgbfhnghaaPx10
import Derived.Test.YtpllddgbfhnghaaPx11
import Derived.Test.YtpllddgbfhnghaaPx15
import Derived.Test.YtpllddgbfhnghaaPx27
import Derived.Test.YtpllddgbfhnghaaPx29
namespace Go.Proofs.Ytpllddgbfhnghaa.P
open Go.RowKit Go.Proofs.YtpllddgbfhnghaaW.PrintWords Go.Proofs.YtpllddgbfhnghaaW.PrintLast Go.Proofs.YtpllddgbfhnghaaW.PrintMore
attribute [local go_sem] max2_int min2_int max_two min_two max_three min_three max_four min_four   -- for this text's walks alone
set_option linter.unusedVariables false
set_option linter.unusedSimpArgs false

attribute [local go_sem high] eqA33
/-! ### tenancylaw01_AddrNested: function 9 -/
mutual
def tenancylaw01_AddrNested.j0 : Nat → Bool → Int → Int → Int → Int → Int → Int → Int → Int → Option (Bool)
 | 0, _, _, _, _, _, _, _, _, _ => none
 | k + 1, x33, x515000, x515001, x515002, x516000, x516001, x516002, x517000, x517001 => if x33 = true then (none) else ((addr_Covers.f k x515000 x515001 x515002 x516000 x516001 x516002).bind fun t525 => (if t525 = true then ((addr_Covers.f k x516000 x516001 x516002 x515000 x515001 x515002).bind fun t526 => (if t526 = true then (tenancylaw01_AddrNested.j1 k ((!(x515000 == x516000) || (!(x515001 == x516001))) || (!(x515002 == x516002))) x515000 x515001 x515002 x516000 x516001 x516002 x517000 x517001) else (tenancylaw01_AddrNested.j1 k false x515000 x515001 x515002 x516000 x516001 x516002 x517000 x517001))) else (tenancylaw01_AddrNested.j1 k false x515000 x515001 x515002 x516000 x516001 x516002 x517000 x517001)))
def tenancylaw01_AddrNested.j1 : Nat → Bool → Int → Int → Int → Int → Int → Int → Int → Int → Option (Bool)
 | 0, _, _, _, _, _, _, _, _, _ => none
 | k + 1, x46, x515000, x515001, x515002, x516000, x516001, x516002, x517000, x517001 => if x46 = true then (none) else ((addr_Covers.f k x515000 x515001 x515002 x516000 x516001 x516002).bind fun t527 => (if t527 = true then ((addr_Has.f k x516000 x516001 x516002 x517000 x517001).bind fun t528 => (if t528 = true then ((addr_Has.f k x515000 x515001 x515002 x517000 x517001).bind fun t529 => (if t529 = true then ((addr_Meets.f k x515000 x515001 x515002 x516000 x516001 x516002).bind fun t530 => (if t530 = true then (tenancylaw01_AddrNested.j2 k false x515000 x515001 x515002 x517000 x517001) else ((addr_Has.f k x515000 x515001 x515002 x517000 x517001).bind fun t531 => (if t531 = true then ((addr_Has.f k x516000 x516001 x516002 x517000 x517001).bind fun t532 => (tenancylaw01_AddrNested.j2 k t532 x515000 x515001 x515002 x517000 x517001)) else (tenancylaw01_AddrNested.j2 k false x515000 x515001 x515002 x517000 x517001))))) else (tenancylaw01_AddrNested.j2 k true x515000 x515001 x515002 x517000 x517001))) else ((addr_Meets.f k x515000 x515001 x515002 x516000 x516001 x516002).bind fun t533 => (if t533 = true then (tenancylaw01_AddrNested.j2 k false x515000 x515001 x515002 x517000 x517001) else ((addr_Has.f k x515000 x515001 x515002 x517000 x517001).bind fun t534 => (if t534 = true then ((addr_Has.f k x516000 x516001 x516002 x517000 x517001).bind fun t535 => (tenancylaw01_AddrNested.j2 k t535 x515000 x515001 x515002 x517000 x517001)) else (tenancylaw01_AddrNested.j2 k false x515000 x515001 x515002 x517000 x517001))))))) else ((addr_Meets.f k x515000 x515001 x515002 x516000 x516001 x516002).bind fun t536 => (if t536 = true then (tenancylaw01_AddrNested.j2 k false x515000 x515001 x515002 x517000 x517001) else ((addr_Has.f k x515000 x515001 x515002 x517000 x517001).bind fun t537 => (if t537 = true then ((addr_Has.f k x516000 x516001 x516002 x517000 x517001).bind fun t538 => (tenancylaw01_AddrNested.j2 k t538 x515000 x515001 x515002 x517000 x517001)) else (tenancylaw01_AddrNested.j2 k false x515000 x515001 x515002 x517000 x517001)))))))
def tenancylaw01_AddrNested.j2 : Nat → Bool → Int → Int → Int → Int → Int → Option (Bool)
 | 0, _, _, _, _, _, _ => none
 | k + 1, x76, x515000, x515001, x515002, x517000, x517001 => if x76 = true then (none) else ((addr_Halves.f k x515000 x515001 x515002).bind fun bt539 => (if bt539.2.2.2.2.2.2 = true then ((addr_Has.f k bt539.1 bt539.2.1 bt539.2.2.1 x517000 x517001).bind fun t549 => (if t549 = true then (tenancylaw01_AddrNested.j3 k (0 + 1) x515000 x515001 x515002 x517000 x517001 bt539.1 bt539.2.1 bt539.2.2.1 bt539.2.2.2.1 bt539.2.2.2.2.1 bt539.2.2.2.2.2.1) else (tenancylaw01_AddrNested.j3 k 0 x515000 x515001 x515002 x517000 x517001 bt539.1 bt539.2.1 bt539.2.2.1 bt539.2.2.2.1 bt539.2.2.2.2.1 bt539.2.2.2.2.2.1))) else ((addr_Sound.f k x515000 x515001 x515002).bind fun t548 => (if t548 = true then (some (x515002 == 128)) else (some true)))))
def tenancylaw01_AddrNested.j3 : Nat → Int → Int → Int → Int → Int → Int → Int → Int → Int → Int → Int → Int → Option (Bool)
 | 0, _, _, _, _, _, _, _, _, _, _, _, _ => none
 | k + 1, x10, x515000, x515001, x515002, x517000, x517001, x547000, x547001, x547002, x548000, x548001, x548002 => (addr_Has.f k x548000 x548001 x548002 x517000 x517001).bind fun t550 => (if t550 = true then (tenancylaw01_AddrNested.j4 k (wrap64 (x10 + 1)) x515000 x515001 x515002 x517000 x517001 x547000 x547001 x547002 x548000 x548001 x548002) else (tenancylaw01_AddrNested.j4 k x10 x515000 x515001 x515002 x517000 x517001 x547000 x547001 x547002 x548000 x548001 x548002))
def tenancylaw01_AddrNested.j4 : Nat → Int → Int → Int → Int → Int → Int → Int → Int → Int → Int → Int → Int → Option (Bool)
 | 0, _, _, _, _, _, _, _, _, _, _, _, _ => none
 | k + 1, x10, x515000, x515001, x515002, x517000, x517001, x547000, x547001, x547002, x548000, x548001, x548002 => (addr_Sound.f k x547000 x547001 x547002).bind fun t551 => (if t551 = true then ((addr_Sound.f k x548000 x548001 x548002).bind fun t552 => (if t552 = true then ((addr_Meets.f k x547000 x547001 x547002 x548000 x548001 x548002).bind fun t553 => (if t553 = true then (none) else ((addr_Covers.f k x515000 x515001 x515002 x547000 x547001 x547002).bind fun t554 => (if t554 = true then ((addr_Covers.f k x515000 x515001 x515002 x548000 x548001 x548002).bind fun t555 => (if t555 = true then ((addr_Has.f k x515000 x515001 x515002 x517000 x517001).bind fun t556 => (if ((x10 == 1) == t556) = true then (some (decide (x10 ≤ 1))) else (none))) else (none))) else (none))))) else (none))) else (none))
end
def tenancylaw01_AddrNested.f (k : Nat) (a0_0 : Int) (a0_1 : Int) (a0_2 : Int) (a1_0 : Int) (a1_1 : Int) (a1_2 : Int) (a2_0 : Int) (a2_1 : Int) : Option (Bool) := (tenancylaw01_awake.f k).bind fun t517 => (if t517 = true then ((addr_Meets.f k a0_0 a0_1 a0_2 a1_0 a1_1 a1_2).bind fun t518 => ((addr_Covers.f k a0_0 a0_1 a0_2 a1_0 a1_1 a1_2).bind fun t519 => (if t519 = true then (if (t518 != true) = true then (tenancylaw01_AddrNested.j0 k true a0_0 a0_1 a0_2 a1_0 a1_1 a1_2 a2_0 a2_1) else ((addr_Meets.f k a0_0 a0_1 a0_2 a1_0 a1_1 a1_2).bind fun t520 => ((addr_Meets.f k a1_0 a1_1 a1_2 a0_0 a0_1 a0_2).bind fun t521 => (tenancylaw01_AddrNested.j0 k (t520 != t521) a0_0 a0_1 a0_2 a1_0 a1_1 a1_2 a2_0 a2_1)))) else ((addr_Covers.f k a1_0 a1_1 a1_2 a0_0 a0_1 a0_2).bind fun t522 => (if (t518 != t522) = true then (tenancylaw01_AddrNested.j0 k true a0_0 a0_1 a0_2 a1_0 a1_1 a1_2 a2_0 a2_1) else ((addr_Meets.f k a0_0 a0_1 a0_2 a1_0 a1_1 a1_2).bind fun t523 => ((addr_Meets.f k a1_0 a1_1 a1_2 a0_0 a0_1 a0_2).bind fun t524 => (tenancylaw01_AddrNested.j0 k (t523 != t524) a0_0 a0_1 a0_2 a1_0 a1_1 a1_2 a2_0 a2_1)))))))) else (none))
theorem tenancylaw01_AddrNested.mono_l : ∀ k, (∀ y0 y1 y2 y3 y4 y5 y6 y7 y8, LeO (tenancylaw01_AddrNested.j0 k y0 y1 y2 y3 y4 y5 y6 y7 y8) (tenancylaw01_AddrNested.j0 (k + 1) y0 y1 y2 y3 y4 y5 y6 y7 y8)) ∧ (∀ y0 y1 y2 y3 y4 y5 y6 y7 y8, LeO (tenancylaw01_AddrNested.j1 k y0 y1 y2 y3 y4 y5 y6 y7 y8) (tenancylaw01_AddrNested.j1 (k + 1) y0 y1 y2 y3 y4 y5 y6 y7 y8)) ∧ (∀ y0 y1 y2 y3 y4 y5, LeO (tenancylaw01_AddrNested.j2 k y0 y1 y2 y3 y4 y5) (tenancylaw01_AddrNested.j2 (k + 1) y0 y1 y2 y3 y4 y5)) ∧ (∀ y0 y1 y2 y3 y4 y5 y6 y7 y8 y9 y10 y11, LeO (tenancylaw01_AddrNested.j3 k y0 y1 y2 y3 y4 y5 y6 y7 y8 y9 y10 y11) (tenancylaw01_AddrNested.j3 (k + 1) y0 y1 y2 y3 y4 y5 y6 y7 y8 y9 y10 y11)) ∧ (∀ y0 y1 y2 y3 y4 y5 y6 y7 y8 y9 y10 y11, LeO (tenancylaw01_AddrNested.j4 k y0 y1 y2 y3 y4 y5 y6 y7 y8 y9 y10 y11) (tenancylaw01_AddrNested.j4 (k + 1) y0 y1 y2 y3 y4 y5 y6 y7 y8 y9 y10 y11))
 | 0 => ⟨fun _ _ _ _ _ _ _ _ _ r h => by simp [tenancylaw01_AddrNested.j0] at h, fun _ _ _ _ _ _ _ _ _ r h => by simp [tenancylaw01_AddrNested.j1] at h, fun _ _ _ _ _ _ r h => by simp [tenancylaw01_AddrNested.j2] at h, fun _ _ _ _ _ _ _ _ _ _ _ _ r h => by simp [tenancylaw01_AddrNested.j3] at h, fun _ _ _ _ _ _ _ _ _ _ _ _ r h => by simp [tenancylaw01_AddrNested.j4] at h⟩
 | k + 1 => by
  obtain ⟨ih0, ih1, ih2, ih3, ih4⟩ := tenancylaw01_AddrNested.mono_l k
  refine ⟨?_, ?_, ?_, ?_, ?_⟩
  ·intro y0 y1 y2 y3 y4 y5 y6 y7 y8
   unfold tenancylaw01_AddrNested.j0
   repeat' first
   | (with_reducible exact ih0 _ _ _ _ _ _ _ _ _)
   | (with_reducible exact ih1 _ _ _ _ _ _ _ _ _)
   | (with_reducible exact ih2 _ _ _ _ _ _)
   | (with_reducible exact ih3 _ _ _ _ _ _ _ _ _ _ _ _)
   | (with_reducible exact ih4 _ _ _ _ _ _ _ _ _ _ _ _)
   | (with_reducible exact addr_Covers.mono _ _ _ _ _ _ _)
   | (with_reducible exact addr_Halves.mono _ _ _ _)
   | (with_reducible exact addr_Has.mono _ _ _ _ _ _)
   | (with_reducible exact addr_Meets.mono _ _ _ _ _ _ _)
   | (with_reducible exact addr_Sound.mono _ _ _ _)
   | (with_reducible exact tenancylaw01_awake.mono _)
   | (with_reducible exact LeO.refl _)
   | (with_reducible exact LeO.none _)
   | (with_reducible refine LeO.ite ?_ ?_)
   | (with_reducible refine LeO.bind ?_ (fun _ => ?_))
   | exact ih0 _ _ _ _ _ _ _ _ _
   | exact ih1 _ _ _ _ _ _ _ _ _
   | exact ih2 _ _ _ _ _ _
   | exact ih3 _ _ _ _ _ _ _ _ _ _ _ _
   | exact ih4 _ _ _ _ _ _ _ _ _ _ _ _
   | exact addr_Covers.mono _ _ _ _ _ _ _
   | exact addr_Halves.mono _ _ _ _
   | exact addr_Has.mono _ _ _ _ _ _
   | exact addr_Meets.mono _ _ _ _ _ _ _
   | exact addr_Sound.mono _ _ _ _
   | exact tenancylaw01_awake.mono _
   | exact LeO.none _
   | refine LeO.ite ?_ ?_
   | refine LeO.bind ?_ (fun _ => ?_)
  ·intro y0 y1 y2 y3 y4 y5 y6 y7 y8
   unfold tenancylaw01_AddrNested.j1
   repeat' first
   | (with_reducible exact ih0 _ _ _ _ _ _ _ _ _)
   | (with_reducible exact ih1 _ _ _ _ _ _ _ _ _)
   | (with_reducible exact ih2 _ _ _ _ _ _)
   | (with_reducible exact ih3 _ _ _ _ _ _ _ _ _ _ _ _)
   | (with_reducible exact ih4 _ _ _ _ _ _ _ _ _ _ _ _)
   | (with_reducible exact addr_Covers.mono _ _ _ _ _ _ _)
   | (with_reducible exact addr_Halves.mono _ _ _ _)
   | (with_reducible exact addr_Has.mono _ _ _ _ _ _)
   | (with_reducible exact addr_Meets.mono _ _ _ _ _ _ _)
   | (with_reducible exact addr_Sound.mono _ _ _ _)
   | (with_reducible exact tenancylaw01_awake.mono _)
   | (with_reducible exact LeO.refl _)
   | (with_reducible exact LeO.none _)
   | (with_reducible refine LeO.ite ?_ ?_)
   | (with_reducible refine LeO.bind ?_ (fun _ => ?_))
   | exact ih0 _ _ _ _ _ _ _ _ _
   | exact ih1 _ _ _ _ _ _ _ _ _
   | exact ih2 _ _ _ _ _ _
   | exact ih3 _ _ _ _ _ _ _ _ _ _ _ _
   | exact ih4 _ _ _ _ _ _ _ _ _ _ _ _
   | exact addr_Covers.mono _ _ _ _ _ _ _
   | exact addr_Halves.mono _ _ _ _
   | exact addr_Has.mono _ _ _ _ _ _
   | exact addr_Meets.mono _ _ _ _ _ _ _
   | exact addr_Sound.mono _ _ _ _
   | exact tenancylaw01_awake.mono _
   | exact LeO.none _
   | refine LeO.ite ?_ ?_
   | refine LeO.bind ?_ (fun _ => ?_)
  ·intro y0 y1 y2 y3 y4 y5
   unfold tenancylaw01_AddrNested.j2
   repeat' first
   | (with_reducible exact ih0 _ _ _ _ _ _ _ _ _)
   | (with_reducible exact ih1 _ _ _ _ _ _ _ _ _)
   | (with_reducible exact ih2 _ _ _ _ _ _)
   | (with_reducible exact ih3 _ _ _ _ _ _ _ _ _ _ _ _)
   | (with_reducible exact ih4 _ _ _ _ _ _ _ _ _ _ _ _)
   | (with_reducible exact addr_Covers.mono _ _ _ _ _ _ _)
   | (with_reducible exact addr_Halves.mono _ _ _ _)
   | (with_reducible exact addr_Has.mono _ _ _ _ _ _)
   | (with_reducible exact addr_Meets.mono _ _ _ _ _ _ _)
   | (with_reducible exact addr_Sound.mono _ _ _ _)
   | (with_reducible exact tenancylaw01_awake.mono _)
   | (with_reducible exact LeO.refl _)
   | (with_reducible exact LeO.none _)
   | (with_reducible refine LeO.ite ?_ ?_)
   | (with_reducible refine LeO.bind ?_ (fun _ => ?_))
   | exact ih0 _ _ _ _ _ _ _ _ _
   | exact ih1 _ _ _ _ _ _ _ _ _
   | exact ih2 _ _ _ _ _ _
   | exact ih3 _ _ _ _ _ _ _ _ _ _ _ _
   | exact ih4 _ _ _ _ _ _ _ _ _ _ _ _
   | exact addr_Covers.mono _ _ _ _ _ _ _
   | exact addr_Halves.mono _ _ _ _
   | exact addr_Has.mono _ _ _ _ _ _
   | exact addr_Meets.mono _ _ _ _ _ _ _
   | exact addr_Sound.mono _ _ _ _
   | exact tenancylaw01_awake.mono _
   | exact LeO.none _
   | refine LeO.ite ?_ ?_
   | refine LeO.bind ?_ (fun _ => ?_)
  ·intro y0 y1 y2 y3 y4 y5 y6 y7 y8 y9 y10 y11
   unfold tenancylaw01_AddrNested.j3
   repeat' first
   | (with_reducible exact ih0 _ _ _ _ _ _ _ _ _)
   | (with_reducible exact ih1 _ _ _ _ _ _ _ _ _)
   | (with_reducible exact ih2 _ _ _ _ _ _)
   | (with_reducible exact ih3 _ _ _ _ _ _ _ _ _ _ _ _)
   | (with_reducible exact ih4 _ _ _ _ _ _ _ _ _ _ _ _)
   | (with_reducible exact addr_Covers.mono _ _ _ _ _ _ _)
   | (with_reducible exact addr_Halves.mono _ _ _ _)
   | (with_reducible exact addr_Has.mono _ _ _ _ _ _)
   | (with_reducible exact addr_Meets.mono _ _ _ _ _ _ _)
   | (with_reducible exact addr_Sound.mono _ _ _ _)
   | (with_reducible exact tenancylaw01_awake.mono _)
   | (with_reducible exact LeO.refl _)
   | (with_reducible exact LeO.none _)
   | (with_reducible refine LeO.ite ?_ ?_)
   | (with_reducible refine LeO.bind ?_ (fun _ => ?_))
   | exact ih0 _ _ _ _ _ _ _ _ _
   | exact ih1 _ _ _ _ _ _ _ _ _
   | exact ih2 _ _ _ _ _ _
   | exact ih3 _ _ _ _ _ _ _ _ _ _ _ _
   | exact ih4 _ _ _ _ _ _ _ _ _ _ _ _
   | exact addr_Covers.mono _ _ _ _ _ _ _
   | exact addr_Halves.mono _ _ _ _
   | exact addr_Has.mono _ _ _ _ _ _
   | exact addr_Meets.mono _ _ _ _ _ _ _
   | exact addr_Sound.mono _ _ _ _
   | exact tenancylaw01_awake.mono _
   | exact LeO.none _
   | refine LeO.ite ?_ ?_
   | refine LeO.bind ?_ (fun _ => ?_)
  ·intro y0 y1 y2 y3 y4 y5 y6 y7 y8 y9 y10 y11
   unfold tenancylaw01_AddrNested.j4
   repeat' first
   | (with_reducible exact ih0 _ _ _ _ _ _ _ _ _)
   | (with_reducible exact ih1 _ _ _ _ _ _ _ _ _)
   | (with_reducible exact ih2 _ _ _ _ _ _)
   | (with_reducible exact ih3 _ _ _ _ _ _ _ _ _ _ _ _)
   | (with_reducible exact ih4 _ _ _ _ _ _ _ _ _ _ _ _)
   | (with_reducible exact addr_Covers.mono _ _ _ _ _ _ _)
   | (with_reducible exact addr_Halves.mono _ _ _ _)
   | (with_reducible exact addr_Has.mono _ _ _ _ _ _)
   | (with_reducible exact addr_Meets.mono _ _ _ _ _ _ _)
   | (with_reducible exact addr_Sound.mono _ _ _ _)
   | (with_reducible exact tenancylaw01_awake.mono _)
   | (with_reducible exact LeO.refl _)
   | (with_reducible exact LeO.none _)
   | (with_reducible refine LeO.ite ?_ ?_)
   | (with_reducible refine LeO.bind ?_ (fun _ => ?_))
   | exact ih0 _ _ _ _ _ _ _ _ _
   | exact ih1 _ _ _ _ _ _ _ _ _
   | exact ih2 _ _ _ _ _ _
   | exact ih3 _ _ _ _ _ _ _ _ _ _ _ _
   | exact ih4 _ _ _ _ _ _ _ _ _ _ _ _
   | exact addr_Covers.mono _ _ _ _ _ _ _
   | exact addr_Halves.mono _ _ _ _
   | exact addr_Has.mono _ _ _ _ _ _
   | exact addr_Meets.mono _ _ _ _ _ _ _
   | exact addr_Sound.mono _ _ _ _
   | exact tenancylaw01_awake.mono _
   | exact LeO.none _
   | refine LeO.ite ?_ ?_
   | refine LeO.bind ?_ (fun _ => ?_)
theorem tenancylaw01_AddrNested.mono : ∀ a0 a1 a2 a3 a4 a5 a6 a7 k, LeO (tenancylaw01_AddrNested.f k a0 a1 a2 a3 a4 a5 a6 a7) (tenancylaw01_AddrNested.f (k + 1) a0 a1 a2 a3 a4 a5 a6 a7) := by
 intro a0 a1 a2 a3 a4 a5 a6 a7 k
 obtain ⟨ih0, ih1, ih2, ih3, ih4⟩ := tenancylaw01_AddrNested.mono_l k
 unfold tenancylaw01_AddrNested.f
 repeat' first
   | (with_reducible exact ih0 _ _ _ _ _ _ _ _ _)
   | (with_reducible exact ih1 _ _ _ _ _ _ _ _ _)
   | (with_reducible exact ih2 _ _ _ _ _ _)
   | (with_reducible exact ih3 _ _ _ _ _ _ _ _ _ _ _ _)
   | (with_reducible exact ih4 _ _ _ _ _ _ _ _ _ _ _ _)
   | (with_reducible exact addr_Covers.mono _ _ _ _ _ _ _)
   | (with_reducible exact addr_Halves.mono _ _ _ _)
   | (with_reducible exact addr_Has.mono _ _ _ _ _ _)
   | (with_reducible exact addr_Meets.mono _ _ _ _ _ _ _)
   | (with_reducible exact addr_Sound.mono _ _ _ _)
   | (with_reducible exact tenancylaw01_awake.mono _)
   | (with_reducible exact LeO.refl _)
   | (with_reducible exact LeO.none _)
   | (with_reducible refine LeO.ite ?_ ?_)
   | (with_reducible refine LeO.bind ?_ (fun _ => ?_))
   | exact ih0 _ _ _ _ _ _ _ _ _
   | exact ih1 _ _ _ _ _ _ _ _ _
   | exact ih2 _ _ _ _ _ _
   | exact ih3 _ _ _ _ _ _ _ _ _ _ _ _
   | exact ih4 _ _ _ _ _ _ _ _ _ _ _ _
   | exact addr_Covers.mono _ _ _ _ _ _ _
   | exact addr_Halves.mono _ _ _ _
   | exact addr_Has.mono _ _ _ _ _ _
   | exact addr_Meets.mono _ _ _ _ _ _ _
   | exact addr_Sound.mono _ _ _ _
   | exact tenancylaw01_awake.mono _
   | exact LeO.none _
   | refine LeO.ite ?_ ?_
   | refine LeO.bind ?_ (fun _ => ?_)
def tenancylaw01_AddrNested.T3 : Bool × List (List Nat × List Nat) := (true, [([], []), ([], []), ([0, 1], [0, 1]), ([], []), ([], []), ([3, 4, 2], [3, 4]), ([5, 5], [5]), ([6], [6]), ([6], [6]), ([7, 8, 6, 6], [6, 7, 8]), ([6, 9], [6, 9]), ([2, 10], [2, 10]), ([11, 9], [11]), ([12], [12]), ([12], [12]), ([13, 14, 12, 12], [12, 13, 14]), ([12], [12]), ([12], [12]), ([16, 17, 15, 12], [12, 16, 17]), ([15, 18, 12], [12, 15, 18]), ([12, 19], [12, 19])])
def tenancylaw01_AddrNested.B3 : List Nat := [0, 0, 3, 0, 0, 31, 63, 127, 127, 511, 1023, 2047, 4095, 8191, 8191, 32767, 8191, 8191, 262143, 524287, 1048575]
theorem tenancylaw01_AddrNested.tab3 : rtab .any (opsOf Try.f9 3) = tenancylaw01_AddrNested.T3 := by kernel_rfl
theorem tenancylaw01_AddrNested.bits3 : waitsOk tenancylaw01_AddrNested.T3.2 tenancylaw01_AddrNested.B3 = true := by kernel_rfl
set_option maxHeartbeats 8000000 in
set_option maxRecDepth 100000 in
theorem tenancylaw01_AddrNested.calls (k : Nat) (a0_0 : Int) (a0_1 : Int) (a0_2 : Int) (a1_0 : Int) (a1_1 : Int) (a1_2 : Int) (a2_0 : Int) (a2_1 : Int) (r : Bool) (w : World) (h : tenancylaw01_AddrNested.f k a0_0 a0_1 a0_2 a1_0 a1_1 a1_2 a2_0 a2_1 = some r) :
  Calls Try.prog 9 #[.agg #[.int .u64 a0_0, .int .u64 a0_1, .int .i64 a0_2], .agg #[.int .u64 a1_0, .int .u64 a1_1, .int .i64 a1_2], .agg #[.int .u64 a2_0, .int .u64 a2_1]] w fun e w' => e = .returned (.bool r) ∧ Below w.heap.size w w' := by
 have hu33 := Try.underlying33
 have hu24 := Try.underlying24
 have HB := Aside0.mk (Below.refl w.heap.size w)
 have H : ((tenancylaw01_awake.f k).bind fun t517 => (if t517 = true then ((addr_Meets.f k a0_0 a0_1 a0_2 a1_0 a1_1 a1_2).bind fun t518 => ((addr_Covers.f k a0_0 a0_1 a0_2 a1_0 a1_1 a1_2).bind fun t519 => (if t519 = true then (if (t518 != true) = true then (tenancylaw01_AddrNested.j0 k true a0_0 a0_1 a0_2 a1_0 a1_1 a1_2 a2_0 a2_1) else ((addr_Meets.f k a0_0 a0_1 a0_2 a1_0 a1_1 a1_2).bind fun t520 => ((addr_Meets.f k a1_0 a1_1 a1_2 a0_0 a0_1 a0_2).bind fun t521 => (tenancylaw01_AddrNested.j0 k (t520 != t521) a0_0 a0_1 a0_2 a1_0 a1_1 a1_2 a2_0 a2_1)))) else ((addr_Covers.f k a1_0 a1_1 a1_2 a0_0 a0_1 a0_2).bind fun t522 => (if (t518 != t522) = true then (tenancylaw01_AddrNested.j0 k true a0_0 a0_1 a0_2 a1_0 a1_1 a1_2 a2_0 a2_1) else ((addr_Meets.f k a0_0 a0_1 a0_2 a1_0 a1_1 a1_2).bind fun t523 => ((addr_Meets.f k a1_0 a1_1 a1_2 a0_0 a0_1 a0_2).bind fun t524 => (tenancylaw01_AddrNested.j0 k (t523 != t524) a0_0 a0_1 a0_2 a1_0 a1_1 a1_2 a2_0 a2_1)))))))) else (none))) = some r := h
 clear h
 replace H := Option.bind_eq_some_iff.mp H
 obtain ⟨t517, A40, H⟩ := H
 replace H : (if t517 = true then ((addr_Meets.f k a0_0 a0_1 a0_2 a1_0 a1_1 a1_2).bind fun t518 => ((addr_Covers.f k a0_0 a0_1 a0_2 a1_0 a1_1 a1_2).bind fun t519 => (if t519 = true then (if (t518 != true) = true then (tenancylaw01_AddrNested.j0 k true a0_0 a0_1 a0_2 a1_0 a1_1 a1_2 a2_0 a2_1) else ((addr_Meets.f k a0_0 a0_1 a0_2 a1_0 a1_1 a1_2).bind fun t520 => ((addr_Meets.f k a1_0 a1_1 a1_2 a0_0 a0_1 a0_2).bind fun t521 => (tenancylaw01_AddrNested.j0 k (t520 != t521) a0_0 a0_1 a0_2 a1_0 a1_1 a1_2 a2_0 a2_1)))) else ((addr_Covers.f k a1_0 a1_1 a1_2 a0_0 a0_1 a0_2).bind fun t522 => (if (t518 != t522) = true then (tenancylaw01_AddrNested.j0 k true a0_0 a0_1 a0_2 a1_0 a1_1 a1_2 a2_0 a2_1) else ((addr_Meets.f k a0_0 a0_1 a0_2 a1_0 a1_1 a1_2).bind fun t523 => ((addr_Meets.f k a1_0 a1_1 a1_2 a0_0 a0_1 a0_2).bind fun t524 => (tenancylaw01_AddrNested.j0 k (t523 != t524) a0_0 a0_1 a0_2 a1_0 a1_1 a1_2 a2_0 a2_1)))))))) else (none)) = some r := H
 have A4 := Aside0.mk A40
 clear A40
 by_cases c5 : t517 = true
 ·subst c5
  have H1 : ((addr_Meets.f k a0_0 a0_1 a0_2 a1_0 a1_1 a1_2).bind fun t518 => ((addr_Covers.f k a0_0 a0_1 a0_2 a1_0 a1_1 a1_2).bind fun t519 => (if t519 = true then (if (t518 != true) = true then (tenancylaw01_AddrNested.j0 k true a0_0 a0_1 a0_2 a1_0 a1_1 a1_2 a2_0 a2_1) else ((addr_Meets.f k a0_0 a0_1 a0_2 a1_0 a1_1 a1_2).bind fun t520 => ((addr_Meets.f k a1_0 a1_1 a1_2 a0_0 a0_1 a0_2).bind fun t521 => (tenancylaw01_AddrNested.j0 k (t520 != t521) a0_0 a0_1 a0_2 a1_0 a1_1 a1_2 a2_0 a2_1)))) else ((addr_Covers.f k a1_0 a1_1 a1_2 a0_0 a0_1 a0_2).bind fun t522 => (if (t518 != t522) = true then (tenancylaw01_AddrNested.j0 k true a0_0 a0_1 a0_2 a1_0 a1_1 a1_2 a2_0 a2_1) else ((addr_Meets.f k a0_0 a0_1 a0_2 a1_0 a1_1 a1_2).bind fun t523 => ((addr_Meets.f k a1_0 a1_1 a1_2 a0_0 a0_1 a0_2).bind fun t524 => (tenancylaw01_AddrNested.j0 k (t523 != t524) a0_0 a0_1 a0_2 a1_0 a1_1 a1_2 a2_0 a2_1)))))))) = some r := by rw [if_pos rfl] at H; exact H
  clear H
  have H := H1
  clear H1
  have HC6 := Aside0.mk H
  clear H
  go_enter Try.func9, Try.ntmps9
  go_upto_region 3 with (first | ((with_reducible refine gate_dst (N := 3) rfl ?_); refine box_event ?hg (N := 3) ?hd (cs := #[.int .u64 a0_0, .int .u64 a0_1, .int .i64 a0_2]) (t := 33) ?hr ?_; (case hd => rfl); (case hg => rfl); (case hr => first | (go_simp; done) | (go_simp; rfl)); intro gb514 hg w7 hbox hb; have n0_ := Aside0.mk (zbP (by repeat (first | (with_reducible first | exact HB.out | apply zbA | apply zbN | apply zb1) | exact HB.out)) hb); have n1_ := Aside0.mk (hbox); have n2_ := Aside0.mk ((by rw [hg]; exact (zbZ (by repeat (first | (with_reducible first | exact HB.out | apply zbA | apply zbN | apply zb1) | exact HB.out))) : w.heap.size ≤ gb514)); have n3_ := n2_; clear HB; have HB := n0_; have BK514 := n1_; have GW514 := n2_; have GE514 := n3_; clear n0_ n1_ n2_ n3_; clear hb hbox hg) | ((with_reducible refine gate_dst (N := 4) rfl ?_); refine box_event ?hg (N := 4) ?hd (cs := #[.int .u64 a1_0, .int .u64 a1_1, .int .i64 a1_2]) (t := 33) ?hr ?_; (case hd => rfl); (case hg => rfl); (case hr => first | (go_simp; done) | (go_simp; rfl)); intro gb515 hg w8 hbox hb; have n0_ := Aside0.mk (zkB (by (with_reducible repeat (first | refine zkN ?_ _ | refine zk1 ?_ | refine zkA ?_ _)); exact BK514.out) hb); have n1_ := Aside0.mk (zbP (by repeat (first | (with_reducible first | exact HB.out | apply zbA | apply zbN | apply zb1 | refine zbS ?_ GE514.out) | exact HB.out)) hb); have n2_ := Aside0.mk (hbox); have n3_ := Aside0.mk ((by rw [hg]; exact (zbZ (by repeat (first | (with_reducible first | exact HB.out | apply zbA | apply zbN | apply zb1 | refine zbS ?_ GE514.out) | exact HB.out))) : w.heap.size ≤ gb515)); have n4_ := n3_; have n5_ := Aside0.mk ((by rw [hg]; exact Nat.ne_of_lt (zkL (by (with_reducible repeat (first | refine zkN ?_ _ | refine zk1 ?_ | refine zkA ?_ _)); exact BK514.out)) : gb514 ≠ gb515)); have n6_ := Aside0.mk (Ne.symm n5_.out); clear BK514; clear HB; have BK514 := n0_; have HB := n1_; have BK515 := n2_; have GW515 := n3_; have GE515 := n4_; have NB514_515 := n5_; have NB515_514 := n6_; clear n0_ n1_ n2_ n3_ n4_ n5_ n6_; clear hb hbox hg) | ((with_reducible refine gate_dst (N := 5) rfl ?_); refine box_event ?hg (N := 5) ?hd (cs := #[.int .u64 a2_0, .int .u64 a2_1]) (t := 24) ?hr ?_; (case hd => rfl); (case hg => rfl); (case hr => first | (go_simp; done) | (go_simp; rfl)); intro gb516 hg w9 hbox hb; have n0_ := Aside0.mk (zkB (by (with_reducible repeat (first | refine zkN ?_ _ | refine zk1 ?_ | refine zkA ?_ _)); exact BK514.out) hb); have n1_ := Aside0.mk (zkB (by (with_reducible repeat (first | refine zkN ?_ _ | refine zk1 ?_ | refine zkA ?_ _)); exact BK515.out) hb); have n2_ := Aside0.mk (zbP (by repeat (first | (with_reducible first | exact HB.out | apply zbA | apply zbN | apply zb1 | refine zbS ?_ GE514.out | refine zbS ?_ GE515.out) | exact HB.out)) hb); have n3_ := Aside0.mk (hbox); have n4_ := Aside0.mk ((by rw [hg]; exact (zbZ (by repeat (first | (with_reducible first | exact HB.out | apply zbA | apply zbN | apply zb1 | refine zbS ?_ GE514.out | refine zbS ?_ GE515.out) | exact HB.out))) : w.heap.size ≤ gb516)); have n5_ := n4_; have n6_ := Aside0.mk ((by rw [hg]; exact Nat.ne_of_lt (zkL (by (with_reducible repeat (first | refine zkN ?_ _ | refine zk1 ?_ | refine zkA ?_ _)); exact BK514.out)) : gb514 ≠ gb516)); have n7_ := Aside0.mk (Ne.symm n6_.out); have n8_ := Aside0.mk ((by rw [hg]; exact Nat.ne_of_lt (zkL (by (with_reducible repeat (first | refine zkN ?_ _ | refine zk1 ?_ | refine zkA ?_ _)); exact BK515.out)) : gb515 ≠ gb516)); have n9_ := Aside0.mk (Ne.symm n8_.out); clear BK514; clear BK515; clear HB; have BK514 := n0_; have BK515 := n1_; have HB := n2_; have BK516 := n3_; have GW516 := n4_; have GE516 := n5_; have NB514_516 := n6_; have NB516_514 := n7_; have NB515_516 := n8_; have NB516_515 := n9_; clear n0_ n1_ n2_ n3_ n4_ n5_ n6_ n7_ n8_ n9_; clear hb hbox hg) | ((with_reducible refine gate_callee (f := 10) rfl ?_); refine goesL_ (some 11) rfl rfl Try.func10 (by kernel_rfl) rfl #[] rfl (by (try simp only [List.map_toArray, List.map_cons, List.map_nil]); first | done | rfl | (simp only [List.length_drop, List.length_take]; rfl)) ?_; (with_reducible refine (tenancylaw01_awake.calls k  true _ A4.out).mono ?_); rintro e w10 ⟨rfl, hb⟩; refine ⟨_, rfl, ?_⟩; have n0_ := Aside0.mk (zkB (by (with_reducible repeat (first | refine zkN ?_ _ | refine zk1 ?_ | refine zkA ?_ _)); exact BK514.out) hb); have n1_ := Aside0.mk (zkB (by (with_reducible repeat (first | refine zkN ?_ _ | refine zk1 ?_ | refine zkA ?_ _)); exact BK515.out) hb); have n2_ := Aside0.mk (zkB (by (with_reducible repeat (first | refine zkN ?_ _ | refine zk1 ?_ | refine zkA ?_ _)); exact BK516.out) hb); have n3_ := Aside0.mk (zbP (by repeat (first | (with_reducible first | exact HB.out | apply zbA | apply zbN | apply zb1 | refine zbS ?_ GE514.out | refine zbS ?_ GE515.out | refine zbS ?_ GE516.out) | exact HB.out)) hb); clear BK514; clear BK515; clear BK516; clear HB; have BK514 := n0_; have BK515 := n1_; have BK516 := n2_; have HB := n3_; clear n0_ n1_ n2_ n3_; (try clear hb); (try clear hb2); (try clear hk); (try clear hi)))
  (try simp only [Act.put, List.setIfInBounds_toArray, List.set_cons_zero, List.set_cons_succ])
  go_cut [33] (fun v33 wc => ∃ (kq : Nat) (x33_5 : Bool), v33 = .bool x33_5 ∧ Aside0 (tenancylaw01_AddrNested.j0 kq x33_5 a0_0 a0_1 a0_2 a1_0 a1_1 a1_2 a2_0 a2_1 = some r) ∧ Aside0 (kq ≤ k) ∧ Aside0 (wc.heap[gb514]? = some (.cells #[.int .u64 a0_0, .int .u64 a0_1, .int .i64 a0_2] 33 (0, 0))) ∧ Aside0 (wc.heap[gb515]? = some (.cells #[.int .u64 a1_0, .int .u64 a1_1, .int .i64 a1_2] 33 (0, 0))) ∧ Aside0 (wc.heap[gb516]? = some (.cells #[.int .u64 a2_0, .int .u64 a2_1] 24 (0, 0))) ∧ Aside0 (Below w.heap.size w wc))
  case first =>
   have H := HC6.out
   clear HC6
   replace H := Option.bind_eq_some_iff.mp H
   obtain ⟨t518, A110, H⟩ := H
   replace H : ((addr_Covers.f k a0_0 a0_1 a0_2 a1_0 a1_1 a1_2).bind fun t519 => (if t519 = true then (if (t518 != true) = true then (tenancylaw01_AddrNested.j0 k true a0_0 a0_1 a0_2 a1_0 a1_1 a1_2 a2_0 a2_1) else ((addr_Meets.f k a0_0 a0_1 a0_2 a1_0 a1_1 a1_2).bind fun t520 => ((addr_Meets.f k a1_0 a1_1 a1_2 a0_0 a0_1 a0_2).bind fun t521 => (tenancylaw01_AddrNested.j0 k (t520 != t521) a0_0 a0_1 a0_2 a1_0 a1_1 a1_2 a2_0 a2_1)))) else ((addr_Covers.f k a1_0 a1_1 a1_2 a0_0 a0_1 a0_2).bind fun t522 => (if (t518 != t522) = true then (tenancylaw01_AddrNested.j0 k true a0_0 a0_1 a0_2 a1_0 a1_1 a1_2 a2_0 a2_1) else ((addr_Meets.f k a0_0 a0_1 a0_2 a1_0 a1_1 a1_2).bind fun t523 => ((addr_Meets.f k a1_0 a1_1 a1_2 a0_0 a0_1 a0_2).bind fun t524 => (tenancylaw01_AddrNested.j0 k (t523 != t524) a0_0 a0_1 a0_2 a1_0 a1_1 a1_2 a2_0 a2_1))))))) = some r := H
   have A11 := Aside0.mk A110
   clear A110
   replace H := Option.bind_eq_some_iff.mp H
   obtain ⟨t519, A120, H⟩ := H
   replace H : (if t519 = true then (if (t518 != true) = true then (tenancylaw01_AddrNested.j0 k true a0_0 a0_1 a0_2 a1_0 a1_1 a1_2 a2_0 a2_1) else ((addr_Meets.f k a0_0 a0_1 a0_2 a1_0 a1_1 a1_2).bind fun t520 => ((addr_Meets.f k a1_0 a1_1 a1_2 a0_0 a0_1 a0_2).bind fun t521 => (tenancylaw01_AddrNested.j0 k (t520 != t521) a0_0 a0_1 a0_2 a1_0 a1_1 a1_2 a2_0 a2_1)))) else ((addr_Covers.f k a1_0 a1_1 a1_2 a0_0 a0_1 a0_2).bind fun t522 => (if (t518 != t522) = true then (tenancylaw01_AddrNested.j0 k true a0_0 a0_1 a0_2 a1_0 a1_1 a1_2 a2_0 a2_1) else ((addr_Meets.f k a0_0 a0_1 a0_2 a1_0 a1_1 a1_2).bind fun t523 => ((addr_Meets.f k a1_0 a1_1 a1_2 a0_0 a0_1 a0_2).bind fun t524 => (tenancylaw01_AddrNested.j0 k (t523 != t524) a0_0 a0_1 a0_2 a1_0 a1_1 a1_2 a2_0 a2_1)))))) = some r := H
   have A12 := Aside0.mk A120
   clear A120
   by_cases c13 : t519 = true
   ·subst c13
    have H1 : (if (t518 != true) = true then (tenancylaw01_AddrNested.j0 k true a0_0 a0_1 a0_2 a1_0 a1_1 a1_2 a2_0 a2_1) else ((addr_Meets.f k a0_0 a0_1 a0_2 a1_0 a1_1 a1_2).bind fun t520 => ((addr_Meets.f k a1_0 a1_1 a1_2 a0_0 a0_1 a0_2).bind fun t521 => (tenancylaw01_AddrNested.j0 k (t520 != t521) a0_0 a0_1 a0_2 a1_0 a1_1 a1_2 a2_0 a2_1)))) = some r := by rw [if_pos rfl] at H; exact H
    clear H
    have H := H1
    clear H1
    by_cases c14 : (t518 != true) = true
    ·rw [if_pos c14] at H
     have c14b0 : (t518 != true) = true := c14
     (try (have c14b1 : decide (t518 = true) = false := by simpa using c14))
     (try (have c14b2 : (t518 == true) = false := by simpa using c14))
     (try (have c14b3 : ¬ (t518 = true) := by simpa using c14))
     clear c14
     (first | rw [c14b0] | (simp only [i64_w, i32_w]; rw [c14b0]) | skip)
     have H' := Aside0.mk H
     clear H
     try go_wp2
     have n0_ := Aside0.mk (zk1 BK514.out)
     have n1_ := Aside0.mk (zk1 BK515.out)
     have n2_ := Aside0.mk (zk1 BK516.out)
     have n3_ := Aside0.mk (zb1 HB.out)
     clear BK514
     clear BK515
     clear BK516
     clear HB
     have BK514 := n0_
     have BK515 := n1_
     have BK516 := n2_
     have HB := n3_
     clear n0_ n1_ n2_ n3_
     refine start_ (n := 21) (S := fun w' => w'.cell? ⟨gb514, 0, none⟩ = some (.int .u64 a0_0) ∧ w'.cell? ⟨gb514, 1, none⟩ = some (.int .u64 a0_1) ∧ w'.cell? ⟨gb514, 2, none⟩ = some (.int .i64 a0_2) ∧ w'.cell? ⟨gb515, 0, none⟩ = some (.int .u64 a1_0) ∧ w'.cell? ⟨gb515, 1, none⟩ = some (.int .u64 a1_1) ∧ w'.cell? ⟨gb515, 2, none⟩ = some (.int .i64 a1_2)) (ds := []) #[false, false, false, false, false, false, false, false, false, false, false, false, false, false, false, false, false, false, false, false, false] (by kernel_rfl) rfl rfl ⟨(zkC BK514.out 0).trans rfl, (zkC BK514.out 1).trans rfl, (zkC BK514.out 2).trans rfl, (zkC BK515.out 0).trans rfl, (zkC BK515.out 1).trans rfl, (zkC BK515.out 2).trans rfl⟩ (fun hHeld => ?_); refine with_tabW tenancylaw01_AddrNested.tab3 tenancylaw01_AddrNested.bits3 (fun HT_ HW_ => ?_)
     generalize w10.drew = w15 at BK514 BK515 BK516 HB hHeld ⊢
     refine take_ (i := 0) (N := some 13) (v := ?_) (a' := ?_) #[true, false, false, false, false, false, false, false, false, false, false, false, false, false, false, false, false, false, false, false, false] rfl rfl (take_ofW HT_.out HW_.out (by kernel_rfl)) (fun _ _ _ h => h) (Or.inl ⟨by rfl, ?_⟩) hHeld ?_ ?_
     rotate_left
     ·rintro w' ⟨s0, s1, s2, s3, s4, s5⟩
      go_simp
      with_reducible rfl
     rotate_left
     ·simp only [Act.put, List.setIfInBounds_toArray, List.set_cons_zero, List.set_cons_succ, i64_w, i32_w]
      rfl
     refine take_ (i := 1) (N := some 14) (v := ?_) (a' := ?_) #[true, true, false, false, false, false, false, false, false, false, false, false, false, false, false, false, false, false, false, false, false] rfl rfl (take_ofW HT_.out HW_.out (by kernel_rfl)) (fun _ _ _ h => h) (Or.inl ⟨by rfl, ?_⟩) hHeld ?_ ?_
     rotate_left
     ·rintro w' ⟨s0, s1, s2, s3, s4, s5⟩
      go_simp
      with_reducible rfl
     rotate_left
     ·simp only [Act.put, List.setIfInBounds_toArray, List.set_cons_zero, List.set_cons_succ, i64_w, i32_w]
      rfl
     refine take_ (i := 3) (N := some 16) (v := ?_) (a' := ?_) #[true, true, false, true, false, false, false, false, false, false, false, false, false, false, false, false, false, false, false, false, false] rfl rfl (take_ofW HT_.out HW_.out (by kernel_rfl)) (fun _ _ _ h => h) (Or.inl ⟨by rfl, ?_⟩) hHeld ?_ ?_
     rotate_left
     ·rintro w' ⟨s0, s1, s2, s3, s4, s5⟩
      go_simp
      with_reducible rfl
     rotate_left
     ·simp only [Act.put, List.setIfInBounds_toArray, List.set_cons_zero, List.set_cons_succ, i64_w, i32_w]
      rfl
     refine take_ (i := 4) (N := some 17) (v := ?_) (a' := ?_) #[true, true, false, true, true, false, false, false, false, false, false, false, false, false, false, false, false, false, false, false, false] rfl rfl (take_ofW HT_.out HW_.out (by kernel_rfl)) (fun _ _ _ h => h) (Or.inl ⟨by rfl, ?_⟩) hHeld ?_ ?_
     rotate_left
     ·rintro w' ⟨s0, s1, s2, s3, s4, s5⟩
      go_simp
      with_reducible rfl
     rotate_left
     ·simp only [Act.put, List.setIfInBounds_toArray, List.set_cons_zero, List.set_cons_succ, i64_w, i32_w]
      rfl
     refine one_ (i := 2) (N := some 15) #[true, true, true, true, true, false, false, false, false, false, false, false, false, false, false, false, false, false, false, false, false] rfl rfl (one_of HT_.out (by kernel_rfl)) (by decide) (fun K hK => ?_)
     refine goes_ Try.func39 (by kernel_rfl) rfl #[.agg #[.int .u64 a0_0, .int .u64 a0_1, .int .i64 a0_2], .agg #[.int .u64 a1_0, .int .u64 a1_1, .int .i64 a1_2]] (by rfl) rfl rfl (by (try simp only [List.map_toArray, List.map_cons, List.map_nil]); first | done | rfl | (simp only [List.length_drop, List.length_take]; rfl)) ?_
     with_reducible refine (addr_Meets.calls k a0_0 a0_1 a0_2 a1_0 a1_1 a1_2 t518 _ A11.out).mono ?_
     rintro e w16 ⟨rfl, hb⟩
     refine ⟨_, rfl, ?_⟩
     have n0_ := Aside0.mk (zkB (by (with_reducible repeat (first | refine zkN ?_ _ | refine zk1 ?_ | refine zkA ?_ _)); exact BK514.out) hb)
     have n1_ := Aside0.mk (zkB (by (with_reducible repeat (first | refine zkN ?_ _ | refine zk1 ?_ | refine zkA ?_ _)); exact BK515.out) hb)
     have n2_ := Aside0.mk (zkB (by (with_reducible repeat (first | refine zkN ?_ _ | refine zk1 ?_ | refine zkA ?_ _)); exact BK516.out) hb)
     have n3_ := Aside0.mk (zbP (by repeat (first | (with_reducible first | exact HB.out | apply zbA | apply zbN | apply zb1 | refine zbS ?_ GE514.out | refine zbS ?_ GE515.out | refine zbS ?_ GE516.out) | exact HB.out)) hb)
     clear BK514
     clear BK515
     clear BK516
     clear HB
     have BK514 := n0_
     have BK515 := n1_
     have BK516 := n2_
     have HB := n3_
     clear n0_ n1_ n2_ n3_
     (try clear hb)
     (try clear hb2)
     (try clear hk)
     (try clear hi)
     refine hK.out _ _ ⟨(zkC BK514.out 0).trans rfl, (zkC BK514.out 1).trans rfl, (zkC BK514.out 2).trans rfl, (zkC BK515.out 0).trans rfl, (zkC BK515.out 1).trans rfl, (zkC BK515.out 2).trans rfl⟩ (fun hHeld => ?_)
     clear hK K
     refine norm_ (a' := ?_) ?_ ?_
     rotate_left
     ·show Act.put _ (some 15) _ = _
      simp only [Act.put, List.setIfInBounds_toArray, List.set_cons_zero, List.set_cons_succ, i64_w, i32_w]
      rfl
     refine one_ (i := 5) (N := some 18) #[true, true, true, true, true, true, false, false, false, false, false, false, false, false, false, false, false, false, false, false, false] rfl rfl (one_of HT_.out (by kernel_rfl)) (by decide) (fun K hK => ?_)
     refine goes_ Try.func21 (by kernel_rfl) rfl #[.agg #[.int .u64 a0_0, .int .u64 a0_1, .int .i64 a0_2], .agg #[.int .u64 a1_0, .int .u64 a1_1, .int .i64 a1_2]] (by rfl) rfl rfl (by (try simp only [List.map_toArray, List.map_cons, List.map_nil]); first | done | rfl | (simp only [List.length_drop, List.length_take]; rfl)) ?_
     with_reducible refine (addr_Covers.calls k a0_0 a0_1 a0_2 a1_0 a1_1 a1_2 true _ A12.out).mono ?_
     rintro e w17 ⟨rfl, hb⟩
     refine ⟨_, rfl, ?_⟩
     have n0_ := Aside0.mk (zkB (by (with_reducible repeat (first | refine zkN ?_ _ | refine zk1 ?_ | refine zkA ?_ _)); exact BK514.out) hb)
     have n1_ := Aside0.mk (zkB (by (with_reducible repeat (first | refine zkN ?_ _ | refine zk1 ?_ | refine zkA ?_ _)); exact BK515.out) hb)
     have n2_ := Aside0.mk (zkB (by (with_reducible repeat (first | refine zkN ?_ _ | refine zk1 ?_ | refine zkA ?_ _)); exact BK516.out) hb)
     have n3_ := Aside0.mk (zbP (by repeat (first | (with_reducible first | exact HB.out | apply zbA | apply zbN | apply zb1 | refine zbS ?_ GE514.out | refine zbS ?_ GE515.out | refine zbS ?_ GE516.out) | exact HB.out)) hb)
     clear BK514
     clear BK515
     clear BK516
     clear HB
     have BK514 := n0_
     have BK515 := n1_
     have BK516 := n2_
     have HB := n3_
     clear n0_ n1_ n2_ n3_
     (try clear hb)
     (try clear hb2)
     (try clear hk)
     (try clear hi)
     refine hK.out _ _ ⟨(zkC BK514.out 0).trans rfl, (zkC BK514.out 1).trans rfl, (zkC BK514.out 2).trans rfl, (zkC BK515.out 0).trans rfl, (zkC BK515.out 1).trans rfl, (zkC BK515.out 2).trans rfl⟩ (fun hHeld => ?_)
     clear hK K
     refine norm_ (a' := ?_) ?_ ?_
     rotate_left
     ·show Act.put _ (some 18) _ = _
      simp only [Act.put, List.setIfInBounds_toArray, List.set_cons_zero, List.set_cons_succ, i64_w, i32_w]
      rfl
     refine pure_ (i := 6) (N := some 19) (v := ?_) (a' := ?_) #[true, true, true, true, true, true, true, false, false, false, false, false, false, false, false, false, false, false, false, false, false] rfl rfl (any_of HT_.out (by kernel_rfl)) (fun _ _ _ h => h) (Or.inl ⟨by rfl, ?_⟩) ?_ ?_
     rotate_left
     ·intro w'
      go_simp
      with_reducible rfl
     rotate_left
     ·simp only [Act.put, List.setIfInBounds_toArray, List.set_cons_zero, List.set_cons_succ, i64_w, i32_w]
      rfl
     refine pure_ (i := 7) (N := some 20) (v := undef) (a' := ?_) #[true, true, true, true, true, true, true, true, false, false, false, false, false, false, false, false, false, false, false, false, false] rfl rfl (any_of HT_.out (by kernel_rfl)) (fun _ _ _ h => h) (Or.inr ⟨by rfl, rfl⟩) ?_ ?_
     rotate_left
     ·simp only [Act.put, List.setIfInBounds_toArray, List.set_cons_zero, List.set_cons_succ, i64_w, i32_w]
      rfl
     refine pure_ (i := 8) (N := some 21) (v := undef) (a' := ?_) #[true, true, true, true, true, true, true, true, true, false, false, false, false, false, false, false, false, false, false, false, false] rfl rfl (any_of HT_.out (by kernel_rfl)) (fun _ _ _ h => h) (Or.inr ⟨by rfl, rfl⟩) ?_ ?_
     rotate_left
     ·simp only [Act.put, List.setIfInBounds_toArray, List.set_cons_zero, List.set_cons_succ, i64_w, i32_w]
      rfl
     refine pure_ (i := 9) (N := some 22) (v := undef) (a' := ?_) #[true, true, true, true, true, true, true, true, true, true, false, false, false, false, false, false, false, false, false, false, false] rfl rfl (any_of HT_.out (by kernel_rfl)) (fun _ _ _ h => h) (Or.inr ⟨by rfl, rfl⟩) ?_ ?_
     rotate_left
     ·simp only [Act.put, List.setIfInBounds_toArray, List.set_cons_zero, List.set_cons_succ, i64_w, i32_w]
      rfl
     refine pure_ (i := 10) (N := some 23) (v := ?_) (a' := ?_) #[true, true, true, true, true, true, true, true, true, true, true, false, false, false, false, false, false, false, false, false, false] rfl rfl (any_of HT_.out (by kernel_rfl)) (fun _ _ _ h => h) (Or.inl ⟨by rfl, ?_⟩) ?_ ?_
     rotate_left
     ·intro w'
      go_simp
      with_reducible rfl
     rotate_left
     ·simp only [Act.put, List.setIfInBounds_toArray, List.set_cons_zero, List.set_cons_succ, i64_w, i32_w]
      rfl
     refine pure_ (i := 11) (N := some 24) (v := ?_) (a' := ?_) #[true, true, true, true, true, true, true, true, true, true, true, true, false, false, false, false, false, false, false, false, false] rfl rfl (any_of HT_.out (by kernel_rfl)) (fun _ _ _ h => h) (Or.inl ⟨by rfl, ?_⟩) ?_ ?_
     rotate_left
     ·intro w'
      go_simp
      with_reducible rfl
     rotate_left
     ·simp only [Act.put, List.setIfInBounds_toArray, List.set_cons_zero, List.set_cons_succ, i64_w, i32_w]
      rfl
     refine pure_ (i := 12) (N := some 25) (v := ?_) (a' := ?_) #[true, true, true, true, true, true, true, true, true, true, true, true, true, false, false, false, false, false, false, false, false] rfl rfl (any_of HT_.out (by kernel_rfl)) (fun _ _ _ h => h) (Or.inl ⟨by rfl, ?_⟩) ?_ ?_
     rotate_left
     ·intro w'
      go_simp
      with_reducible rfl
     rotate_left
     ·simp only [Act.put, List.setIfInBounds_toArray, List.set_cons_zero, List.set_cons_succ, i64_w, i32_w]
      rfl
     refine pure_ (i := 13) (N := some 26) (v := undef) (a' := ?_) #[true, true, true, true, true, true, true, true, true, true, true, true, true, true, false, false, false, false, false, false, false] rfl rfl (any_of HT_.out (by kernel_rfl)) (fun _ _ _ h => h) (Or.inr ⟨by rfl, rfl⟩) ?_ ?_
     rotate_left
     ·simp only [Act.put, List.setIfInBounds_toArray, List.set_cons_zero, List.set_cons_succ, i64_w, i32_w]
      rfl
     refine pure_ (i := 14) (N := some 27) (v := undef) (a' := ?_) #[true, true, true, true, true, true, true, true, true, true, true, true, true, true, true, false, false, false, false, false, false] rfl rfl (any_of HT_.out (by kernel_rfl)) (fun _ _ _ h => h) (Or.inr ⟨by rfl, rfl⟩) ?_ ?_
     rotate_left
     ·simp only [Act.put, List.setIfInBounds_toArray, List.set_cons_zero, List.set_cons_succ, i64_w, i32_w]
      rfl
     refine pure_ (i := 15) (N := some 28) (v := undef) (a' := ?_) #[true, true, true, true, true, true, true, true, true, true, true, true, true, true, true, true, false, false, false, false, false] rfl rfl (any_of HT_.out (by kernel_rfl)) (fun _ _ _ h => h) (Or.inr ⟨by rfl, rfl⟩) ?_ ?_
     rotate_left
     ·simp only [Act.put, List.setIfInBounds_toArray, List.set_cons_zero, List.set_cons_succ, i64_w, i32_w]
      rfl
     refine pure_ (i := 16) (N := some 29) (v := undef) (a' := ?_) #[true, true, true, true, true, true, true, true, true, true, true, true, true, true, true, true, true, false, false, false, false] rfl rfl (any_of HT_.out (by kernel_rfl)) (fun _ _ _ h => h) (Or.inr ⟨by rfl, rfl⟩) ?_ ?_
     rotate_left
     ·simp only [Act.put, List.setIfInBounds_toArray, List.set_cons_zero, List.set_cons_succ, i64_w, i32_w]
      rfl
     refine pure_ (i := 17) (N := some 30) (v := undef) (a' := ?_) #[true, true, true, true, true, true, true, true, true, true, true, true, true, true, true, true, true, true, false, false, false] rfl rfl (any_of HT_.out (by kernel_rfl)) (fun _ _ _ h => h) (Or.inr ⟨by rfl, rfl⟩) ?_ ?_
     rotate_left
     ·simp only [Act.put, List.setIfInBounds_toArray, List.set_cons_zero, List.set_cons_succ, i64_w, i32_w]
      rfl
     refine pure_ (i := 18) (N := some 31) (v := undef) (a' := ?_) #[true, true, true, true, true, true, true, true, true, true, true, true, true, true, true, true, true, true, true, false, false] rfl rfl (any_of HT_.out (by kernel_rfl)) (fun _ _ _ h => h) (Or.inr ⟨by rfl, rfl⟩) ?_ ?_
     rotate_left
     ·simp only [Act.put, List.setIfInBounds_toArray, List.set_cons_zero, List.set_cons_succ, i64_w, i32_w]
      rfl
     refine pure_ (i := 19) (N := some 32) (v := undef) (a' := ?_) #[true, true, true, true, true, true, true, true, true, true, true, true, true, true, true, true, true, true, true, true, false] rfl rfl (any_of HT_.out (by kernel_rfl)) (fun _ _ _ h => h) (Or.inr ⟨by rfl, rfl⟩) ?_ ?_
     rotate_left
     ·simp only [Act.put, List.setIfInBounds_toArray, List.set_cons_zero, List.set_cons_succ, i64_w, i32_w]
      rfl
     refine pure_ (i := 20) (N := some 33) (v := ?_) (a' := ?_) #[true, true, true, true, true, true, true, true, true, true, true, true, true, true, true, true, true, true, true, true, true] rfl rfl (any_of HT_.out (by kernel_rfl)) (fun _ _ _ h => h) (Or.inl ⟨by rfl, ?_⟩) ?_ ?_
     rotate_left
     ·intro w'
      go_simp
      with_reducible rfl
     rotate_left
     ·simp only [Act.put, List.setIfInBounds_toArray, List.set_cons_zero, List.set_cons_succ, i64_w, i32_w]
      rfl
     refine done_ (done_of HT_.out (by kernel_rfl)) ?_
     try go_wp2
     go_meet
     case rel => exact ⟨_, (true), (by first | rfl | (simp; done) | (simp [*]; done)), H', ⟨by first | omega | exact Nat.le_refl _⟩, ⟨by (with_reducible repeat (first | refine zkN ?_ _ | refine zk1 ?_ | refine zkA ?_ _)); exact BK514.out⟩, ⟨by (with_reducible repeat (first | refine zkN ?_ _ | refine zk1 ?_ | refine zkA ?_ _)); exact BK515.out⟩, ⟨by (with_reducible repeat (first | refine zkN ?_ _ | refine zk1 ?_ | refine zkA ?_ _)); exact BK516.out⟩, ⟨by repeat (first | (with_reducible first | exact HB.out | apply zbA | apply zbN | apply zb1 | refine zbS ?_ GE514.out | refine zbS ?_ GE515.out | refine zbS ?_ GE516.out) | exact HB.out)⟩⟩
    ·rw [if_neg c14] at H
     have c14b0 : (t518 != true) = false := by simpa using c14
     (try (have c14b1 : decide (t518 = true) = true := by simpa using c14))
     (try (have c14b2 : (t518 == true) = true := by simpa using c14))
     clear c14
     (first | rw [c14b0] | (simp only [i64_w, i32_w]; rw [c14b0]) | skip)
     replace H := Option.bind_eq_some_iff.mp H
     obtain ⟨t520, A180, H⟩ := H
     replace H : ((addr_Meets.f k a1_0 a1_1 a1_2 a0_0 a0_1 a0_2).bind fun t521 => (tenancylaw01_AddrNested.j0 k (t520 != t521) a0_0 a0_1 a0_2 a1_0 a1_1 a1_2 a2_0 a2_1)) = some r := H
     have A18 := Aside0.mk A180
     clear A180
     replace H := Option.bind_eq_some_iff.mp H
     obtain ⟨t521, A190, H⟩ := H
     replace H : (tenancylaw01_AddrNested.j0 k (t520 != t521) a0_0 a0_1 a0_2 a1_0 a1_1 a1_2 a2_0 a2_1) = some r := H
     have A19 := Aside0.mk A190
     clear A190
     have H' := Aside0.mk H
     clear H
     try go_wp2
     have n0_ := Aside0.mk (zk1 BK514.out)
     have n1_ := Aside0.mk (zk1 BK515.out)
     have n2_ := Aside0.mk (zk1 BK516.out)
     have n3_ := Aside0.mk (zb1 HB.out)
     clear BK514
     clear BK515
     clear BK516
     clear HB
     have BK514 := n0_
     have BK515 := n1_
     have BK516 := n2_
     have HB := n3_
     clear n0_ n1_ n2_ n3_
     refine start_ (n := 21) (S := fun w' => w'.cell? ⟨gb514, 0, none⟩ = some (.int .u64 a0_0) ∧ w'.cell? ⟨gb514, 1, none⟩ = some (.int .u64 a0_1) ∧ w'.cell? ⟨gb514, 2, none⟩ = some (.int .i64 a0_2) ∧ w'.cell? ⟨gb515, 0, none⟩ = some (.int .u64 a1_0) ∧ w'.cell? ⟨gb515, 1, none⟩ = some (.int .u64 a1_1) ∧ w'.cell? ⟨gb515, 2, none⟩ = some (.int .i64 a1_2)) (ds := []) #[false, false, false, false, false, false, false, false, false, false, false, false, false, false, false, false, false, false, false, false, false] (by kernel_rfl) rfl rfl ⟨(zkC BK514.out 0).trans rfl, (zkC BK514.out 1).trans rfl, (zkC BK514.out 2).trans rfl, (zkC BK515.out 0).trans rfl, (zkC BK515.out 1).trans rfl, (zkC BK515.out 2).trans rfl⟩ (fun hHeld => ?_); refine with_tabW tenancylaw01_AddrNested.tab3 tenancylaw01_AddrNested.bits3 (fun HT_ HW_ => ?_)
     generalize w10.drew = w20 at BK514 BK515 BK516 HB hHeld ⊢
     refine take_ (i := 0) (N := some 13) (v := ?_) (a' := ?_) #[true, false, false, false, false, false, false, false, false, false, false, false, false, false, false, false, false, false, false, false, false] rfl rfl (take_ofW HT_.out HW_.out (by kernel_rfl)) (fun _ _ _ h => h) (Or.inl ⟨by rfl, ?_⟩) hHeld ?_ ?_
     rotate_left
     ·rintro w' ⟨s0, s1, s2, s3, s4, s5⟩
      go_simp
      with_reducible rfl
     rotate_left
     ·simp only [Act.put, List.setIfInBounds_toArray, List.set_cons_zero, List.set_cons_succ, i64_w, i32_w]
      rfl
     refine take_ (i := 1) (N := some 14) (v := ?_) (a' := ?_) #[true, true, false, false, false, false, false, false, false, false, false, false, false, false, false, false, false, false, false, false, false] rfl rfl (take_ofW HT_.out HW_.out (by kernel_rfl)) (fun _ _ _ h => h) (Or.inl ⟨by rfl, ?_⟩) hHeld ?_ ?_
     rotate_left
     ·rintro w' ⟨s0, s1, s2, s3, s4, s5⟩
      go_simp
      with_reducible rfl
     rotate_left
     ·simp only [Act.put, List.setIfInBounds_toArray, List.set_cons_zero, List.set_cons_succ, i64_w, i32_w]
      rfl
     refine take_ (i := 3) (N := some 16) (v := ?_) (a' := ?_) #[true, true, false, true, false, false, false, false, false, false, false, false, false, false, false, false, false, false, false, false, false] rfl rfl (take_ofW HT_.out HW_.out (by kernel_rfl)) (fun _ _ _ h => h) (Or.inl ⟨by rfl, ?_⟩) hHeld ?_ ?_
     rotate_left
     ·rintro w' ⟨s0, s1, s2, s3, s4, s5⟩
      go_simp
      with_reducible rfl
     rotate_left
     ·simp only [Act.put, List.setIfInBounds_toArray, List.set_cons_zero, List.set_cons_succ, i64_w, i32_w]
      rfl
     refine take_ (i := 4) (N := some 17) (v := ?_) (a' := ?_) #[true, true, false, true, true, false, false, false, false, false, false, false, false, false, false, false, false, false, false, false, false] rfl rfl (take_ofW HT_.out HW_.out (by kernel_rfl)) (fun _ _ _ h => h) (Or.inl ⟨by rfl, ?_⟩) hHeld ?_ ?_
     rotate_left
     ·rintro w' ⟨s0, s1, s2, s3, s4, s5⟩
      go_simp
      with_reducible rfl
     rotate_left
     ·simp only [Act.put, List.setIfInBounds_toArray, List.set_cons_zero, List.set_cons_succ, i64_w, i32_w]
      rfl
     refine one_ (i := 2) (N := some 15) #[true, true, true, true, true, false, false, false, false, false, false, false, false, false, false, false, false, false, false, false, false] rfl rfl (one_of HT_.out (by kernel_rfl)) (by decide) (fun K hK => ?_)
     refine goes_ Try.func39 (by kernel_rfl) rfl #[.agg #[.int .u64 a0_0, .int .u64 a0_1, .int .i64 a0_2], .agg #[.int .u64 a1_0, .int .u64 a1_1, .int .i64 a1_2]] (by rfl) rfl rfl (by (try simp only [List.map_toArray, List.map_cons, List.map_nil]); first | done | rfl | (simp only [List.length_drop, List.length_take]; rfl)) ?_
     with_reducible refine (addr_Meets.calls k a0_0 a0_1 a0_2 a1_0 a1_1 a1_2 t518 _ A11.out).mono ?_
     rintro e w21 ⟨rfl, hb⟩
     refine ⟨_, rfl, ?_⟩
     have n0_ := Aside0.mk (zkB (by (with_reducible repeat (first | refine zkN ?_ _ | refine zk1 ?_ | refine zkA ?_ _)); exact BK514.out) hb)
     have n1_ := Aside0.mk (zkB (by (with_reducible repeat (first | refine zkN ?_ _ | refine zk1 ?_ | refine zkA ?_ _)); exact BK515.out) hb)
     have n2_ := Aside0.mk (zkB (by (with_reducible repeat (first | refine zkN ?_ _ | refine zk1 ?_ | refine zkA ?_ _)); exact BK516.out) hb)
     have n3_ := Aside0.mk (zbP (by repeat (first | (with_reducible first | exact HB.out | apply zbA | apply zbN | apply zb1 | refine zbS ?_ GE514.out | refine zbS ?_ GE515.out | refine zbS ?_ GE516.out) | exact HB.out)) hb)
     clear BK514
     clear BK515
     clear BK516
     clear HB
     have BK514 := n0_
     have BK515 := n1_
     have BK516 := n2_
     have HB := n3_
     clear n0_ n1_ n2_ n3_
     (try clear hb)
     (try clear hb2)
     (try clear hk)
     (try clear hi)
     refine hK.out _ _ ⟨(zkC BK514.out 0).trans rfl, (zkC BK514.out 1).trans rfl, (zkC BK514.out 2).trans rfl, (zkC BK515.out 0).trans rfl, (zkC BK515.out 1).trans rfl, (zkC BK515.out 2).trans rfl⟩ (fun hHeld => ?_)
     clear hK K
     refine norm_ (a' := ?_) ?_ ?_
     rotate_left
     ·show Act.put _ (some 15) _ = _
      simp only [Act.put, List.setIfInBounds_toArray, List.set_cons_zero, List.set_cons_succ, i64_w, i32_w]
      rfl
     refine one_ (i := 5) (N := some 18) #[true, true, true, true, true, true, false, false, false, false, false, false, false, false, false, false, false, false, false, false, false] rfl rfl (one_of HT_.out (by kernel_rfl)) (by decide) (fun K hK => ?_)
     refine goes_ Try.func21 (by kernel_rfl) rfl #[.agg #[.int .u64 a0_0, .int .u64 a0_1, .int .i64 a0_2], .agg #[.int .u64 a1_0, .int .u64 a1_1, .int .i64 a1_2]] (by rfl) rfl rfl (by (try simp only [List.map_toArray, List.map_cons, List.map_nil]); first | done | rfl | (simp only [List.length_drop, List.length_take]; rfl)) ?_
     with_reducible refine (addr_Covers.calls k a0_0 a0_1 a0_2 a1_0 a1_1 a1_2 true _ A12.out).mono ?_
     rintro e w22 ⟨rfl, hb⟩
     refine ⟨_, rfl, ?_⟩
     have n0_ := Aside0.mk (zkB (by (with_reducible repeat (first | refine zkN ?_ _ | refine zk1 ?_ | refine zkA ?_ _)); exact BK514.out) hb)
     have n1_ := Aside0.mk (zkB (by (with_reducible repeat (first | refine zkN ?_ _ | refine zk1 ?_ | refine zkA ?_ _)); exact BK515.out) hb)
     have n2_ := Aside0.mk (zkB (by (with_reducible repeat (first | refine zkN ?_ _ | refine zk1 ?_ | refine zkA ?_ _)); exact BK516.out) hb)
     have n3_ := Aside0.mk (zbP (by repeat (first | (with_reducible first | exact HB.out | apply zbA | apply zbN | apply zb1 | refine zbS ?_ GE514.out | refine zbS ?_ GE515.out | refine zbS ?_ GE516.out) | exact HB.out)) hb)
     clear BK514
     clear BK515
     clear BK516
     clear HB
     have BK514 := n0_
     have BK515 := n1_
     have BK516 := n2_
     have HB := n3_
     clear n0_ n1_ n2_ n3_
     (try clear hb)
     (try clear hb2)
     (try clear hk)
     (try clear hi)
     refine hK.out _ _ ⟨(zkC BK514.out 0).trans rfl, (zkC BK514.out 1).trans rfl, (zkC BK514.out 2).trans rfl, (zkC BK515.out 0).trans rfl, (zkC BK515.out 1).trans rfl, (zkC BK515.out 2).trans rfl⟩ (fun hHeld => ?_)
     clear hK K
     refine norm_ (a' := ?_) ?_ ?_
     rotate_left
     ·show Act.put _ (some 18) _ = _
      simp only [Act.put, List.setIfInBounds_toArray, List.set_cons_zero, List.set_cons_succ, i64_w, i32_w]
      rfl
     refine pure_ (i := 6) (N := some 19) (v := ?_) (a' := ?_) #[true, true, true, true, true, true, true, false, false, false, false, false, false, false, false, false, false, false, false, false, false] rfl rfl (any_of HT_.out (by kernel_rfl)) (fun _ _ _ h => h) (Or.inl ⟨by rfl, ?_⟩) ?_ ?_
     rotate_left
     ·intro w'
      go_simp
      with_reducible rfl
     rotate_left
     ·simp only [Act.put, List.setIfInBounds_toArray, List.set_cons_zero, List.set_cons_succ, i64_w, i32_w]
      rfl
     refine pure_ (i := 7) (N := some 20) (v := undef) (a' := ?_) #[true, true, true, true, true, true, true, true, false, false, false, false, false, false, false, false, false, false, false, false, false] rfl rfl (any_of HT_.out (by kernel_rfl)) (fun _ _ _ h => h) (Or.inr ⟨by rfl, rfl⟩) ?_ ?_
     rotate_left
     ·simp only [Act.put, List.setIfInBounds_toArray, List.set_cons_zero, List.set_cons_succ, i64_w, i32_w]
      rfl
     refine pure_ (i := 8) (N := some 21) (v := undef) (a' := ?_) #[true, true, true, true, true, true, true, true, true, false, false, false, false, false, false, false, false, false, false, false, false] rfl rfl (any_of HT_.out (by kernel_rfl)) (fun _ _ _ h => h) (Or.inr ⟨by rfl, rfl⟩) ?_ ?_
     rotate_left
     ·simp only [Act.put, List.setIfInBounds_toArray, List.set_cons_zero, List.set_cons_succ, i64_w, i32_w]
      rfl
     refine pure_ (i := 9) (N := some 22) (v := undef) (a' := ?_) #[true, true, true, true, true, true, true, true, true, true, false, false, false, false, false, false, false, false, false, false, false] rfl rfl (any_of HT_.out (by kernel_rfl)) (fun _ _ _ h => h) (Or.inr ⟨by rfl, rfl⟩) ?_ ?_
     rotate_left
     ·simp only [Act.put, List.setIfInBounds_toArray, List.set_cons_zero, List.set_cons_succ, i64_w, i32_w]
      rfl
     refine pure_ (i := 10) (N := some 23) (v := ?_) (a' := ?_) #[true, true, true, true, true, true, true, true, true, true, true, false, false, false, false, false, false, false, false, false, false] rfl rfl (any_of HT_.out (by kernel_rfl)) (fun _ _ _ h => h) (Or.inl ⟨by rfl, ?_⟩) ?_ ?_
     rotate_left
     ·intro w'
      go_simp
      with_reducible rfl
     rotate_left
     ·simp only [Act.put, List.setIfInBounds_toArray, List.set_cons_zero, List.set_cons_succ, i64_w, i32_w]
      rfl
     refine pure_ (i := 11) (N := some 24) (v := ?_) (a' := ?_) #[true, true, true, true, true, true, true, true, true, true, true, true, false, false, false, false, false, false, false, false, false] rfl rfl (any_of HT_.out (by kernel_rfl)) (fun _ _ _ h => h) (Or.inl ⟨by rfl, ?_⟩) ?_ ?_
     rotate_left
     ·intro w'
      go_simp
      with_reducible rfl
     rotate_left
     ·simp only [Act.put, List.setIfInBounds_toArray, List.set_cons_zero, List.set_cons_succ, i64_w, i32_w]
      rfl
     refine pure_ (i := 12) (N := some 25) (v := ?_) (a' := ?_) #[true, true, true, true, true, true, true, true, true, true, true, true, true, false, false, false, false, false, false, false, false] rfl rfl (any_of HT_.out (by kernel_rfl)) (fun _ _ _ h => h) (Or.inl ⟨by rfl, ?_⟩) ?_ ?_
     rotate_left
     ·intro w'
      go_simp
      with_reducible rfl
     rotate_left
     ·simp only [Act.put, List.setIfInBounds_toArray, List.set_cons_zero, List.set_cons_succ, i64_w, i32_w]
      rfl
     refine take_ (i := 13) (N := some 26) (v := ?_) (a' := ?_) #[true, true, true, true, true, true, true, true, true, true, true, true, true, true, false, false, false, false, false, false, false] rfl rfl (take_ofW HT_.out HW_.out (by kernel_rfl)) (fun _ _ _ h => h) (Or.inl ⟨by rfl, ?_⟩) hHeld ?_ ?_
     rotate_left
     ·rintro w' ⟨s0, s1, s2, s3, s4, s5⟩
      go_simp
      with_reducible rfl
     rotate_left
     ·simp only [Act.put, List.setIfInBounds_toArray, List.set_cons_zero, List.set_cons_succ, i64_w, i32_w]
      rfl
     refine take_ (i := 14) (N := some 27) (v := ?_) (a' := ?_) #[true, true, true, true, true, true, true, true, true, true, true, true, true, true, true, false, false, false, false, false, false] rfl rfl (take_ofW HT_.out HW_.out (by kernel_rfl)) (fun _ _ _ h => h) (Or.inl ⟨by rfl, ?_⟩) hHeld ?_ ?_
     rotate_left
     ·rintro w' ⟨s0, s1, s2, s3, s4, s5⟩
      go_simp
      with_reducible rfl
     rotate_left
     ·simp only [Act.put, List.setIfInBounds_toArray, List.set_cons_zero, List.set_cons_succ, i64_w, i32_w]
      rfl
     refine take_ (i := 16) (N := some 29) (v := ?_) (a' := ?_) #[true, true, true, true, true, true, true, true, true, true, true, true, true, true, true, false, true, false, false, false, false] rfl rfl (take_ofW HT_.out HW_.out (by kernel_rfl)) (fun _ _ _ h => h) (Or.inl ⟨by rfl, ?_⟩) hHeld ?_ ?_
     rotate_left
     ·rintro w' ⟨s0, s1, s2, s3, s4, s5⟩
      go_simp
      with_reducible rfl
     rotate_left
     ·simp only [Act.put, List.setIfInBounds_toArray, List.set_cons_zero, List.set_cons_succ, i64_w, i32_w]
      rfl
     refine take_ (i := 17) (N := some 30) (v := ?_) (a' := ?_) #[true, true, true, true, true, true, true, true, true, true, true, true, true, true, true, false, true, true, false, false, false] rfl rfl (take_ofW HT_.out HW_.out (by kernel_rfl)) (fun _ _ _ h => h) (Or.inl ⟨by rfl, ?_⟩) hHeld ?_ ?_
     rotate_left
     ·rintro w' ⟨s0, s1, s2, s3, s4, s5⟩
      go_simp
      with_reducible rfl
     rotate_left
     ·simp only [Act.put, List.setIfInBounds_toArray, List.set_cons_zero, List.set_cons_succ, i64_w, i32_w]
      rfl
     refine one_ (i := 15) (N := some 28) #[true, true, true, true, true, true, true, true, true, true, true, true, true, true, true, true, true, true, false, false, false] rfl rfl (one_of HT_.out (by kernel_rfl)) (by decide) (fun K hK => ?_)
     refine goes_ Try.func39 (by kernel_rfl) rfl #[.agg #[.int .u64 a0_0, .int .u64 a0_1, .int .i64 a0_2], .agg #[.int .u64 a1_0, .int .u64 a1_1, .int .i64 a1_2]] (by rfl) rfl rfl (by (try simp only [List.map_toArray, List.map_cons, List.map_nil]); first | done | rfl | (simp only [List.length_drop, List.length_take]; rfl)) ?_
     with_reducible refine (addr_Meets.calls k a0_0 a0_1 a0_2 a1_0 a1_1 a1_2 t520 _ A18.out).mono ?_
     rintro e w23 ⟨rfl, hb⟩
     refine ⟨_, rfl, ?_⟩
     have n0_ := Aside0.mk (zkB (by (with_reducible repeat (first | refine zkN ?_ _ | refine zk1 ?_ | refine zkA ?_ _)); exact BK514.out) hb)
     have n1_ := Aside0.mk (zkB (by (with_reducible repeat (first | refine zkN ?_ _ | refine zk1 ?_ | refine zkA ?_ _)); exact BK515.out) hb)
     have n2_ := Aside0.mk (zkB (by (with_reducible repeat (first | refine zkN ?_ _ | refine zk1 ?_ | refine zkA ?_ _)); exact BK516.out) hb)
     have n3_ := Aside0.mk (zbP (by repeat (first | (with_reducible first | exact HB.out | apply zbA | apply zbN | apply zb1 | refine zbS ?_ GE514.out | refine zbS ?_ GE515.out | refine zbS ?_ GE516.out) | exact HB.out)) hb)
     clear BK514
     clear BK515
     clear BK516
     clear HB
     have BK514 := n0_
     have BK515 := n1_
     have BK516 := n2_
     have HB := n3_
     clear n0_ n1_ n2_ n3_
     (try clear hb)
     (try clear hb2)
     (try clear hk)
     (try clear hi)
     refine hK.out _ _ ⟨(zkC BK514.out 0).trans rfl, (zkC BK514.out 1).trans rfl, (zkC BK514.out 2).trans rfl, (zkC BK515.out 0).trans rfl, (zkC BK515.out 1).trans rfl, (zkC BK515.out 2).trans rfl⟩ (fun hHeld => ?_)
     clear hK K
     refine norm_ (a' := ?_) ?_ ?_
     rotate_left
     ·show Act.put _ (some 28) _ = _
      simp only [Act.put, List.setIfInBounds_toArray, List.set_cons_zero, List.set_cons_succ, i64_w, i32_w]
      rfl
     refine one_ (i := 18) (N := some 31) #[true, true, true, true, true, true, true, true, true, true, true, true, true, true, true, true, true, true, true, false, false] rfl rfl (one_of HT_.out (by kernel_rfl)) (by decide) (fun K hK => ?_)
     refine goes_ Try.func39 (by kernel_rfl) rfl #[.agg #[.int .u64 a1_0, .int .u64 a1_1, .int .i64 a1_2], .agg #[.int .u64 a0_0, .int .u64 a0_1, .int .i64 a0_2]] (by rfl) rfl rfl (by (try simp only [List.map_toArray, List.map_cons, List.map_nil]); first | done | rfl | (simp only [List.length_drop, List.length_take]; rfl)) ?_
     with_reducible refine (addr_Meets.calls k a1_0 a1_1 a1_2 a0_0 a0_1 a0_2 t521 _ A19.out).mono ?_
     rintro e w24 ⟨rfl, hb⟩
     refine ⟨_, rfl, ?_⟩
     have n0_ := Aside0.mk (zkB (by (with_reducible repeat (first | refine zkN ?_ _ | refine zk1 ?_ | refine zkA ?_ _)); exact BK514.out) hb)
     have n1_ := Aside0.mk (zkB (by (with_reducible repeat (first | refine zkN ?_ _ | refine zk1 ?_ | refine zkA ?_ _)); exact BK515.out) hb)
     have n2_ := Aside0.mk (zkB (by (with_reducible repeat (first | refine zkN ?_ _ | refine zk1 ?_ | refine zkA ?_ _)); exact BK516.out) hb)
     have n3_ := Aside0.mk (zbP (by repeat (first | (with_reducible first | exact HB.out | apply zbA | apply zbN | apply zb1 | refine zbS ?_ GE514.out | refine zbS ?_ GE515.out | refine zbS ?_ GE516.out) | exact HB.out)) hb)
     clear BK514
     clear BK515
     clear BK516
     clear HB
     have BK514 := n0_
     have BK515 := n1_
     have BK516 := n2_
     have HB := n3_
     clear n0_ n1_ n2_ n3_
     (try clear hb)
     (try clear hb2)
     (try clear hk)
     (try clear hi)
     refine hK.out _ _ ⟨(zkC BK514.out 0).trans rfl, (zkC BK514.out 1).trans rfl, (zkC BK514.out 2).trans rfl, (zkC BK515.out 0).trans rfl, (zkC BK515.out 1).trans rfl, (zkC BK515.out 2).trans rfl⟩ (fun hHeld => ?_)
     clear hK K
     refine norm_ (a' := ?_) ?_ ?_
     rotate_left
     ·show Act.put _ (some 31) _ = _
      simp only [Act.put, List.setIfInBounds_toArray, List.set_cons_zero, List.set_cons_succ, i64_w, i32_w]
      rfl
     refine pure_ (i := 19) (N := some 32) (v := ?_) (a' := ?_) #[true, true, true, true, true, true, true, true, true, true, true, true, true, true, true, true, true, true, true, true, false] rfl rfl (any_of HT_.out (by kernel_rfl)) (fun _ _ _ h => h) (Or.inl ⟨by rfl, ?_⟩) ?_ ?_
     rotate_left
     ·intro w'
      go_simp
      with_reducible rfl
     rotate_left
     ·simp only [Act.put, List.setIfInBounds_toArray, List.set_cons_zero, List.set_cons_succ, i64_w, i32_w]
      rfl
     refine pure_ (i := 20) (N := some 33) (v := ?_) (a' := ?_) #[true, true, true, true, true, true, true, true, true, true, true, true, true, true, true, true, true, true, true, true, true] rfl rfl (any_of HT_.out (by kernel_rfl)) (fun _ _ _ h => h) (Or.inl ⟨by rfl, ?_⟩) ?_ ?_
     rotate_left
     ·intro w'
      go_simp
      with_reducible rfl
     rotate_left
     ·simp only [Act.put, List.setIfInBounds_toArray, List.set_cons_zero, List.set_cons_succ, i64_w, i32_w]
      rfl
     refine done_ (done_of HT_.out (by kernel_rfl)) ?_
     try go_wp2
     go_meet
     case rel => exact ⟨_, ((t520 != t521)), (by first | rfl | (simp; done) | (simp [*]; done)), H', ⟨by first | omega | exact Nat.le_refl _⟩, ⟨by (with_reducible repeat (first | refine zkN ?_ _ | refine zk1 ?_ | refine zkA ?_ _)); exact BK514.out⟩, ⟨by (with_reducible repeat (first | refine zkN ?_ _ | refine zk1 ?_ | refine zkA ?_ _)); exact BK515.out⟩, ⟨by (with_reducible repeat (first | refine zkN ?_ _ | refine zk1 ?_ | refine zkA ?_ _)); exact BK516.out⟩, ⟨by repeat (first | (with_reducible first | exact HB.out | apply zbA | apply zbN | apply zb1 | refine zbS ?_ GE514.out | refine zbS ?_ GE515.out | refine zbS ?_ GE516.out) | exact HB.out)⟩⟩
   ·replace c13 := Bool.eq_false_iff.mpr c13
    subst c13
    have H1 : ((addr_Covers.f k a1_0 a1_1 a1_2 a0_0 a0_1 a0_2).bind fun t522 => (if (t518 != t522) = true then (tenancylaw01_AddrNested.j0 k true a0_0 a0_1 a0_2 a1_0 a1_1 a1_2 a2_0 a2_1) else ((addr_Meets.f k a0_0 a0_1 a0_2 a1_0 a1_1 a1_2).bind fun t523 => ((addr_Meets.f k a1_0 a1_1 a1_2 a0_0 a0_1 a0_2).bind fun t524 => (tenancylaw01_AddrNested.j0 k (t523 != t524) a0_0 a0_1 a0_2 a1_0 a1_1 a1_2 a2_0 a2_1))))) = some r := by rw [if_neg (show ¬ (false = true) by decide)] at H; exact H
    clear H
    have H := H1
    clear H1
    replace H := Option.bind_eq_some_iff.mp H
    obtain ⟨t522, A250, H⟩ := H
    replace H : (if (t518 != t522) = true then (tenancylaw01_AddrNested.j0 k true a0_0 a0_1 a0_2 a1_0 a1_1 a1_2 a2_0 a2_1) else ((addr_Meets.f k a0_0 a0_1 a0_2 a1_0 a1_1 a1_2).bind fun t523 => ((addr_Meets.f k a1_0 a1_1 a1_2 a0_0 a0_1 a0_2).bind fun t524 => (tenancylaw01_AddrNested.j0 k (t523 != t524) a0_0 a0_1 a0_2 a1_0 a1_1 a1_2 a2_0 a2_1)))) = some r := H
    have A25 := Aside0.mk A250
    clear A250
    by_cases c26 : (t518 != t522) = true
    ·rw [if_pos c26] at H
     have c26b0 : (t518 != t522) = true := c26
     (try (have c26b1 : decide (t518 = t522) = false := by simpa using c26))
     (try (have c26b2 : (t518 == t522) = false := by simpa using c26))
     (try (have c26b3 : ¬ (t518 = t522) := by simpa using c26))
     clear c26
     have H' := Aside0.mk H
     clear H
     try go_wp2
     have n0_ := Aside0.mk (zk1 BK514.out)
     have n1_ := Aside0.mk (zk1 BK515.out)
     have n2_ := Aside0.mk (zk1 BK516.out)
     have n3_ := Aside0.mk (zb1 HB.out)
     clear BK514
     clear BK515
     clear BK516
     clear HB
     have BK514 := n0_
     have BK515 := n1_
     have BK516 := n2_
     have HB := n3_
     clear n0_ n1_ n2_ n3_
     refine start_ (n := 21) (S := fun w' => w'.cell? ⟨gb514, 0, none⟩ = some (.int .u64 a0_0) ∧ w'.cell? ⟨gb514, 1, none⟩ = some (.int .u64 a0_1) ∧ w'.cell? ⟨gb514, 2, none⟩ = some (.int .i64 a0_2) ∧ w'.cell? ⟨gb515, 0, none⟩ = some (.int .u64 a1_0) ∧ w'.cell? ⟨gb515, 1, none⟩ = some (.int .u64 a1_1) ∧ w'.cell? ⟨gb515, 2, none⟩ = some (.int .i64 a1_2)) (ds := []) #[false, false, false, false, false, false, false, false, false, false, false, false, false, false, false, false, false, false, false, false, false] (by kernel_rfl) rfl rfl ⟨(zkC BK514.out 0).trans rfl, (zkC BK514.out 1).trans rfl, (zkC BK514.out 2).trans rfl, (zkC BK515.out 0).trans rfl, (zkC BK515.out 1).trans rfl, (zkC BK515.out 2).trans rfl⟩ (fun hHeld => ?_); refine with_tabW tenancylaw01_AddrNested.tab3 tenancylaw01_AddrNested.bits3 (fun HT_ HW_ => ?_)
     generalize w10.drew = w27 at BK514 BK515 BK516 HB hHeld ⊢
     refine take_ (i := 0) (N := some 13) (v := ?_) (a' := ?_) #[true, false, false, false, false, false, false, false, false, false, false, false, false, false, false, false, false, false, false, false, false] rfl rfl (take_ofW HT_.out HW_.out (by kernel_rfl)) (fun _ _ _ h => h) (Or.inl ⟨by rfl, ?_⟩) hHeld ?_ ?_
     rotate_left
     ·rintro w' ⟨s0, s1, s2, s3, s4, s5⟩
      go_simp
      with_reducible rfl
     rotate_left
     ·simp only [Act.put, List.setIfInBounds_toArray, List.set_cons_zero, List.set_cons_succ, i64_w, i32_w]
      rfl
     refine take_ (i := 1) (N := some 14) (v := ?_) (a' := ?_) #[true, true, false, false, false, false, false, false, false, false, false, false, false, false, false, false, false, false, false, false, false] rfl rfl (take_ofW HT_.out HW_.out (by kernel_rfl)) (fun _ _ _ h => h) (Or.inl ⟨by rfl, ?_⟩) hHeld ?_ ?_
     rotate_left
     ·rintro w' ⟨s0, s1, s2, s3, s4, s5⟩
      go_simp
      with_reducible rfl
     rotate_left
     ·simp only [Act.put, List.setIfInBounds_toArray, List.set_cons_zero, List.set_cons_succ, i64_w, i32_w]
      rfl
     refine take_ (i := 3) (N := some 16) (v := ?_) (a' := ?_) #[true, true, false, true, false, false, false, false, false, false, false, false, false, false, false, false, false, false, false, false, false] rfl rfl (take_ofW HT_.out HW_.out (by kernel_rfl)) (fun _ _ _ h => h) (Or.inl ⟨by rfl, ?_⟩) hHeld ?_ ?_
     rotate_left
     ·rintro w' ⟨s0, s1, s2, s3, s4, s5⟩
      go_simp
      with_reducible rfl
     rotate_left
     ·simp only [Act.put, List.setIfInBounds_toArray, List.set_cons_zero, List.set_cons_succ, i64_w, i32_w]
      rfl
     refine take_ (i := 4) (N := some 17) (v := ?_) (a' := ?_) #[true, true, false, true, true, false, false, false, false, false, false, false, false, false, false, false, false, false, false, false, false] rfl rfl (take_ofW HT_.out HW_.out (by kernel_rfl)) (fun _ _ _ h => h) (Or.inl ⟨by rfl, ?_⟩) hHeld ?_ ?_
     rotate_left
     ·rintro w' ⟨s0, s1, s2, s3, s4, s5⟩
      go_simp
      with_reducible rfl
     rotate_left
     ·simp only [Act.put, List.setIfInBounds_toArray, List.set_cons_zero, List.set_cons_succ, i64_w, i32_w]
      rfl
     refine one_ (i := 2) (N := some 15) #[true, true, true, true, true, false, false, false, false, false, false, false, false, false, false, false, false, false, false, false, false] rfl rfl (one_of HT_.out (by kernel_rfl)) (by decide) (fun K hK => ?_)
     refine goes_ Try.func39 (by kernel_rfl) rfl #[.agg #[.int .u64 a0_0, .int .u64 a0_1, .int .i64 a0_2], .agg #[.int .u64 a1_0, .int .u64 a1_1, .int .i64 a1_2]] (by rfl) rfl rfl (by (try simp only [List.map_toArray, List.map_cons, List.map_nil]); first | done | rfl | (simp only [List.length_drop, List.length_take]; rfl)) ?_
     with_reducible refine (addr_Meets.calls k a0_0 a0_1 a0_2 a1_0 a1_1 a1_2 t518 _ A11.out).mono ?_
     rintro e w28 ⟨rfl, hb⟩
     refine ⟨_, rfl, ?_⟩
     have n0_ := Aside0.mk (zkB (by (with_reducible repeat (first | refine zkN ?_ _ | refine zk1 ?_ | refine zkA ?_ _)); exact BK514.out) hb)
     have n1_ := Aside0.mk (zkB (by (with_reducible repeat (first | refine zkN ?_ _ | refine zk1 ?_ | refine zkA ?_ _)); exact BK515.out) hb)
     have n2_ := Aside0.mk (zkB (by (with_reducible repeat (first | refine zkN ?_ _ | refine zk1 ?_ | refine zkA ?_ _)); exact BK516.out) hb)
     have n3_ := Aside0.mk (zbP (by repeat (first | (with_reducible first | exact HB.out | apply zbA | apply zbN | apply zb1 | refine zbS ?_ GE514.out | refine zbS ?_ GE515.out | refine zbS ?_ GE516.out) | exact HB.out)) hb)
     clear BK514
     clear BK515
     clear BK516
     clear HB
     have BK514 := n0_
     have BK515 := n1_
     have BK516 := n2_
     have HB := n3_
     clear n0_ n1_ n2_ n3_
     (try clear hb)
     (try clear hb2)
     (try clear hk)
     (try clear hi)
     refine hK.out _ _ ⟨(zkC BK514.out 0).trans rfl, (zkC BK514.out 1).trans rfl, (zkC BK514.out 2).trans rfl, (zkC BK515.out 0).trans rfl, (zkC BK515.out 1).trans rfl, (zkC BK515.out 2).trans rfl⟩ (fun hHeld => ?_)
     clear hK K
     refine norm_ (a' := ?_) ?_ ?_
     rotate_left
     ·show Act.put _ (some 15) _ = _
      simp only [Act.put, List.setIfInBounds_toArray, List.set_cons_zero, List.set_cons_succ, i64_w, i32_w]
      rfl
     refine one_ (i := 5) (N := some 18) #[true, true, true, true, true, true, false, false, false, false, false, false, false, false, false, false, false, false, false, false, false] rfl rfl (one_of HT_.out (by kernel_rfl)) (by decide) (fun K hK => ?_)
     refine goes_ Try.func21 (by kernel_rfl) rfl #[.agg #[.int .u64 a0_0, .int .u64 a0_1, .int .i64 a0_2], .agg #[.int .u64 a1_0, .int .u64 a1_1, .int .i64 a1_2]] (by rfl) rfl rfl (by (try simp only [List.map_toArray, List.map_cons, List.map_nil]); first | done | rfl | (simp only [List.length_drop, List.length_take]; rfl)) ?_
     with_reducible refine (addr_Covers.calls k a0_0 a0_1 a0_2 a1_0 a1_1 a1_2 false _ A12.out).mono ?_
     rintro e w29 ⟨rfl, hb⟩
     refine ⟨_, rfl, ?_⟩
     have n0_ := Aside0.mk (zkB (by (with_reducible repeat (first | refine zkN ?_ _ | refine zk1 ?_ | refine zkA ?_ _)); exact BK514.out) hb)
     have n1_ := Aside0.mk (zkB (by (with_reducible repeat (first | refine zkN ?_ _ | refine zk1 ?_ | refine zkA ?_ _)); exact BK515.out) hb)
     have n2_ := Aside0.mk (zkB (by (with_reducible repeat (first | refine zkN ?_ _ | refine zk1 ?_ | refine zkA ?_ _)); exact BK516.out) hb)
     have n3_ := Aside0.mk (zbP (by repeat (first | (with_reducible first | exact HB.out | apply zbA | apply zbN | apply zb1 | refine zbS ?_ GE514.out | refine zbS ?_ GE515.out | refine zbS ?_ GE516.out) | exact HB.out)) hb)
     clear BK514
     clear BK515
     clear BK516
     clear HB
     have BK514 := n0_
     have BK515 := n1_
     have BK516 := n2_
     have HB := n3_
     clear n0_ n1_ n2_ n3_
     (try clear hb)
     (try clear hb2)
     (try clear hk)
     (try clear hi)
     refine hK.out _ _ ⟨(zkC BK514.out 0).trans rfl, (zkC BK514.out 1).trans rfl, (zkC BK514.out 2).trans rfl, (zkC BK515.out 0).trans rfl, (zkC BK515.out 1).trans rfl, (zkC BK515.out 2).trans rfl⟩ (fun hHeld => ?_)
     clear hK K
     refine norm_ (a' := ?_) ?_ ?_
     rotate_left
     ·show Act.put _ (some 18) _ = _
      simp only [Act.put, List.setIfInBounds_toArray, List.set_cons_zero, List.set_cons_succ, i64_w, i32_w]
      rfl
     refine pure_ (i := 6) (N := some 19) (v := ?_) (a' := ?_) #[true, true, true, true, true, true, true, false, false, false, false, false, false, false, false, false, false, false, false, false, false] rfl rfl (any_of HT_.out (by kernel_rfl)) (fun _ _ _ h => h) (Or.inl ⟨by rfl, ?_⟩) ?_ ?_
     rotate_left
     ·intro w'
      go_simp
      with_reducible rfl
     rotate_left
     ·simp only [Act.put, List.setIfInBounds_toArray, List.set_cons_zero, List.set_cons_succ, i64_w, i32_w]
      rfl
     refine take_ (i := 7) (N := some 20) (v := ?_) (a' := ?_) #[true, true, true, true, true, true, true, true, false, false, false, false, false, false, false, false, false, false, false, false, false] rfl rfl (take_ofW HT_.out HW_.out (by kernel_rfl)) (fun _ _ _ h => h) (Or.inl ⟨by rfl, ?_⟩) hHeld ?_ ?_
     rotate_left
     ·rintro w' ⟨s0, s1, s2, s3, s4, s5⟩
      go_simp
      with_reducible rfl
     rotate_left
     ·simp only [Act.put, List.setIfInBounds_toArray, List.set_cons_zero, List.set_cons_succ, i64_w, i32_w]
      rfl
     refine take_ (i := 8) (N := some 21) (v := ?_) (a' := ?_) #[true, true, true, true, true, true, true, true, true, false, false, false, false, false, false, false, false, false, false, false, false] rfl rfl (take_ofW HT_.out HW_.out (by kernel_rfl)) (fun _ _ _ h => h) (Or.inl ⟨by rfl, ?_⟩) hHeld ?_ ?_
     rotate_left
     ·rintro w' ⟨s0, s1, s2, s3, s4, s5⟩
      go_simp
      with_reducible rfl
     rotate_left
     ·simp only [Act.put, List.setIfInBounds_toArray, List.set_cons_zero, List.set_cons_succ, i64_w, i32_w]
      rfl
     refine one_ (i := 9) (N := some 22) #[true, true, true, true, true, true, true, true, true, true, false, false, false, false, false, false, false, false, false, false, false] rfl rfl (one_of HT_.out (by kernel_rfl)) (by decide) (fun K hK => ?_)
     refine goes_ Try.func21 (by kernel_rfl) rfl #[.agg #[.int .u64 a1_0, .int .u64 a1_1, .int .i64 a1_2], .agg #[.int .u64 a0_0, .int .u64 a0_1, .int .i64 a0_2]] (by rfl) rfl rfl (by (try simp only [List.map_toArray, List.map_cons, List.map_nil]); first | done | rfl | (simp only [List.length_drop, List.length_take]; rfl)) ?_
     with_reducible refine (addr_Covers.calls k a1_0 a1_1 a1_2 a0_0 a0_1 a0_2 t522 _ A25.out).mono ?_
     rintro e w30 ⟨rfl, hb⟩
     refine ⟨_, rfl, ?_⟩
     have n0_ := Aside0.mk (zkB (by (with_reducible repeat (first | refine zkN ?_ _ | refine zk1 ?_ | refine zkA ?_ _)); exact BK514.out) hb)
     have n1_ := Aside0.mk (zkB (by (with_reducible repeat (first | refine zkN ?_ _ | refine zk1 ?_ | refine zkA ?_ _)); exact BK515.out) hb)
     have n2_ := Aside0.mk (zkB (by (with_reducible repeat (first | refine zkN ?_ _ | refine zk1 ?_ | refine zkA ?_ _)); exact BK516.out) hb)
     have n3_ := Aside0.mk (zbP (by repeat (first | (with_reducible first | exact HB.out | apply zbA | apply zbN | apply zb1 | refine zbS ?_ GE514.out | refine zbS ?_ GE515.out | refine zbS ?_ GE516.out) | exact HB.out)) hb)
     clear BK514
     clear BK515
     clear BK516
     clear HB
     have BK514 := n0_
     have BK515 := n1_
     have BK516 := n2_
     have HB := n3_
     clear n0_ n1_ n2_ n3_
     (try clear hb)
     (try clear hb2)
     (try clear hk)
     (try clear hi)
     refine hK.out _ _ ⟨(zkC BK514.out 0).trans rfl, (zkC BK514.out 1).trans rfl, (zkC BK514.out 2).trans rfl, (zkC BK515.out 0).trans rfl, (zkC BK515.out 1).trans rfl, (zkC BK515.out 2).trans rfl⟩ (fun hHeld => ?_)
     clear hK K
     refine norm_ (a' := ?_) ?_ ?_
     rotate_left
     ·show Act.put _ (some 22) _ = _
      simp only [Act.put, List.setIfInBounds_toArray, List.set_cons_zero, List.set_cons_succ, i64_w, i32_w]
      rfl
     refine pure_ (i := 10) (N := some 23) (v := ?_) (a' := ?_) #[true, true, true, true, true, true, true, true, true, true, true, false, false, false, false, false, false, false, false, false, false] rfl rfl (any_of HT_.out (by kernel_rfl)) (fun _ _ _ h => h) (Or.inl ⟨by rfl, ?_⟩) ?_ ?_
     rotate_left
     ·intro w'
      go_simp
      with_reducible rfl
     rotate_left
     ·simp only [Act.put, List.setIfInBounds_toArray, List.set_cons_zero, List.set_cons_succ, i64_w, i32_w]
      rfl
     refine pure_ (i := 11) (N := some 24) (v := ?_) (a' := ?_) #[true, true, true, true, true, true, true, true, true, true, true, true, false, false, false, false, false, false, false, false, false] rfl rfl (any_of HT_.out (by kernel_rfl)) (fun _ _ _ h => h) (Or.inl ⟨by rfl, ?_⟩) ?_ ?_
     rotate_left
     ·intro w'
      go_simp
      with_reducible rfl
     rotate_left
     ·simp only [Act.put, List.setIfInBounds_toArray, List.set_cons_zero, List.set_cons_succ, i64_w, i32_w]
      rfl
     refine pure_ (i := 12) (N := some 25) (v := ?_) (a' := ?_) #[true, true, true, true, true, true, true, true, true, true, true, true, true, false, false, false, false, false, false, false, false] rfl rfl (any_of HT_.out (by kernel_rfl)) (fun _ _ _ h => h) (Or.inl ⟨by rfl, ?_⟩) ?_ ?_
     rotate_left
     ·intro w'
      go_simp
      with_reducible rfl
     rotate_left
     ·simp only [Act.put, List.setIfInBounds_toArray, List.set_cons_zero, List.set_cons_succ, i64_w, i32_w]
      rfl
     refine pure_ (i := 13) (N := some 26) (v := undef) (a' := ?_) #[true, true, true, true, true, true, true, true, true, true, true, true, true, true, false, false, false, false, false, false, false] rfl rfl (any_of HT_.out (by kernel_rfl)) (fun _ _ _ h => h) (Or.inr ⟨by rfl, rfl⟩) ?_ ?_
     rotate_left
     ·simp only [Act.put, List.setIfInBounds_toArray, List.set_cons_zero, List.set_cons_succ, i64_w, i32_w]
      rfl
     refine pure_ (i := 14) (N := some 27) (v := undef) (a' := ?_) #[true, true, true, true, true, true, true, true, true, true, true, true, true, true, true, false, false, false, false, false, false] rfl rfl (any_of HT_.out (by kernel_rfl)) (fun _ _ _ h => h) (Or.inr ⟨by rfl, rfl⟩) ?_ ?_
     rotate_left
     ·simp only [Act.put, List.setIfInBounds_toArray, List.set_cons_zero, List.set_cons_succ, i64_w, i32_w]
      rfl
     refine pure_ (i := 15) (N := some 28) (v := undef) (a' := ?_) #[true, true, true, true, true, true, true, true, true, true, true, true, true, true, true, true, false, false, false, false, false] rfl rfl (any_of HT_.out (by kernel_rfl)) (fun _ _ _ h => h) (Or.inr ⟨by rfl, rfl⟩) ?_ ?_
     rotate_left
     ·simp only [Act.put, List.setIfInBounds_toArray, List.set_cons_zero, List.set_cons_succ, i64_w, i32_w]
      rfl
     refine pure_ (i := 16) (N := some 29) (v := undef) (a' := ?_) #[true, true, true, true, true, true, true, true, true, true, true, true, true, true, true, true, true, false, false, false, false] rfl rfl (any_of HT_.out (by kernel_rfl)) (fun _ _ _ h => h) (Or.inr ⟨by rfl, rfl⟩) ?_ ?_
     rotate_left
     ·simp only [Act.put, List.setIfInBounds_toArray, List.set_cons_zero, List.set_cons_succ, i64_w, i32_w]
      rfl
     refine pure_ (i := 17) (N := some 30) (v := undef) (a' := ?_) #[true, true, true, true, true, true, true, true, true, true, true, true, true, true, true, true, true, true, false, false, false] rfl rfl (any_of HT_.out (by kernel_rfl)) (fun _ _ _ h => h) (Or.inr ⟨by rfl, rfl⟩) ?_ ?_
     rotate_left
     ·simp only [Act.put, List.setIfInBounds_toArray, List.set_cons_zero, List.set_cons_succ, i64_w, i32_w]
      rfl
     refine pure_ (i := 18) (N := some 31) (v := undef) (a' := ?_) #[true, true, true, true, true, true, true, true, true, true, true, true, true, true, true, true, true, true, true, false, false] rfl rfl (any_of HT_.out (by kernel_rfl)) (fun _ _ _ h => h) (Or.inr ⟨by rfl, rfl⟩) ?_ ?_
     rotate_left
     ·simp only [Act.put, List.setIfInBounds_toArray, List.set_cons_zero, List.set_cons_succ, i64_w, i32_w]
      rfl
     refine pure_ (i := 19) (N := some 32) (v := undef) (a' := ?_) #[true, true, true, true, true, true, true, true, true, true, true, true, true, true, true, true, true, true, true, true, false] rfl rfl (any_of HT_.out (by kernel_rfl)) (fun _ _ _ h => h) (Or.inr ⟨by rfl, rfl⟩) ?_ ?_
     rotate_left
     ·simp only [Act.put, List.setIfInBounds_toArray, List.set_cons_zero, List.set_cons_succ, i64_w, i32_w]
      rfl
     refine pure_ (i := 20) (N := some 33) (v := ?_) (a' := ?_) #[true, true, true, true, true, true, true, true, true, true, true, true, true, true, true, true, true, true, true, true, true] rfl rfl (any_of HT_.out (by kernel_rfl)) (fun _ _ _ h => h) (Or.inl ⟨by rfl, ?_⟩) ?_ ?_
     rotate_left
     ·intro w'
      go_simp
      with_reducible rfl
     rotate_left
     ·simp only [Act.put, List.setIfInBounds_toArray, List.set_cons_zero, List.set_cons_succ, i64_w, i32_w]
      rfl
     refine done_ (done_of HT_.out (by kernel_rfl)) ?_
     try go_wp2
     go_meet
     case rel => exact ⟨_, (true), (by first | rfl | (simp; done) | (simp [*]; done)), H', ⟨by first | omega | exact Nat.le_refl _⟩, ⟨by (with_reducible repeat (first | refine zkN ?_ _ | refine zk1 ?_ | refine zkA ?_ _)); exact BK514.out⟩, ⟨by (with_reducible repeat (first | refine zkN ?_ _ | refine zk1 ?_ | refine zkA ?_ _)); exact BK515.out⟩, ⟨by (with_reducible repeat (first | refine zkN ?_ _ | refine zk1 ?_ | refine zkA ?_ _)); exact BK516.out⟩, ⟨by repeat (first | (with_reducible first | exact HB.out | apply zbA | apply zbN | apply zb1 | refine zbS ?_ GE514.out | refine zbS ?_ GE515.out | refine zbS ?_ GE516.out) | exact HB.out)⟩⟩
    ·rw [if_neg c26] at H
     have c26b0 : (t518 != t522) = false := by simpa using c26
     (try (have c26b1 : decide (t518 = t522) = true := by simpa using c26))
     (try (have c26b2 : (t518 == t522) = true := by simpa using c26))
     clear c26
     replace H := Option.bind_eq_some_iff.mp H
     obtain ⟨t523, A310, H⟩ := H
     replace H : ((addr_Meets.f k a1_0 a1_1 a1_2 a0_0 a0_1 a0_2).bind fun t524 => (tenancylaw01_AddrNested.j0 k (t523 != t524) a0_0 a0_1 a0_2 a1_0 a1_1 a1_2 a2_0 a2_1)) = some r := H
     have A31 := Aside0.mk A310
     clear A310
     replace H := Option.bind_eq_some_iff.mp H
     obtain ⟨t524, A320, H⟩ := H
     replace H : (tenancylaw01_AddrNested.j0 k (t523 != t524) a0_0 a0_1 a0_2 a1_0 a1_1 a1_2 a2_0 a2_1) = some r := H
     have A32 := Aside0.mk A320
     clear A320
     have H' := Aside0.mk H
     clear H
     try go_wp2
     have n0_ := Aside0.mk (zk1 BK514.out)
     have n1_ := Aside0.mk (zk1 BK515.out)
     have n2_ := Aside0.mk (zk1 BK516.out)
     have n3_ := Aside0.mk (zb1 HB.out)
     clear BK514
     clear BK515
     clear BK516
     clear HB
     have BK514 := n0_
     have BK515 := n1_
     have BK516 := n2_
     have HB := n3_
     clear n0_ n1_ n2_ n3_
     refine start_ (n := 21) (S := fun w' => w'.cell? ⟨gb514, 0, none⟩ = some (.int .u64 a0_0) ∧ w'.cell? ⟨gb514, 1, none⟩ = some (.int .u64 a0_1) ∧ w'.cell? ⟨gb514, 2, none⟩ = some (.int .i64 a0_2) ∧ w'.cell? ⟨gb515, 0, none⟩ = some (.int .u64 a1_0) ∧ w'.cell? ⟨gb515, 1, none⟩ = some (.int .u64 a1_1) ∧ w'.cell? ⟨gb515, 2, none⟩ = some (.int .i64 a1_2)) (ds := []) #[false, false, false, false, false, false, false, false, false, false, false, false, false, false, false, false, false, false, false, false, false] (by kernel_rfl) rfl rfl ⟨(zkC BK514.out 0).trans rfl, (zkC BK514.out 1).trans rfl, (zkC BK514.out 2).trans rfl, (zkC BK515.out 0).trans rfl, (zkC BK515.out 1).trans rfl, (zkC BK515.out 2).trans rfl⟩ (fun hHeld => ?_); refine with_tabW tenancylaw01_AddrNested.tab3 tenancylaw01_AddrNested.bits3 (fun HT_ HW_ => ?_)
     generalize w10.drew = w33 at BK514 BK515 BK516 HB hHeld ⊢
     refine take_ (i := 0) (N := some 13) (v := ?_) (a' := ?_) #[true, false, false, false, false, false, false, false, false, false, false, false, false, false, false, false, false, false, false, false, false] rfl rfl (take_ofW HT_.out HW_.out (by kernel_rfl)) (fun _ _ _ h => h) (Or.inl ⟨by rfl, ?_⟩) hHeld ?_ ?_
     rotate_left
     ·rintro w' ⟨s0, s1, s2, s3, s4, s5⟩
      go_simp
      with_reducible rfl
     rotate_left
     ·simp only [Act.put, List.setIfInBounds_toArray, List.set_cons_zero, List.set_cons_succ, i64_w, i32_w]
      rfl
     refine take_ (i := 1) (N := some 14) (v := ?_) (a' := ?_) #[true, true, false, false, false, false, false, false, false, false, false, false, false, false, false, false, false, false, false, false, false] rfl rfl (take_ofW HT_.out HW_.out (by kernel_rfl)) (fun _ _ _ h => h) (Or.inl ⟨by rfl, ?_⟩) hHeld ?_ ?_
     rotate_left
     ·rintro w' ⟨s0, s1, s2, s3, s4, s5⟩
      go_simp
      with_reducible rfl
     rotate_left
     ·simp only [Act.put, List.setIfInBounds_toArray, List.set_cons_zero, List.set_cons_succ, i64_w, i32_w]
      rfl
     refine take_ (i := 3) (N := some 16) (v := ?_) (a' := ?_) #[true, true, false, true, false, false, false, false, false, false, false, false, false, false, false, false, false, false, false, false, false] rfl rfl (take_ofW HT_.out HW_.out (by kernel_rfl)) (fun _ _ _ h => h) (Or.inl ⟨by rfl, ?_⟩) hHeld ?_ ?_
     rotate_left
     ·rintro w' ⟨s0, s1, s2, s3, s4, s5⟩
      go_simp
      with_reducible rfl
     rotate_left
     ·simp only [Act.put, List.setIfInBounds_toArray, List.set_cons_zero, List.set_cons_succ, i64_w, i32_w]
      rfl
     refine take_ (i := 4) (N := some 17) (v := ?_) (a' := ?_) #[true, true, false, true, true, false, false, false, false, false, false, false, false, false, false, false, false, false, false, false, false] rfl rfl (take_ofW HT_.out HW_.out (by kernel_rfl)) (fun _ _ _ h => h) (Or.inl ⟨by rfl, ?_⟩) hHeld ?_ ?_
     rotate_left
     ·rintro w' ⟨s0, s1, s2, s3, s4, s5⟩
      go_simp
      with_reducible rfl
     rotate_left
     ·simp only [Act.put, List.setIfInBounds_toArray, List.set_cons_zero, List.set_cons_succ, i64_w, i32_w]
      rfl
     refine one_ (i := 2) (N := some 15) #[true, true, true, true, true, false, false, false, false, false, false, false, false, false, false, false, false, false, false, false, false] rfl rfl (one_of HT_.out (by kernel_rfl)) (by decide) (fun K hK => ?_)
     refine goes_ Try.func39 (by kernel_rfl) rfl #[.agg #[.int .u64 a0_0, .int .u64 a0_1, .int .i64 a0_2], .agg #[.int .u64 a1_0, .int .u64 a1_1, .int .i64 a1_2]] (by rfl) rfl rfl (by (try simp only [List.map_toArray, List.map_cons, List.map_nil]); first | done | rfl | (simp only [List.length_drop, List.length_take]; rfl)) ?_
     with_reducible refine (addr_Meets.calls k a0_0 a0_1 a0_2 a1_0 a1_1 a1_2 t518 _ A11.out).mono ?_
     rintro e w34 ⟨rfl, hb⟩
     refine ⟨_, rfl, ?_⟩
     have n0_ := Aside0.mk (zkB (by (with_reducible repeat (first | refine zkN ?_ _ | refine zk1 ?_ | refine zkA ?_ _)); exact BK514.out) hb)
     have n1_ := Aside0.mk (zkB (by (with_reducible repeat (first | refine zkN ?_ _ | refine zk1 ?_ | refine zkA ?_ _)); exact BK515.out) hb)
     have n2_ := Aside0.mk (zkB (by (with_reducible repeat (first | refine zkN ?_ _ | refine zk1 ?_ | refine zkA ?_ _)); exact BK516.out) hb)
     have n3_ := Aside0.mk (zbP (by repeat (first | (with_reducible first | exact HB.out | apply zbA | apply zbN | apply zb1 | refine zbS ?_ GE514.out | refine zbS ?_ GE515.out | refine zbS ?_ GE516.out) | exact HB.out)) hb)
     clear BK514
     clear BK515
     clear BK516
     clear HB
     have BK514 := n0_
     have BK515 := n1_
     have BK516 := n2_
     have HB := n3_
     clear n0_ n1_ n2_ n3_
     (try clear hb)
     (try clear hb2)
     (try clear hk)
     (try clear hi)
     refine hK.out _ _ ⟨(zkC BK514.out 0).trans rfl, (zkC BK514.out 1).trans rfl, (zkC BK514.out 2).trans rfl, (zkC BK515.out 0).trans rfl, (zkC BK515.out 1).trans rfl, (zkC BK515.out 2).trans rfl⟩ (fun hHeld => ?_)
     clear hK K
     refine norm_ (a' := ?_) ?_ ?_
     rotate_left
     ·show Act.put _ (some 15) _ = _
      simp only [Act.put, List.setIfInBounds_toArray, List.set_cons_zero, List.set_cons_succ, i64_w, i32_w]
      rfl
     refine one_ (i := 5) (N := some 18) #[true, true, true, true, true, true, false, false, false, false, false, false, false, false, false, false, false, false, false, false, false] rfl rfl (one_of HT_.out (by kernel_rfl)) (by decide) (fun K hK => ?_)
     refine goes_ Try.func21 (by kernel_rfl) rfl #[.agg #[.int .u64 a0_0, .int .u64 a0_1, .int .i64 a0_2], .agg #[.int .u64 a1_0, .int .u64 a1_1, .int .i64 a1_2]] (by rfl) rfl rfl (by (try simp only [List.map_toArray, List.map_cons, List.map_nil]); first | done | rfl | (simp only [List.length_drop, List.length_take]; rfl)) ?_
     with_reducible refine (addr_Covers.calls k a0_0 a0_1 a0_2 a1_0 a1_1 a1_2 false _ A12.out).mono ?_
     rintro e w35 ⟨rfl, hb⟩
     refine ⟨_, rfl, ?_⟩
     have n0_ := Aside0.mk (zkB (by (with_reducible repeat (first | refine zkN ?_ _ | refine zk1 ?_ | refine zkA ?_ _)); exact BK514.out) hb)
     have n1_ := Aside0.mk (zkB (by (with_reducible repeat (first | refine zkN ?_ _ | refine zk1 ?_ | refine zkA ?_ _)); exact BK515.out) hb)
     have n2_ := Aside0.mk (zkB (by (with_reducible repeat (first | refine zkN ?_ _ | refine zk1 ?_ | refine zkA ?_ _)); exact BK516.out) hb)
     have n3_ := Aside0.mk (zbP (by repeat (first | (with_reducible first | exact HB.out | apply zbA | apply zbN | apply zb1 | refine zbS ?_ GE514.out | refine zbS ?_ GE515.out | refine zbS ?_ GE516.out) | exact HB.out)) hb)
     clear BK514
     clear BK515
     clear BK516
     clear HB
     have BK514 := n0_
     have BK515 := n1_
     have BK516 := n2_
     have HB := n3_
     clear n0_ n1_ n2_ n3_
     (try clear hb)
     (try clear hb2)
     (try clear hk)
     (try clear hi)
     refine hK.out _ _ ⟨(zkC BK514.out 0).trans rfl, (zkC BK514.out 1).trans rfl, (zkC BK514.out 2).trans rfl, (zkC BK515.out 0).trans rfl, (zkC BK515.out 1).trans rfl, (zkC BK515.out 2).trans rfl⟩ (fun hHeld => ?_)
     clear hK K
     refine norm_ (a' := ?_) ?_ ?_
     rotate_left
     ·show Act.put _ (some 18) _ = _
      simp only [Act.put, List.setIfInBounds_toArray, List.set_cons_zero, List.set_cons_succ, i64_w, i32_w]
      rfl
     refine pure_ (i := 6) (N := some 19) (v := ?_) (a' := ?_) #[true, true, true, true, true, true, true, false, false, false, false, false, false, false, false, false, false, false, false, false, false] rfl rfl (any_of HT_.out (by kernel_rfl)) (fun _ _ _ h => h) (Or.inl ⟨by rfl, ?_⟩) ?_ ?_
     rotate_left
     ·intro w'
      go_simp
      with_reducible rfl
     rotate_left
     ·simp only [Act.put, List.setIfInBounds_toArray, List.set_cons_zero, List.set_cons_succ, i64_w, i32_w]
      rfl
     refine take_ (i := 7) (N := some 20) (v := ?_) (a' := ?_) #[true, true, true, true, true, true, true, true, false, false, false, false, false, false, false, false, false, false, false, false, false] rfl rfl (take_ofW HT_.out HW_.out (by kernel_rfl)) (fun _ _ _ h => h) (Or.inl ⟨by rfl, ?_⟩) hHeld ?_ ?_
     rotate_left
     ·rintro w' ⟨s0, s1, s2, s3, s4, s5⟩
      go_simp
      with_reducible rfl
     rotate_left
     ·simp only [Act.put, List.setIfInBounds_toArray, List.set_cons_zero, List.set_cons_succ, i64_w, i32_w]
      rfl
     refine take_ (i := 8) (N := some 21) (v := ?_) (a' := ?_) #[true, true, true, true, true, true, true, true, true, false, false, false, false, false, false, false, false, false, false, false, false] rfl rfl (take_ofW HT_.out HW_.out (by kernel_rfl)) (fun _ _ _ h => h) (Or.inl ⟨by rfl, ?_⟩) hHeld ?_ ?_
     rotate_left
     ·rintro w' ⟨s0, s1, s2, s3, s4, s5⟩
      go_simp
      with_reducible rfl
     rotate_left
     ·simp only [Act.put, List.setIfInBounds_toArray, List.set_cons_zero, List.set_cons_succ, i64_w, i32_w]
      rfl
     refine one_ (i := 9) (N := some 22) #[true, true, true, true, true, true, true, true, true, true, false, false, false, false, false, false, false, false, false, false, false] rfl rfl (one_of HT_.out (by kernel_rfl)) (by decide) (fun K hK => ?_)
     refine goes_ Try.func21 (by kernel_rfl) rfl #[.agg #[.int .u64 a1_0, .int .u64 a1_1, .int .i64 a1_2], .agg #[.int .u64 a0_0, .int .u64 a0_1, .int .i64 a0_2]] (by rfl) rfl rfl (by (try simp only [List.map_toArray, List.map_cons, List.map_nil]); first | done | rfl | (simp only [List.length_drop, List.length_take]; rfl)) ?_
     with_reducible refine (addr_Covers.calls k a1_0 a1_1 a1_2 a0_0 a0_1 a0_2 t522 _ A25.out).mono ?_
     rintro e w36 ⟨rfl, hb⟩
     refine ⟨_, rfl, ?_⟩
     have n0_ := Aside0.mk (zkB (by (with_reducible repeat (first | refine zkN ?_ _ | refine zk1 ?_ | refine zkA ?_ _)); exact BK514.out) hb)
     have n1_ := Aside0.mk (zkB (by (with_reducible repeat (first | refine zkN ?_ _ | refine zk1 ?_ | refine zkA ?_ _)); exact BK515.out) hb)
     have n2_ := Aside0.mk (zkB (by (with_reducible repeat (first | refine zkN ?_ _ | refine zk1 ?_ | refine zkA ?_ _)); exact BK516.out) hb)
     have n3_ := Aside0.mk (zbP (by repeat (first | (with_reducible first | exact HB.out | apply zbA | apply zbN | apply zb1 | refine zbS ?_ GE514.out | refine zbS ?_ GE515.out | refine zbS ?_ GE516.out) | exact HB.out)) hb)
     clear BK514
     clear BK515
     clear BK516
     clear HB
     have BK514 := n0_
     have BK515 := n1_
     have BK516 := n2_
     have HB := n3_
     clear n0_ n1_ n2_ n3_
     (try clear hb)
     (try clear hb2)
     (try clear hk)
     (try clear hi)
     refine hK.out _ _ ⟨(zkC BK514.out 0).trans rfl, (zkC BK514.out 1).trans rfl, (zkC BK514.out 2).trans rfl, (zkC BK515.out 0).trans rfl, (zkC BK515.out 1).trans rfl, (zkC BK515.out 2).trans rfl⟩ (fun hHeld => ?_)
     clear hK K
     refine norm_ (a' := ?_) ?_ ?_
     rotate_left
     ·show Act.put _ (some 22) _ = _
      simp only [Act.put, List.setIfInBounds_toArray, List.set_cons_zero, List.set_cons_succ, i64_w, i32_w]
      rfl
     refine pure_ (i := 10) (N := some 23) (v := ?_) (a' := ?_) #[true, true, true, true, true, true, true, true, true, true, true, false, false, false, false, false, false, false, false, false, false] rfl rfl (any_of HT_.out (by kernel_rfl)) (fun _ _ _ h => h) (Or.inl ⟨by rfl, ?_⟩) ?_ ?_
     rotate_left
     ·intro w'
      go_simp
      with_reducible rfl
     rotate_left
     ·simp only [Act.put, List.setIfInBounds_toArray, List.set_cons_zero, List.set_cons_succ, i64_w, i32_w]
      rfl
     refine pure_ (i := 11) (N := some 24) (v := ?_) (a' := ?_) #[true, true, true, true, true, true, true, true, true, true, true, true, false, false, false, false, false, false, false, false, false] rfl rfl (any_of HT_.out (by kernel_rfl)) (fun _ _ _ h => h) (Or.inl ⟨by rfl, ?_⟩) ?_ ?_
     rotate_left
     ·intro w'
      go_simp
      with_reducible rfl
     rotate_left
     ·simp only [Act.put, List.setIfInBounds_toArray, List.set_cons_zero, List.set_cons_succ, i64_w, i32_w]
      rfl
     refine pure_ (i := 12) (N := some 25) (v := ?_) (a' := ?_) #[true, true, true, true, true, true, true, true, true, true, true, true, true, false, false, false, false, false, false, false, false] rfl rfl (any_of HT_.out (by kernel_rfl)) (fun _ _ _ h => h) (Or.inl ⟨by rfl, ?_⟩) ?_ ?_
     rotate_left
     ·intro w'
      go_simp
      with_reducible rfl
     rotate_left
     ·simp only [Act.put, List.setIfInBounds_toArray, List.set_cons_zero, List.set_cons_succ, i64_w, i32_w]
      rfl
     refine take_ (i := 13) (N := some 26) (v := ?_) (a' := ?_) #[true, true, true, true, true, true, true, true, true, true, true, true, true, true, false, false, false, false, false, false, false] rfl rfl (take_ofW HT_.out HW_.out (by kernel_rfl)) (fun _ _ _ h => h) (Or.inl ⟨by rfl, ?_⟩) hHeld ?_ ?_
     rotate_left
     ·rintro w' ⟨s0, s1, s2, s3, s4, s5⟩
      go_simp
      with_reducible rfl
     rotate_left
     ·simp only [Act.put, List.setIfInBounds_toArray, List.set_cons_zero, List.set_cons_succ, i64_w, i32_w]
      rfl
     refine take_ (i := 14) (N := some 27) (v := ?_) (a' := ?_) #[true, true, true, true, true, true, true, true, true, true, true, true, true, true, true, false, false, false, false, false, false] rfl rfl (take_ofW HT_.out HW_.out (by kernel_rfl)) (fun _ _ _ h => h) (Or.inl ⟨by rfl, ?_⟩) hHeld ?_ ?_
     rotate_left
     ·rintro w' ⟨s0, s1, s2, s3, s4, s5⟩
      go_simp
      with_reducible rfl
     rotate_left
     ·simp only [Act.put, List.setIfInBounds_toArray, List.set_cons_zero, List.set_cons_succ, i64_w, i32_w]
      rfl
     refine take_ (i := 16) (N := some 29) (v := ?_) (a' := ?_) #[true, true, true, true, true, true, true, true, true, true, true, true, true, true, true, false, true, false, false, false, false] rfl rfl (take_ofW HT_.out HW_.out (by kernel_rfl)) (fun _ _ _ h => h) (Or.inl ⟨by rfl, ?_⟩) hHeld ?_ ?_
     rotate_left
     ·rintro w' ⟨s0, s1, s2, s3, s4, s5⟩
      go_simp
      with_reducible rfl
     rotate_left
     ·simp only [Act.put, List.setIfInBounds_toArray, List.set_cons_zero, List.set_cons_succ, i64_w, i32_w]
      rfl
     refine take_ (i := 17) (N := some 30) (v := ?_) (a' := ?_) #[true, true, true, true, true, true, true, true, true, true, true, true, true, true, true, false, true, true, false, false, false] rfl rfl (take_ofW HT_.out HW_.out (by kernel_rfl)) (fun _ _ _ h => h) (Or.inl ⟨by rfl, ?_⟩) hHeld ?_ ?_
     rotate_left
     ·rintro w' ⟨s0, s1, s2, s3, s4, s5⟩
      go_simp
      with_reducible rfl
     rotate_left
     ·simp only [Act.put, List.setIfInBounds_toArray, List.set_cons_zero, List.set_cons_succ, i64_w, i32_w]
      rfl
     refine one_ (i := 15) (N := some 28) #[true, true, true, true, true, true, true, true, true, true, true, true, true, true, true, true, true, true, false, false, false] rfl rfl (one_of HT_.out (by kernel_rfl)) (by decide) (fun K hK => ?_)
     refine goes_ Try.func39 (by kernel_rfl) rfl #[.agg #[.int .u64 a0_0, .int .u64 a0_1, .int .i64 a0_2], .agg #[.int .u64 a1_0, .int .u64 a1_1, .int .i64 a1_2]] (by rfl) rfl rfl (by (try simp only [List.map_toArray, List.map_cons, List.map_nil]); first | done | rfl | (simp only [List.length_drop, List.length_take]; rfl)) ?_
     with_reducible refine (addr_Meets.calls k a0_0 a0_1 a0_2 a1_0 a1_1 a1_2 t523 _ A31.out).mono ?_
     rintro e w37 ⟨rfl, hb⟩
     refine ⟨_, rfl, ?_⟩
     have n0_ := Aside0.mk (zkB (by (with_reducible repeat (first | refine zkN ?_ _ | refine zk1 ?_ | refine zkA ?_ _)); exact BK514.out) hb)
     have n1_ := Aside0.mk (zkB (by (with_reducible repeat (first | refine zkN ?_ _ | refine zk1 ?_ | refine zkA ?_ _)); exact BK515.out) hb)
     have n2_ := Aside0.mk (zkB (by (with_reducible repeat (first | refine zkN ?_ _ | refine zk1 ?_ | refine zkA ?_ _)); exact BK516.out) hb)
     have n3_ := Aside0.mk (zbP (by repeat (first | (with_reducible first | exact HB.out | apply zbA | apply zbN | apply zb1 | refine zbS ?_ GE514.out | refine zbS ?_ GE515.out | refine zbS ?_ GE516.out) | exact HB.out)) hb)
     clear BK514
     clear BK515
     clear BK516
     clear HB
     have BK514 := n0_
     have BK515 := n1_
     have BK516 := n2_
     have HB := n3_
     clear n0_ n1_ n2_ n3_
     (try clear hb)
     (try clear hb2)
     (try clear hk)
     (try clear hi)
     refine hK.out _ _ ⟨(zkC BK514.out 0).trans rfl, (zkC BK514.out 1).trans rfl, (zkC BK514.out 2).trans rfl, (zkC BK515.out 0).trans rfl, (zkC BK515.out 1).trans rfl, (zkC BK515.out 2).trans rfl⟩ (fun hHeld => ?_)
     clear hK K
     refine norm_ (a' := ?_) ?_ ?_
     rotate_left
     ·show Act.put _ (some 28) _ = _
      simp only [Act.put, List.setIfInBounds_toArray, List.set_cons_zero, List.set_cons_succ, i64_w, i32_w]
      rfl
     refine one_ (i := 18) (N := some 31) #[true, true, true, true, true, true, true, true, true, true, true, true, true, true, true, true, true, true, true, false, false] rfl rfl (one_of HT_.out (by kernel_rfl)) (by decide) (fun K hK => ?_)
     refine goes_ Try.func39 (by kernel_rfl) rfl #[.agg #[.int .u64 a1_0, .int .u64 a1_1, .int .i64 a1_2], .agg #[.int .u64 a0_0, .int .u64 a0_1, .int .i64 a0_2]] (by rfl) rfl rfl (by (try simp only [List.map_toArray, List.map_cons, List.map_nil]); first | done | rfl | (simp only [List.length_drop, List.length_take]; rfl)) ?_
     with_reducible refine (addr_Meets.calls k a1_0 a1_1 a1_2 a0_0 a0_1 a0_2 t524 _ A32.out).mono ?_
     rintro e w38 ⟨rfl, hb⟩
     refine ⟨_, rfl, ?_⟩
     have n0_ := Aside0.mk (zkB (by (with_reducible repeat (first | refine zkN ?_ _ | refine zk1 ?_ | refine zkA ?_ _)); exact BK514.out) hb)
     have n1_ := Aside0.mk (zkB (by (with_reducible repeat (first | refine zkN ?_ _ | refine zk1 ?_ | refine zkA ?_ _)); exact BK515.out) hb)
     have n2_ := Aside0.mk (zkB (by (with_reducible repeat (first | refine zkN ?_ _ | refine zk1 ?_ | refine zkA ?_ _)); exact BK516.out) hb)
     have n3_ := Aside0.mk (zbP (by repeat (first | (with_reducible first | exact HB.out | apply zbA | apply zbN | apply zb1 | refine zbS ?_ GE514.out | refine zbS ?_ GE515.out | refine zbS ?_ GE516.out) | exact HB.out)) hb)
     clear BK514
     clear BK515
     clear BK516
     clear HB
     have BK514 := n0_
     have BK515 := n1_
     have BK516 := n2_
     have HB := n3_
     clear n0_ n1_ n2_ n3_
     (try clear hb)
     (try clear hb2)
     (try clear hk)
     (try clear hi)
     refine hK.out _ _ ⟨(zkC BK514.out 0).trans rfl, (zkC BK514.out 1).trans rfl, (zkC BK514.out 2).trans rfl, (zkC BK515.out 0).trans rfl, (zkC BK515.out 1).trans rfl, (zkC BK515.out 2).trans rfl⟩ (fun hHeld => ?_)
     clear hK K
     refine norm_ (a' := ?_) ?_ ?_
     rotate_left
     ·show Act.put _ (some 31) _ = _
      simp only [Act.put, List.setIfInBounds_toArray, List.set_cons_zero, List.set_cons_succ, i64_w, i32_w]
      rfl
     refine pure_ (i := 19) (N := some 32) (v := ?_) (a' := ?_) #[true, true, true, true, true, true, true, true, true, true, true, true, true, true, true, true, true, true, true, true, false] rfl rfl (any_of HT_.out (by kernel_rfl)) (fun _ _ _ h => h) (Or.inl ⟨by rfl, ?_⟩) ?_ ?_
     rotate_left
     ·intro w'
      go_simp
      with_reducible rfl
     rotate_left
     ·simp only [Act.put, List.setIfInBounds_toArray, List.set_cons_zero, List.set_cons_succ, i64_w, i32_w]
      rfl
     refine pure_ (i := 20) (N := some 33) (v := ?_) (a' := ?_) #[true, true, true, true, true, true, true, true, true, true, true, true, true, true, true, true, true, true, true, true, true] rfl rfl (any_of HT_.out (by kernel_rfl)) (fun _ _ _ h => h) (Or.inl ⟨by rfl, ?_⟩) ?_ ?_
     rotate_left
     ·intro w'
      go_simp
      with_reducible rfl
     rotate_left
     ·simp only [Act.put, List.setIfInBounds_toArray, List.set_cons_zero, List.set_cons_succ, i64_w, i32_w]
      rfl
     refine done_ (done_of HT_.out (by kernel_rfl)) ?_
     try go_wp2
     go_meet
     case rel => exact ⟨_, ((t523 != t524)), (by first | rfl | (simp; done) | (simp [*]; done)), H', ⟨by first | omega | exact Nat.le_refl _⟩, ⟨by (with_reducible repeat (first | refine zkN ?_ _ | refine zk1 ?_ | refine zkA ?_ _)); exact BK514.out⟩, ⟨by (with_reducible repeat (first | refine zkN ?_ _ | refine zk1 ?_ | refine zkA ?_ _)); exact BK515.out⟩, ⟨by (with_reducible repeat (first | refine zkN ?_ _ | refine zk1 ?_ | refine zkA ?_ _)); exact BK516.out⟩, ⟨by repeat (first | (with_reducible first | exact HB.out | apply zbA | apply zbN | apply zb1 | refine zbS ?_ GE514.out | refine zbS ?_ GE515.out | refine zbS ?_ GE516.out) | exact HB.out)⟩⟩
  case rest =>
   clear HC6
   (try clear c1); (try clear c2); (try clear p2); (try clear c3); (try clear c13); (try clear c21); (try clear c26); (try clear c26b0); (try clear c26b1); (try clear c26b2)
   obtain ⟨kq, x33_5, rfl, HA, HJ5, BK514, BK515, BK516, HB⟩ := hcut
   cases kq with
   | zero => exact absurd HA.out (by simp [tenancylaw01_AddrNested.j0])
   | succ kj5 =>
    have H := HA.out
    clear HA
    simp only [tenancylaw01_AddrNested.j0] at H
    by_cases c39 : x33_5 = true
    ·subst c39
     have H1 : (none) = some r := by rw [if_pos rfl] at H; exact H
     clear H
     have H := H1
     clear H1
     exact absurd H (by simp)
    ·replace c39 := Bool.eq_false_iff.mpr c39
     subst c39
     have H1 : ((addr_Covers.f kj5 a0_0 a0_1 a0_2 a1_0 a1_1 a1_2).bind fun t525 => (if t525 = true then ((addr_Covers.f kj5 a1_0 a1_1 a1_2 a0_0 a0_1 a0_2).bind fun t526 => (if t526 = true then (tenancylaw01_AddrNested.j1 kj5 ((!(a0_0 == a1_0) || (!(a0_1 == a1_1))) || (!(a0_2 == a1_2))) a0_0 a0_1 a0_2 a1_0 a1_1 a1_2 a2_0 a2_1) else (tenancylaw01_AddrNested.j1 kj5 false a0_0 a0_1 a0_2 a1_0 a1_1 a1_2 a2_0 a2_1))) else (tenancylaw01_AddrNested.j1 kj5 false a0_0 a0_1 a0_2 a1_0 a1_1 a1_2 a2_0 a2_1))) = some r := by rw [if_neg (show ¬ (false = true) by decide)] at H; exact H
     clear H
     have H := H1
     clear H1
     have HC40 := Aside0.mk H
     clear H
     go_upto_region 5 with (fail)
     go_cut [46] (fun v46 wc => ∃ (kq : Nat) (x46_39 : Bool), v46 = .bool x46_39 ∧ Aside0 (tenancylaw01_AddrNested.j1 kq x46_39 a0_0 a0_1 a0_2 a1_0 a1_1 a1_2 a2_0 a2_1 = some r) ∧ Aside0 (kq ≤ kj5) ∧ Aside0 (wc.heap[gb514]? = some (.cells #[.int .u64 a0_0, .int .u64 a0_1, .int .i64 a0_2] 33 (0, 0))) ∧ Aside0 (wc.heap[gb515]? = some (.cells #[.int .u64 a1_0, .int .u64 a1_1, .int .i64 a1_2] 33 (0, 0))) ∧ Aside0 (wc.heap[gb516]? = some (.cells #[.int .u64 a2_0, .int .u64 a2_1] 24 (0, 0))) ∧ Aside0 (Below w.heap.size w wc))
     case first =>
      have H := HC40.out
      clear HC40
      replace H := Option.bind_eq_some_iff.mp H
      obtain ⟨t525, A410, H⟩ := H
      replace H : (if t525 = true then ((addr_Covers.f kj5 a1_0 a1_1 a1_2 a0_0 a0_1 a0_2).bind fun t526 => (if t526 = true then (tenancylaw01_AddrNested.j1 kj5 ((!(a0_0 == a1_0) || (!(a0_1 == a1_1))) || (!(a0_2 == a1_2))) a0_0 a0_1 a0_2 a1_0 a1_1 a1_2 a2_0 a2_1) else (tenancylaw01_AddrNested.j1 kj5 false a0_0 a0_1 a0_2 a1_0 a1_1 a1_2 a2_0 a2_1))) else (tenancylaw01_AddrNested.j1 kj5 false a0_0 a0_1 a0_2 a1_0 a1_1 a1_2 a2_0 a2_1)) = some r := H
      have A41 := Aside0.mk A410
      clear A410
      by_cases c42 : t525 = true
      ·subst c42
       have H1 : ((addr_Covers.f kj5 a1_0 a1_1 a1_2 a0_0 a0_1 a0_2).bind fun t526 => (if t526 = true then (tenancylaw01_AddrNested.j1 kj5 ((!(a0_0 == a1_0) || (!(a0_1 == a1_1))) || (!(a0_2 == a1_2))) a0_0 a0_1 a0_2 a1_0 a1_1 a1_2 a2_0 a2_1) else (tenancylaw01_AddrNested.j1 kj5 false a0_0 a0_1 a0_2 a1_0 a1_1 a1_2 a2_0 a2_1))) = some r := by rw [if_pos rfl] at H; exact H
       clear H
       have H := H1
       clear H1
       replace H := Option.bind_eq_some_iff.mp H
       obtain ⟨t526, A430, H⟩ := H
       replace H : (if t526 = true then (tenancylaw01_AddrNested.j1 kj5 ((!(a0_0 == a1_0) || (!(a0_1 == a1_1))) || (!(a0_2 == a1_2))) a0_0 a0_1 a0_2 a1_0 a1_1 a1_2 a2_0 a2_1) else (tenancylaw01_AddrNested.j1 kj5 false a0_0 a0_1 a0_2 a1_0 a1_1 a1_2 a2_0 a2_1)) = some r := H
       have A43 := Aside0.mk A430
       clear A430
       by_cases c44 : t526 = true
       ·subst c44
        have H1 : (tenancylaw01_AddrNested.j1 kj5 ((!(a0_0 == a1_0) || (!(a0_1 == a1_1))) || (!(a0_2 == a1_2))) a0_0 a0_1 a0_2 a1_0 a1_1 a1_2 a2_0 a2_1) = some r := by rw [if_pos rfl] at H; exact H
        clear H
        have H := H1
        clear H1
        have H' := Aside0.mk H
        clear H
        have hnb45 := NB514_515.out
        have hnc45 := NB515_514.out
        have hnb46 := NB514_516.out
        have hnc46 := NB516_514.out
        obtain ⟨hcz47_0, hcz47_1, hcz47_2, hfz47_0, hfz47_1, hfz47_2⟩ := zc3 BK514.out
        have hnb48 := NB515_516.out
        have hnc48 := NB516_515.out
        obtain ⟨hcz49_0, hcz49_1, hcz49_2, hfz49_0, hfz49_1, hfz49_2⟩ := zc3 BK515.out
        go_wp2_with (first | ((with_reducible refine gate_callee (f := 21) rfl ?_); refine goesL_ (some 36) rfl rfl Try.func21 (by kernel_rfl) rfl #[.agg #[.int .u64 a0_0, .int .u64 a0_1, .int .i64 a0_2], .agg #[.int .u64 a1_0, .int .u64 a1_1, .int .i64 a1_2]] rfl (by (try simp only [List.map_toArray, List.map_cons, List.map_nil]); first | done | rfl | (simp only [List.length_drop, List.length_take]; rfl)) ?_; (with_reducible refine (addr_Covers.calls kj5 a0_0 a0_1 a0_2 a1_0 a1_1 a1_2 true _ A41.out).mono ?_); rintro e w50 ⟨rfl, hb⟩; refine ⟨_, rfl, ?_⟩; have n0_ := Aside0.mk (zkB (by (with_reducible repeat (first | refine zkN ?_ _ | refine zk1 ?_ | refine zkA ?_ _)); exact BK514.out) hb); have n1_ := Aside0.mk (zkB (by (with_reducible repeat (first | refine zkN ?_ _ | refine zk1 ?_ | refine zkA ?_ _)); exact BK515.out) hb); have n2_ := Aside0.mk (zkB (by (with_reducible repeat (first | refine zkN ?_ _ | refine zk1 ?_ | refine zkA ?_ _)); exact BK516.out) hb); have n3_ := Aside0.mk (zbP (by repeat (first | (with_reducible first | exact HB.out | apply zbA | apply zbN | apply zb1 | refine zbS ?_ GE514.out | refine zbS ?_ GE515.out | refine zbS ?_ GE516.out) | exact HB.out)) hb); clear BK514; clear BK515; clear BK516; clear HB; have BK514 := n0_; have BK515 := n1_; have BK516 := n2_; have HB := n3_; clear n0_ n1_ n2_ n3_; (try clear hb); (try clear hb2); (try clear hk); (try clear hi); obtain ⟨hcz51_0, hcz51_1, hcz51_2, hfz51_0, hfz51_1, hfz51_2⟩ := zc3 BK515.out; obtain ⟨hcz52_0, hcz52_1, hcz52_2, hfz52_0, hfz52_1, hfz52_2⟩ := zc3 BK514.out) | (go_at_call 21; (with_reducible refine (addr_Covers.calls kj5 a1_0 a1_1 a1_2 a0_0 a0_1 a0_2 true _ A43.out).mono ?_); rintro e w53 ⟨rfl, hb⟩; have n0_ := Aside0.mk (zkB (by (with_reducible repeat (first | refine zkN ?_ _ | refine zk1 ?_ | refine zkA ?_ _)); exact BK514.out) hb); have n1_ := Aside0.mk (zkB (by (with_reducible repeat (first | refine zkN ?_ _ | refine zk1 ?_ | refine zkA ?_ _)); exact BK515.out) hb); have n2_ := Aside0.mk (zkB (by (with_reducible repeat (first | refine zkN ?_ _ | refine zk1 ?_ | refine zkA ?_ _)); exact BK516.out) hb); have n3_ := Aside0.mk (zbP (by repeat (first | (with_reducible first | exact HB.out | apply zbA | apply zbN | apply zb1 | refine zbS ?_ GE514.out | refine zbS ?_ GE515.out | refine zbS ?_ GE516.out) | exact HB.out)) hb); clear BK514; clear BK515; clear BK516; clear HB; have BK514 := n0_; have BK515 := n1_; have BK516 := n2_; have HB := n3_; clear n0_ n1_ n2_ n3_; (try clear hb); (try clear hb2); (try clear hk); (try clear hi); obtain ⟨hcz54_0, hcz54_1, hcz54_2, hfz54_0, hfz54_1, hfz54_2⟩ := zc3 BK514.out; obtain ⟨hcz55_0, hcz55_1, hcz55_2, hfz55_0, hfz55_1, hfz55_2⟩ := zc3 BK515.out))
        go_meet
        case rel => exact ⟨_, (((!(a0_0 == a1_0) || (!(a0_1 == a1_1))) || (!(a0_2 == a1_2)))), (by first | rfl | (simp; done) | (simp [*]; done)), H', ⟨by have := HJ5.out; first | omega | exact Nat.le_refl _⟩, ⟨by (with_reducible repeat (first | refine zkN ?_ _ | refine zk1 ?_ | refine zkA ?_ _)); exact BK514.out⟩, ⟨by (with_reducible repeat (first | refine zkN ?_ _ | refine zk1 ?_ | refine zkA ?_ _)); exact BK515.out⟩, ⟨by (with_reducible repeat (first | refine zkN ?_ _ | refine zk1 ?_ | refine zkA ?_ _)); exact BK516.out⟩, ⟨by repeat (first | (with_reducible first | exact HB.out | apply zbA | apply zbN | apply zb1 | refine zbS ?_ GE514.out | refine zbS ?_ GE515.out | refine zbS ?_ GE516.out) | exact HB.out)⟩⟩
       ·replace c44 := Bool.eq_false_iff.mpr c44
        subst c44
        have H1 : (tenancylaw01_AddrNested.j1 kj5 false a0_0 a0_1 a0_2 a1_0 a1_1 a1_2 a2_0 a2_1) = some r := by rw [if_neg (show ¬ (false = true) by decide)] at H; exact H
        clear H
        have H := H1
        clear H1
        have H' := Aside0.mk H
        clear H
        have hnb56 := NB514_515.out
        have hnc56 := NB515_514.out
        have hnb57 := NB514_516.out
        have hnc57 := NB516_514.out
        obtain ⟨hcz58_0, hcz58_1, hcz58_2, hfz58_0, hfz58_1, hfz58_2⟩ := zc3 BK514.out
        have hnb59 := NB515_516.out
        have hnc59 := NB516_515.out
        obtain ⟨hcz60_0, hcz60_1, hcz60_2, hfz60_0, hfz60_1, hfz60_2⟩ := zc3 BK515.out
        go_wp2_with (first | ((with_reducible refine gate_callee (f := 21) rfl ?_); refine goesL_ (some 36) rfl rfl Try.func21 (by kernel_rfl) rfl #[.agg #[.int .u64 a0_0, .int .u64 a0_1, .int .i64 a0_2], .agg #[.int .u64 a1_0, .int .u64 a1_1, .int .i64 a1_2]] rfl (by (try simp only [List.map_toArray, List.map_cons, List.map_nil]); first | done | rfl | (simp only [List.length_drop, List.length_take]; rfl)) ?_; (with_reducible refine (addr_Covers.calls kj5 a0_0 a0_1 a0_2 a1_0 a1_1 a1_2 true _ A41.out).mono ?_); rintro e w61 ⟨rfl, hb⟩; refine ⟨_, rfl, ?_⟩; have n0_ := Aside0.mk (zkB (by (with_reducible repeat (first | refine zkN ?_ _ | refine zk1 ?_ | refine zkA ?_ _)); exact BK514.out) hb); have n1_ := Aside0.mk (zkB (by (with_reducible repeat (first | refine zkN ?_ _ | refine zk1 ?_ | refine zkA ?_ _)); exact BK515.out) hb); have n2_ := Aside0.mk (zkB (by (with_reducible repeat (first | refine zkN ?_ _ | refine zk1 ?_ | refine zkA ?_ _)); exact BK516.out) hb); have n3_ := Aside0.mk (zbP (by repeat (first | (with_reducible first | exact HB.out | apply zbA | apply zbN | apply zb1 | refine zbS ?_ GE514.out | refine zbS ?_ GE515.out | refine zbS ?_ GE516.out) | exact HB.out)) hb); clear BK514; clear BK515; clear BK516; clear HB; have BK514 := n0_; have BK515 := n1_; have BK516 := n2_; have HB := n3_; clear n0_ n1_ n2_ n3_; (try clear hb); (try clear hb2); (try clear hk); (try clear hi); obtain ⟨hcz62_0, hcz62_1, hcz62_2, hfz62_0, hfz62_1, hfz62_2⟩ := zc3 BK515.out; obtain ⟨hcz63_0, hcz63_1, hcz63_2, hfz63_0, hfz63_1, hfz63_2⟩ := zc3 BK514.out) | (go_at_call 21; (with_reducible refine (addr_Covers.calls kj5 a1_0 a1_1 a1_2 a0_0 a0_1 a0_2 false _ A43.out).mono ?_); rintro e w64 ⟨rfl, hb⟩; have n0_ := Aside0.mk (zkB (by (with_reducible repeat (first | refine zkN ?_ _ | refine zk1 ?_ | refine zkA ?_ _)); exact BK514.out) hb); have n1_ := Aside0.mk (zkB (by (with_reducible repeat (first | refine zkN ?_ _ | refine zk1 ?_ | refine zkA ?_ _)); exact BK515.out) hb); have n2_ := Aside0.mk (zkB (by (with_reducible repeat (first | refine zkN ?_ _ | refine zk1 ?_ | refine zkA ?_ _)); exact BK516.out) hb); have n3_ := Aside0.mk (zbP (by repeat (first | (with_reducible first | exact HB.out | apply zbA | apply zbN | apply zb1 | refine zbS ?_ GE514.out | refine zbS ?_ GE515.out | refine zbS ?_ GE516.out) | exact HB.out)) hb); clear BK514; clear BK515; clear BK516; clear HB; have BK514 := n0_; have BK515 := n1_; have BK516 := n2_; have HB := n3_; clear n0_ n1_ n2_ n3_; (try clear hb); (try clear hb2); (try clear hk); (try clear hi)))
        go_meet
        case rel => exact ⟨_, (false), (by first | rfl | (simp; done) | (simp [*]; done)), H', ⟨by have := HJ5.out; first | omega | exact Nat.le_refl _⟩, ⟨by (with_reducible repeat (first | refine zkN ?_ _ | refine zk1 ?_ | refine zkA ?_ _)); exact BK514.out⟩, ⟨by (with_reducible repeat (first | refine zkN ?_ _ | refine zk1 ?_ | refine zkA ?_ _)); exact BK515.out⟩, ⟨by (with_reducible repeat (first | refine zkN ?_ _ | refine zk1 ?_ | refine zkA ?_ _)); exact BK516.out⟩, ⟨by repeat (first | (with_reducible first | exact HB.out | apply zbA | apply zbN | apply zb1 | refine zbS ?_ GE514.out | refine zbS ?_ GE515.out | refine zbS ?_ GE516.out) | exact HB.out)⟩⟩
      ·replace c42 := Bool.eq_false_iff.mpr c42
       subst c42
       have H1 : (tenancylaw01_AddrNested.j1 kj5 false a0_0 a0_1 a0_2 a1_0 a1_1 a1_2 a2_0 a2_1) = some r := by rw [if_neg (show ¬ (false = true) by decide)] at H; exact H
       clear H
       have H := H1
       clear H1
       have H' := Aside0.mk H
       clear H
       have hnb65 := NB514_515.out
       have hnc65 := NB515_514.out
       have hnb66 := NB514_516.out
       have hnc66 := NB516_514.out
       obtain ⟨hcz67_0, hcz67_1, hcz67_2, hfz67_0, hfz67_1, hfz67_2⟩ := zc3 BK514.out
       have hnb68 := NB515_516.out
       have hnc68 := NB516_515.out
       obtain ⟨hcz69_0, hcz69_1, hcz69_2, hfz69_0, hfz69_1, hfz69_2⟩ := zc3 BK515.out
       go_wp2_with (first | ((with_reducible refine gate_callee (f := 21) rfl ?_); refine goesL_ (some 36) rfl rfl Try.func21 (by kernel_rfl) rfl #[.agg #[.int .u64 a0_0, .int .u64 a0_1, .int .i64 a0_2], .agg #[.int .u64 a1_0, .int .u64 a1_1, .int .i64 a1_2]] rfl (by (try simp only [List.map_toArray, List.map_cons, List.map_nil]); first | done | rfl | (simp only [List.length_drop, List.length_take]; rfl)) ?_; (with_reducible refine (addr_Covers.calls kj5 a0_0 a0_1 a0_2 a1_0 a1_1 a1_2 false _ A41.out).mono ?_); rintro e w70 ⟨rfl, hb⟩; refine ⟨_, rfl, ?_⟩; have n0_ := Aside0.mk (zkB (by (with_reducible repeat (first | refine zkN ?_ _ | refine zk1 ?_ | refine zkA ?_ _)); exact BK514.out) hb); have n1_ := Aside0.mk (zkB (by (with_reducible repeat (first | refine zkN ?_ _ | refine zk1 ?_ | refine zkA ?_ _)); exact BK515.out) hb); have n2_ := Aside0.mk (zkB (by (with_reducible repeat (first | refine zkN ?_ _ | refine zk1 ?_ | refine zkA ?_ _)); exact BK516.out) hb); have n3_ := Aside0.mk (zbP (by repeat (first | (with_reducible first | exact HB.out | apply zbA | apply zbN | apply zb1 | refine zbS ?_ GE514.out | refine zbS ?_ GE515.out | refine zbS ?_ GE516.out) | exact HB.out)) hb); clear BK514; clear BK515; clear BK516; clear HB; have BK514 := n0_; have BK515 := n1_; have BK516 := n2_; have HB := n3_; clear n0_ n1_ n2_ n3_; (try clear hb); (try clear hb2); (try clear hk); (try clear hi)))
       go_meet
       case rel => exact ⟨_, (false), (by first | rfl | (simp; done) | (simp [*]; done)), H', ⟨by have := HJ5.out; first | omega | exact Nat.le_refl _⟩, ⟨by (with_reducible repeat (first | refine zkN ?_ _ | refine zk1 ?_ | refine zkA ?_ _)); exact BK514.out⟩, ⟨by (with_reducible repeat (first | refine zkN ?_ _ | refine zk1 ?_ | refine zkA ?_ _)); exact BK515.out⟩, ⟨by (with_reducible repeat (first | refine zkN ?_ _ | refine zk1 ?_ | refine zkA ?_ _)); exact BK516.out⟩, ⟨by repeat (first | (with_reducible first | exact HB.out | apply zbA | apply zbN | apply zb1 | refine zbS ?_ GE514.out | refine zbS ?_ GE515.out | refine zbS ?_ GE516.out) | exact HB.out)⟩⟩
     case rest =>
      clear HC40
      (try clear c1); (try clear c2); (try clear p2); (try clear c3); (try clear c4); (try clear c5); (try clear c6); (try clear c13); (try clear c21); (try clear c26); (try clear c26b0); (try clear c26b1); (try clear c26b2); (try clear c39); (try clear c42); (try clear c44); (try clear c45); (try clear c46); (try clear c48); (try clear c56); (try clear c57); (try clear c59); (try clear c65); (try clear c66); (try clear c68); (try clear hcz47_0 hcz47_1 hcz47_2 hfz47_0 hfz47_1 hfz47_2); (try clear hcz49_0 hcz49_1 hcz49_2 hfz49_0 hfz49_1 hfz49_2); (try clear hcz51_0 hcz51_1 hcz51_2 hfz51_0 hfz51_1 hfz51_2); (try clear hcz52_0 hcz52_1 hcz52_2 hfz52_0 hfz52_1 hfz52_2); (try clear hcz54_0 hcz54_1 hcz54_2 hfz54_0 hfz54_1 hfz54_2); (try clear hcz55_0 hcz55_1 hcz55_2 hfz55_0 hfz55_1 hfz55_2); (try clear hcz58_0 hcz58_1 hcz58_2 hfz58_0 hfz58_1 hfz58_2); (try clear hcz60_0 hcz60_1 hcz60_2 hfz60_0 hfz60_1 hfz60_2); (try clear hcz62_0 hcz62_1 hcz62_2 hfz62_0 hfz62_1 hfz62_2); (try clear hcz63_0 hcz63_1 hcz63_2 hfz63_0 hfz63_1 hfz63_2); (try clear hcz67_0 hcz67_1 hcz67_2 hfz67_0 hfz67_1 hfz67_2); (try clear hcz69_0 hcz69_1 hcz69_2 hfz69_0 hfz69_1 hfz69_2); (try clear p2)
      obtain ⟨kq, x46_39, rfl, HA, HJ39, BK514, BK515, BK516, HB⟩ := hcut
      cases kq with
      | zero => exact absurd HA.out (by simp [tenancylaw01_AddrNested.j1])
      | succ kj39 =>
       have H := HA.out
       clear HA
       simp only [tenancylaw01_AddrNested.j1] at H
       by_cases c71 : x46_39 = true
       ·subst c71
        have H1 : (none) = some r := by rw [if_pos rfl] at H; exact H
        clear H
        have H := H1
        clear H1
        exact absurd H (by simp)
       ·replace c71 := Bool.eq_false_iff.mpr c71
        subst c71
        have H1 : ((addr_Covers.f kj39 a0_0 a0_1 a0_2 a1_0 a1_1 a1_2).bind fun t527 => (if t527 = true then ((addr_Has.f kj39 a1_0 a1_1 a1_2 a2_0 a2_1).bind fun t528 => (if t528 = true then ((addr_Has.f kj39 a0_0 a0_1 a0_2 a2_0 a2_1).bind fun t529 => (if t529 = true then ((addr_Meets.f kj39 a0_0 a0_1 a0_2 a1_0 a1_1 a1_2).bind fun t530 => (if t530 = true then (tenancylaw01_AddrNested.j2 kj39 false a0_0 a0_1 a0_2 a2_0 a2_1) else ((addr_Has.f kj39 a0_0 a0_1 a0_2 a2_0 a2_1).bind fun t531 => (if t531 = true then ((addr_Has.f kj39 a1_0 a1_1 a1_2 a2_0 a2_1).bind fun t532 => (tenancylaw01_AddrNested.j2 kj39 t532 a0_0 a0_1 a0_2 a2_0 a2_1)) else (tenancylaw01_AddrNested.j2 kj39 false a0_0 a0_1 a0_2 a2_0 a2_1))))) else (tenancylaw01_AddrNested.j2 kj39 true a0_0 a0_1 a0_2 a2_0 a2_1))) else ((addr_Meets.f kj39 a0_0 a0_1 a0_2 a1_0 a1_1 a1_2).bind fun t533 => (if t533 = true then (tenancylaw01_AddrNested.j2 kj39 false a0_0 a0_1 a0_2 a2_0 a2_1) else ((addr_Has.f kj39 a0_0 a0_1 a0_2 a2_0 a2_1).bind fun t534 => (if t534 = true then ((addr_Has.f kj39 a1_0 a1_1 a1_2 a2_0 a2_1).bind fun t535 => (tenancylaw01_AddrNested.j2 kj39 t535 a0_0 a0_1 a0_2 a2_0 a2_1)) else (tenancylaw01_AddrNested.j2 kj39 false a0_0 a0_1 a0_2 a2_0 a2_1))))))) else ((addr_Meets.f kj39 a0_0 a0_1 a0_2 a1_0 a1_1 a1_2).bind fun t536 => (if t536 = true then (tenancylaw01_AddrNested.j2 kj39 false a0_0 a0_1 a0_2 a2_0 a2_1) else ((addr_Has.f kj39 a0_0 a0_1 a0_2 a2_0 a2_1).bind fun t537 => (if t537 = true then ((addr_Has.f kj39 a1_0 a1_1 a1_2 a2_0 a2_1).bind fun t538 => (tenancylaw01_AddrNested.j2 kj39 t538 a0_0 a0_1 a0_2 a2_0 a2_1)) else (tenancylaw01_AddrNested.j2 kj39 false a0_0 a0_1 a0_2 a2_0 a2_1))))))) = some r := by rw [if_neg (show ¬ (false = true) by decide)] at H; exact H
        clear H
        have H := H1
        clear H1
        have HC72 := Aside0.mk H
        clear H
        go_upto_region 7 with (fail)
        go_cut [76] (fun v76 wc => ∃ (kq : Nat) (x76_71 : Bool), v76 = .bool x76_71 ∧ Aside0 (tenancylaw01_AddrNested.j2 kq x76_71 a0_0 a0_1 a0_2 a2_0 a2_1 = some r) ∧ Aside0 (kq ≤ kj39) ∧ Aside0 (wc.heap[gb514]? = some (.cells #[.int .u64 a0_0, .int .u64 a0_1, .int .i64 a0_2] 33 (0, 0))) ∧ Aside0 (wc.heap[gb515]? = some (.cells #[.int .u64 a1_0, .int .u64 a1_1, .int .i64 a1_2] 33 (0, 0))) ∧ Aside0 (wc.heap[gb516]? = some (.cells #[.int .u64 a2_0, .int .u64 a2_1] 24 (0, 0))) ∧ Aside0 (Below w.heap.size w wc))
        case first =>
         have H := HC72.out
         clear HC72
         replace H := Option.bind_eq_some_iff.mp H
         obtain ⟨t527, A730, H⟩ := H
         replace H : (if t527 = true then ((addr_Has.f kj39 a1_0 a1_1 a1_2 a2_0 a2_1).bind fun t528 => (if t528 = true then ((addr_Has.f kj39 a0_0 a0_1 a0_2 a2_0 a2_1).bind fun t529 => (if t529 = true then ((addr_Meets.f kj39 a0_0 a0_1 a0_2 a1_0 a1_1 a1_2).bind fun t530 => (if t530 = true then (tenancylaw01_AddrNested.j2 kj39 false a0_0 a0_1 a0_2 a2_0 a2_1) else ((addr_Has.f kj39 a0_0 a0_1 a0_2 a2_0 a2_1).bind fun t531 => (if t531 = true then ((addr_Has.f kj39 a1_0 a1_1 a1_2 a2_0 a2_1).bind fun t532 => (tenancylaw01_AddrNested.j2 kj39 t532 a0_0 a0_1 a0_2 a2_0 a2_1)) else (tenancylaw01_AddrNested.j2 kj39 false a0_0 a0_1 a0_2 a2_0 a2_1))))) else (tenancylaw01_AddrNested.j2 kj39 true a0_0 a0_1 a0_2 a2_0 a2_1))) else ((addr_Meets.f kj39 a0_0 a0_1 a0_2 a1_0 a1_1 a1_2).bind fun t533 => (if t533 = true then (tenancylaw01_AddrNested.j2 kj39 false a0_0 a0_1 a0_2 a2_0 a2_1) else ((addr_Has.f kj39 a0_0 a0_1 a0_2 a2_0 a2_1).bind fun t534 => (if t534 = true then ((addr_Has.f kj39 a1_0 a1_1 a1_2 a2_0 a2_1).bind fun t535 => (tenancylaw01_AddrNested.j2 kj39 t535 a0_0 a0_1 a0_2 a2_0 a2_1)) else (tenancylaw01_AddrNested.j2 kj39 false a0_0 a0_1 a0_2 a2_0 a2_1))))))) else ((addr_Meets.f kj39 a0_0 a0_1 a0_2 a1_0 a1_1 a1_2).bind fun t536 => (if t536 = true then (tenancylaw01_AddrNested.j2 kj39 false a0_0 a0_1 a0_2 a2_0 a2_1) else ((addr_Has.f kj39 a0_0 a0_1 a0_2 a2_0 a2_1).bind fun t537 => (if t537 = true then ((addr_Has.f kj39 a1_0 a1_1 a1_2 a2_0 a2_1).bind fun t538 => (tenancylaw01_AddrNested.j2 kj39 t538 a0_0 a0_1 a0_2 a2_0 a2_1)) else (tenancylaw01_AddrNested.j2 kj39 false a0_0 a0_1 a0_2 a2_0 a2_1)))))) = some r := H
         have A73 := Aside0.mk A730
         clear A730
         by_cases c74 : t527 = true
         ·subst c74
          have H1 : ((addr_Has.f kj39 a1_0 a1_1 a1_2 a2_0 a2_1).bind fun t528 => (if t528 = true then ((addr_Has.f kj39 a0_0 a0_1 a0_2 a2_0 a2_1).bind fun t529 => (if t529 = true then ((addr_Meets.f kj39 a0_0 a0_1 a0_2 a1_0 a1_1 a1_2).bind fun t530 => (if t530 = true then (tenancylaw01_AddrNested.j2 kj39 false a0_0 a0_1 a0_2 a2_0 a2_1) else ((addr_Has.f kj39 a0_0 a0_1 a0_2 a2_0 a2_1).bind fun t531 => (if t531 = true then ((addr_Has.f kj39 a1_0 a1_1 a1_2 a2_0 a2_1).bind fun t532 => (tenancylaw01_AddrNested.j2 kj39 t532 a0_0 a0_1 a0_2 a2_0 a2_1)) else (tenancylaw01_AddrNested.j2 kj39 false a0_0 a0_1 a0_2 a2_0 a2_1))))) else (tenancylaw01_AddrNested.j2 kj39 true a0_0 a0_1 a0_2 a2_0 a2_1))) else ((addr_Meets.f kj39 a0_0 a0_1 a0_2 a1_0 a1_1 a1_2).bind fun t533 => (if t533 = true then (tenancylaw01_AddrNested.j2 kj39 false a0_0 a0_1 a0_2 a2_0 a2_1) else ((addr_Has.f kj39 a0_0 a0_1 a0_2 a2_0 a2_1).bind fun t534 => (if t534 = true then ((addr_Has.f kj39 a1_0 a1_1 a1_2 a2_0 a2_1).bind fun t535 => (tenancylaw01_AddrNested.j2 kj39 t535 a0_0 a0_1 a0_2 a2_0 a2_1)) else (tenancylaw01_AddrNested.j2 kj39 false a0_0 a0_1 a0_2 a2_0 a2_1))))))) = some r := by rw [if_pos rfl] at H; exact H
          clear H
          have H := H1
          clear H1
          replace H := Option.bind_eq_some_iff.mp H
          obtain ⟨t528, A750, H⟩ := H
          replace H : (if t528 = true then ((addr_Has.f kj39 a0_0 a0_1 a0_2 a2_0 a2_1).bind fun t529 => (if t529 = true then ((addr_Meets.f kj39 a0_0 a0_1 a0_2 a1_0 a1_1 a1_2).bind fun t530 => (if t530 = true then (tenancylaw01_AddrNested.j2 kj39 false a0_0 a0_1 a0_2 a2_0 a2_1) else ((addr_Has.f kj39 a0_0 a0_1 a0_2 a2_0 a2_1).bind fun t531 => (if t531 = true then ((addr_Has.f kj39 a1_0 a1_1 a1_2 a2_0 a2_1).bind fun t532 => (tenancylaw01_AddrNested.j2 kj39 t532 a0_0 a0_1 a0_2 a2_0 a2_1)) else (tenancylaw01_AddrNested.j2 kj39 false a0_0 a0_1 a0_2 a2_0 a2_1))))) else (tenancylaw01_AddrNested.j2 kj39 true a0_0 a0_1 a0_2 a2_0 a2_1))) else ((addr_Meets.f kj39 a0_0 a0_1 a0_2 a1_0 a1_1 a1_2).bind fun t533 => (if t533 = true then (tenancylaw01_AddrNested.j2 kj39 false a0_0 a0_1 a0_2 a2_0 a2_1) else ((addr_Has.f kj39 a0_0 a0_1 a0_2 a2_0 a2_1).bind fun t534 => (if t534 = true then ((addr_Has.f kj39 a1_0 a1_1 a1_2 a2_0 a2_1).bind fun t535 => (tenancylaw01_AddrNested.j2 kj39 t535 a0_0 a0_1 a0_2 a2_0 a2_1)) else (tenancylaw01_AddrNested.j2 kj39 false a0_0 a0_1 a0_2 a2_0 a2_1)))))) = some r := H
          have A75 := Aside0.mk A750
          clear A750
          by_cases c76 : t528 = true
          ·subst c76
           have H1 : ((addr_Has.f kj39 a0_0 a0_1 a0_2 a2_0 a2_1).bind fun t529 => (if t529 = true then ((addr_Meets.f kj39 a0_0 a0_1 a0_2 a1_0 a1_1 a1_2).bind fun t530 => (if t530 = true then (tenancylaw01_AddrNested.j2 kj39 false a0_0 a0_1 a0_2 a2_0 a2_1) else ((addr_Has.f kj39 a0_0 a0_1 a0_2 a2_0 a2_1).bind fun t531 => (if t531 = true then ((addr_Has.f kj39 a1_0 a1_1 a1_2 a2_0 a2_1).bind fun t532 => (tenancylaw01_AddrNested.j2 kj39 t532 a0_0 a0_1 a0_2 a2_0 a2_1)) else (tenancylaw01_AddrNested.j2 kj39 false a0_0 a0_1 a0_2 a2_0 a2_1))))) else (tenancylaw01_AddrNested.j2 kj39 true a0_0 a0_1 a0_2 a2_0 a2_1))) = some r := by rw [if_pos rfl] at H; exact H
           clear H
           have H := H1
           clear H1
           replace H := Option.bind_eq_some_iff.mp H
           obtain ⟨t529, A770, H⟩ := H
           replace H : (if t529 = true then ((addr_Meets.f kj39 a0_0 a0_1 a0_2 a1_0 a1_1 a1_2).bind fun t530 => (if t530 = true then (tenancylaw01_AddrNested.j2 kj39 false a0_0 a0_1 a0_2 a2_0 a2_1) else ((addr_Has.f kj39 a0_0 a0_1 a0_2 a2_0 a2_1).bind fun t531 => (if t531 = true then ((addr_Has.f kj39 a1_0 a1_1 a1_2 a2_0 a2_1).bind fun t532 => (tenancylaw01_AddrNested.j2 kj39 t532 a0_0 a0_1 a0_2 a2_0 a2_1)) else (tenancylaw01_AddrNested.j2 kj39 false a0_0 a0_1 a0_2 a2_0 a2_1))))) else (tenancylaw01_AddrNested.j2 kj39 true a0_0 a0_1 a0_2 a2_0 a2_1)) = some r := H
           have A77 := Aside0.mk A770
           clear A770
           by_cases c78 : t529 = true
           ·subst c78
            have H1 : ((addr_Meets.f kj39 a0_0 a0_1 a0_2 a1_0 a1_1 a1_2).bind fun t530 => (if t530 = true then (tenancylaw01_AddrNested.j2 kj39 false a0_0 a0_1 a0_2 a2_0 a2_1) else ((addr_Has.f kj39 a0_0 a0_1 a0_2 a2_0 a2_1).bind fun t531 => (if t531 = true then ((addr_Has.f kj39 a1_0 a1_1 a1_2 a2_0 a2_1).bind fun t532 => (tenancylaw01_AddrNested.j2 kj39 t532 a0_0 a0_1 a0_2 a2_0 a2_1)) else (tenancylaw01_AddrNested.j2 kj39 false a0_0 a0_1 a0_2 a2_0 a2_1))))) = some r := by rw [if_pos rfl] at H; exact H
            clear H
            have H := H1
            clear H1
            replace H := Option.bind_eq_some_iff.mp H
            obtain ⟨t530, A790, H⟩ := H
            replace H : (if t530 = true then (tenancylaw01_AddrNested.j2 kj39 false a0_0 a0_1 a0_2 a2_0 a2_1) else ((addr_Has.f kj39 a0_0 a0_1 a0_2 a2_0 a2_1).bind fun t531 => (if t531 = true then ((addr_Has.f kj39 a1_0 a1_1 a1_2 a2_0 a2_1).bind fun t532 => (tenancylaw01_AddrNested.j2 kj39 t532 a0_0 a0_1 a0_2 a2_0 a2_1)) else (tenancylaw01_AddrNested.j2 kj39 false a0_0 a0_1 a0_2 a2_0 a2_1)))) = some r := H
            have A79 := Aside0.mk A790
            clear A790
            by_cases c80 : t530 = true
            ·subst c80
             have H1 : (tenancylaw01_AddrNested.j2 kj39 false a0_0 a0_1 a0_2 a2_0 a2_1) = some r := by rw [if_pos rfl] at H; exact H
             clear H
             have H := H1
             clear H1
             have H' := Aside0.mk H
             clear H
             have hnb81 := NB514_515.out
             have hnc81 := NB515_514.out
             have hnb82 := NB514_516.out
             have hnc82 := NB516_514.out
             obtain ⟨hcz83_0, hcz83_1, hcz83_2, hfz83_0, hfz83_1, hfz83_2⟩ := zc3 BK514.out
             have hnb84 := NB515_516.out
             have hnc84 := NB516_515.out
             obtain ⟨hcz85_0, hcz85_1, hcz85_2, hfz85_0, hfz85_1, hfz85_2⟩ := zc3 BK515.out
             go_wp2_with (first | ((with_reducible refine gate_callee (f := 21) rfl ?_); refine goesL_ (some 49) rfl rfl Try.func21 (by kernel_rfl) rfl #[.agg #[.int .u64 a0_0, .int .u64 a0_1, .int .i64 a0_2], .agg #[.int .u64 a1_0, .int .u64 a1_1, .int .i64 a1_2]] rfl (by (try simp only [List.map_toArray, List.map_cons, List.map_nil]); first | done | rfl | (simp only [List.length_drop, List.length_take]; rfl)) ?_; (with_reducible refine (addr_Covers.calls kj39 a0_0 a0_1 a0_2 a1_0 a1_1 a1_2 true _ A73.out).mono ?_); rintro e w86 ⟨rfl, hb⟩; refine ⟨_, rfl, ?_⟩; have n0_ := Aside0.mk (zkB (by (with_reducible repeat (first | refine zkN ?_ _ | refine zk1 ?_ | refine zkA ?_ _)); exact BK514.out) hb); have n1_ := Aside0.mk (zkB (by (with_reducible repeat (first | refine zkN ?_ _ | refine zk1 ?_ | refine zkA ?_ _)); exact BK515.out) hb); have n2_ := Aside0.mk (zkB (by (with_reducible repeat (first | refine zkN ?_ _ | refine zk1 ?_ | refine zkA ?_ _)); exact BK516.out) hb); have n3_ := Aside0.mk (zbP (by repeat (first | (with_reducible first | exact HB.out | apply zbA | apply zbN | apply zb1 | refine zbS ?_ GE514.out | refine zbS ?_ GE515.out | refine zbS ?_ GE516.out) | exact HB.out)) hb); clear BK514; clear BK515; clear BK516; clear HB; have BK514 := n0_; have BK515 := n1_; have BK516 := n2_; have HB := n3_; clear n0_ n1_ n2_ n3_; (try clear hb); (try clear hb2); (try clear hk); (try clear hi); obtain ⟨hcz87_0, hcz87_1, hcz87_2, hfz87_0, hfz87_1, hfz87_2⟩ := zc3 BK515.out; obtain ⟨hcz88_0, hcz88_1, hfz88_0, hfz88_1⟩ := zc2 BK516.out) | (go_at_call 20; (with_reducible refine (addr_Has.calls kj39 a1_0 a1_1 a1_2 a2_0 a2_1 true _ A75.out).mono ?_); rintro e w89 ⟨rfl, hb⟩; have n0_ := Aside0.mk (zkB (by (with_reducible repeat (first | refine zkN ?_ _ | refine zk1 ?_ | refine zkA ?_ _)); exact BK514.out) hb); have n1_ := Aside0.mk (zkB (by (with_reducible repeat (first | refine zkN ?_ _ | refine zk1 ?_ | refine zkA ?_ _)); exact BK515.out) hb); have n2_ := Aside0.mk (zkB (by (with_reducible repeat (first | refine zkN ?_ _ | refine zk1 ?_ | refine zkA ?_ _)); exact BK516.out) hb); have n3_ := Aside0.mk (zbP (by repeat (first | (with_reducible first | exact HB.out | apply zbA | apply zbN | apply zb1 | refine zbS ?_ GE514.out | refine zbS ?_ GE515.out | refine zbS ?_ GE516.out) | exact HB.out)) hb); clear BK514; clear BK515; clear BK516; clear HB; have BK514 := n0_; have BK515 := n1_; have BK516 := n2_; have HB := n3_; clear n0_ n1_ n2_ n3_; (try clear hb); (try clear hb2); (try clear hk); (try clear hi); obtain ⟨hcz90_0, hcz90_1, hcz90_2, hfz90_0, hfz90_1, hfz90_2⟩ := zc3 BK514.out; obtain ⟨hcz91_0, hcz91_1, hfz91_0, hfz91_1⟩ := zc2 BK516.out) | (go_at_call 20; (with_reducible refine (addr_Has.calls kj39 a0_0 a0_1 a0_2 a2_0 a2_1 true _ A77.out).mono ?_); rintro e w92 ⟨rfl, hb⟩; have n0_ := Aside0.mk (zkB (by (with_reducible repeat (first | refine zkN ?_ _ | refine zk1 ?_ | refine zkA ?_ _)); exact BK514.out) hb); have n1_ := Aside0.mk (zkB (by (with_reducible repeat (first | refine zkN ?_ _ | refine zk1 ?_ | refine zkA ?_ _)); exact BK515.out) hb); have n2_ := Aside0.mk (zkB (by (with_reducible repeat (first | refine zkN ?_ _ | refine zk1 ?_ | refine zkA ?_ _)); exact BK516.out) hb); have n3_ := Aside0.mk (zbP (by repeat (first | (with_reducible first | exact HB.out | apply zbA | apply zbN | apply zb1 | refine zbS ?_ GE514.out | refine zbS ?_ GE515.out | refine zbS ?_ GE516.out) | exact HB.out)) hb); clear BK514; clear BK515; clear BK516; clear HB; have BK514 := n0_; have BK515 := n1_; have BK516 := n2_; have HB := n3_; clear n0_ n1_ n2_ n3_; (try clear hb); (try clear hb2); (try clear hk); (try clear hi); obtain ⟨hcz93_0, hcz93_1, hcz93_2, hfz93_0, hfz93_1, hfz93_2⟩ := zc3 BK514.out; obtain ⟨hcz94_0, hcz94_1, hcz94_2, hfz94_0, hfz94_1, hfz94_2⟩ := zc3 BK515.out) | (go_at_call 39; (with_reducible refine (addr_Meets.calls kj39 a0_0 a0_1 a0_2 a1_0 a1_1 a1_2 true _ A79.out).mono ?_); rintro e w95 ⟨rfl, hb⟩; have n0_ := Aside0.mk (zkB (by (with_reducible repeat (first | refine zkN ?_ _ | refine zk1 ?_ | refine zkA ?_ _)); exact BK514.out) hb); have n1_ := Aside0.mk (zkB (by (with_reducible repeat (first | refine zkN ?_ _ | refine zk1 ?_ | refine zkA ?_ _)); exact BK515.out) hb); have n2_ := Aside0.mk (zkB (by (with_reducible repeat (first | refine zkN ?_ _ | refine zk1 ?_ | refine zkA ?_ _)); exact BK516.out) hb); have n3_ := Aside0.mk (zbP (by repeat (first | (with_reducible first | exact HB.out | apply zbA | apply zbN | apply zb1 | refine zbS ?_ GE514.out | refine zbS ?_ GE515.out | refine zbS ?_ GE516.out) | exact HB.out)) hb); clear BK514; clear BK515; clear BK516; clear HB; have BK514 := n0_; have BK515 := n1_; have BK516 := n2_; have HB := n3_; clear n0_ n1_ n2_ n3_; (try clear hb); (try clear hb2); (try clear hk); (try clear hi)))
             go_meet
             case rel => exact ⟨_, (false), (by first | rfl | (simp; done) | (simp [*]; done)), H', ⟨by have := HJ5.out; have := HJ39.out; first | omega | exact Nat.le_refl _⟩, ⟨by (with_reducible repeat (first | refine zkN ?_ _ | refine zk1 ?_ | refine zkA ?_ _)); exact BK514.out⟩, ⟨by (with_reducible repeat (first | refine zkN ?_ _ | refine zk1 ?_ | refine zkA ?_ _)); exact BK515.out⟩, ⟨by (with_reducible repeat (first | refine zkN ?_ _ | refine zk1 ?_ | refine zkA ?_ _)); exact BK516.out⟩, ⟨by repeat (first | (with_reducible first | exact HB.out | apply zbA | apply zbN | apply zb1 | refine zbS ?_ GE514.out | refine zbS ?_ GE515.out | refine zbS ?_ GE516.out) | exact HB.out)⟩⟩
            ·replace c80 := Bool.eq_false_iff.mpr c80
             subst c80
             have H1 : ((addr_Has.f kj39 a0_0 a0_1 a0_2 a2_0 a2_1).bind fun t531 => (if t531 = true then ((addr_Has.f kj39 a1_0 a1_1 a1_2 a2_0 a2_1).bind fun t532 => (tenancylaw01_AddrNested.j2 kj39 t532 a0_0 a0_1 a0_2 a2_0 a2_1)) else (tenancylaw01_AddrNested.j2 kj39 false a0_0 a0_1 a0_2 a2_0 a2_1))) = some r := by rw [if_neg (show ¬ (false = true) by decide)] at H; exact H
             clear H
             have H := H1
             clear H1
             replace H := Option.bind_eq_some_iff.mp H
             obtain ⟨t531, A960, H⟩ := H
             replace H : (if t531 = true then ((addr_Has.f kj39 a1_0 a1_1 a1_2 a2_0 a2_1).bind fun t532 => (tenancylaw01_AddrNested.j2 kj39 t532 a0_0 a0_1 a0_2 a2_0 a2_1)) else (tenancylaw01_AddrNested.j2 kj39 false a0_0 a0_1 a0_2 a2_0 a2_1)) = some r := H
             have A96 := Aside0.mk A960
             clear A960
             by_cases c97 : t531 = true
             ·subst c97
              have H1 : ((addr_Has.f kj39 a1_0 a1_1 a1_2 a2_0 a2_1).bind fun t532 => (tenancylaw01_AddrNested.j2 kj39 t532 a0_0 a0_1 a0_2 a2_0 a2_1)) = some r := by rw [if_pos rfl] at H; exact H
              clear H
              have H := H1
              clear H1
              replace H := Option.bind_eq_some_iff.mp H
              obtain ⟨t532, A980, H⟩ := H
              replace H : (tenancylaw01_AddrNested.j2 kj39 t532 a0_0 a0_1 a0_2 a2_0 a2_1) = some r := H
              have A98 := Aside0.mk A980
              clear A980
              have H' := Aside0.mk H
              clear H
              have hnb99 := NB514_515.out
              have hnc99 := NB515_514.out
              have hnb100 := NB514_516.out
              have hnc100 := NB516_514.out
              obtain ⟨hcz101_0, hcz101_1, hcz101_2, hfz101_0, hfz101_1, hfz101_2⟩ := zc3 BK514.out
              have hnb102 := NB515_516.out
              have hnc102 := NB516_515.out
              obtain ⟨hcz103_0, hcz103_1, hcz103_2, hfz103_0, hfz103_1, hfz103_2⟩ := zc3 BK515.out
              obtain rfl : t532 = true := Option.some.inj (A98.out.symm.trans A75.out)
              go_wp2_with (first | ((with_reducible refine gate_callee (f := 21) rfl ?_); refine goesL_ (some 49) rfl rfl Try.func21 (by kernel_rfl) rfl #[.agg #[.int .u64 a0_0, .int .u64 a0_1, .int .i64 a0_2], .agg #[.int .u64 a1_0, .int .u64 a1_1, .int .i64 a1_2]] rfl (by (try simp only [List.map_toArray, List.map_cons, List.map_nil]); first | done | rfl | (simp only [List.length_drop, List.length_take]; rfl)) ?_; (with_reducible refine (addr_Covers.calls kj39 a0_0 a0_1 a0_2 a1_0 a1_1 a1_2 true _ A73.out).mono ?_); rintro e w104 ⟨rfl, hb⟩; refine ⟨_, rfl, ?_⟩; have n0_ := Aside0.mk (zkB (by (with_reducible repeat (first | refine zkN ?_ _ | refine zk1 ?_ | refine zkA ?_ _)); exact BK514.out) hb); have n1_ := Aside0.mk (zkB (by (with_reducible repeat (first | refine zkN ?_ _ | refine zk1 ?_ | refine zkA ?_ _)); exact BK515.out) hb); have n2_ := Aside0.mk (zkB (by (with_reducible repeat (first | refine zkN ?_ _ | refine zk1 ?_ | refine zkA ?_ _)); exact BK516.out) hb); have n3_ := Aside0.mk (zbP (by repeat (first | (with_reducible first | exact HB.out | apply zbA | apply zbN | apply zb1 | refine zbS ?_ GE514.out | refine zbS ?_ GE515.out | refine zbS ?_ GE516.out) | exact HB.out)) hb); clear BK514; clear BK515; clear BK516; clear HB; have BK514 := n0_; have BK515 := n1_; have BK516 := n2_; have HB := n3_; clear n0_ n1_ n2_ n3_; (try clear hb); (try clear hb2); (try clear hk); (try clear hi); obtain ⟨hcz105_0, hcz105_1, hcz105_2, hfz105_0, hfz105_1, hfz105_2⟩ := zc3 BK515.out; obtain ⟨hcz106_0, hcz106_1, hfz106_0, hfz106_1⟩ := zc2 BK516.out) | (go_at_call 20; (with_reducible refine (addr_Has.calls kj39 a1_0 a1_1 a1_2 a2_0 a2_1 true _ A75.out).mono ?_); rintro e w107 ⟨rfl, hb⟩; have n0_ := Aside0.mk (zkB (by (with_reducible repeat (first | refine zkN ?_ _ | refine zk1 ?_ | refine zkA ?_ _)); exact BK514.out) hb); have n1_ := Aside0.mk (zkB (by (with_reducible repeat (first | refine zkN ?_ _ | refine zk1 ?_ | refine zkA ?_ _)); exact BK515.out) hb); have n2_ := Aside0.mk (zkB (by (with_reducible repeat (first | refine zkN ?_ _ | refine zk1 ?_ | refine zkA ?_ _)); exact BK516.out) hb); have n3_ := Aside0.mk (zbP (by repeat (first | (with_reducible first | exact HB.out | apply zbA | apply zbN | apply zb1 | refine zbS ?_ GE514.out | refine zbS ?_ GE515.out | refine zbS ?_ GE516.out) | exact HB.out)) hb); clear BK514; clear BK515; clear BK516; clear HB; have BK514 := n0_; have BK515 := n1_; have BK516 := n2_; have HB := n3_; clear n0_ n1_ n2_ n3_; (try clear hb); (try clear hb2); (try clear hk); (try clear hi); obtain ⟨hcz108_0, hcz108_1, hcz108_2, hfz108_0, hfz108_1, hfz108_2⟩ := zc3 BK514.out; obtain ⟨hcz109_0, hcz109_1, hfz109_0, hfz109_1⟩ := zc2 BK516.out) | (go_at_call 20; (with_reducible refine (addr_Has.calls kj39 a0_0 a0_1 a0_2 a2_0 a2_1 true _ A77.out).mono ?_); rintro e w110 ⟨rfl, hb⟩; have n0_ := Aside0.mk (zkB (by (with_reducible repeat (first | refine zkN ?_ _ | refine zk1 ?_ | refine zkA ?_ _)); exact BK514.out) hb); have n1_ := Aside0.mk (zkB (by (with_reducible repeat (first | refine zkN ?_ _ | refine zk1 ?_ | refine zkA ?_ _)); exact BK515.out) hb); have n2_ := Aside0.mk (zkB (by (with_reducible repeat (first | refine zkN ?_ _ | refine zk1 ?_ | refine zkA ?_ _)); exact BK516.out) hb); have n3_ := Aside0.mk (zbP (by repeat (first | (with_reducible first | exact HB.out | apply zbA | apply zbN | apply zb1 | refine zbS ?_ GE514.out | refine zbS ?_ GE515.out | refine zbS ?_ GE516.out) | exact HB.out)) hb); clear BK514; clear BK515; clear BK516; clear HB; have BK514 := n0_; have BK515 := n1_; have BK516 := n2_; have HB := n3_; clear n0_ n1_ n2_ n3_; (try clear hb); (try clear hb2); (try clear hk); (try clear hi); obtain ⟨hcz111_0, hcz111_1, hcz111_2, hfz111_0, hfz111_1, hfz111_2⟩ := zc3 BK514.out; obtain ⟨hcz112_0, hcz112_1, hcz112_2, hfz112_0, hfz112_1, hfz112_2⟩ := zc3 BK515.out; obtain ⟨hcz118_0, hcz118_1, hfz118_0, hfz118_1⟩ := zc2 BK516.out) | (go_at_call 39; (with_reducible refine (addr_Meets.calls kj39 a0_0 a0_1 a0_2 a1_0 a1_1 a1_2 false _ A79.out).mono ?_); rintro e w113 ⟨rfl, hb⟩; have n0_ := Aside0.mk (zkB (by (with_reducible repeat (first | refine zkN ?_ _ | refine zk1 ?_ | refine zkA ?_ _)); exact BK514.out) hb); have n1_ := Aside0.mk (zkB (by (with_reducible repeat (first | refine zkN ?_ _ | refine zk1 ?_ | refine zkA ?_ _)); exact BK515.out) hb); have n2_ := Aside0.mk (zkB (by (with_reducible repeat (first | refine zkN ?_ _ | refine zk1 ?_ | refine zkA ?_ _)); exact BK516.out) hb); have n3_ := Aside0.mk (zbP (by repeat (first | (with_reducible first | exact HB.out | apply zbA | apply zbN | apply zb1 | refine zbS ?_ GE514.out | refine zbS ?_ GE515.out | refine zbS ?_ GE516.out) | exact HB.out)) hb); clear BK514; clear BK515; clear BK516; clear HB; have BK514 := n0_; have BK515 := n1_; have BK516 := n2_; have HB := n3_; clear n0_ n1_ n2_ n3_; (try clear hb); (try clear hb2); (try clear hk); (try clear hi); obtain ⟨hcz114_0, hcz114_1, hcz114_2, hfz114_0, hfz114_1, hfz114_2⟩ := zc3 BK514.out; obtain ⟨hcz115_0, hcz115_1, hfz115_0, hfz115_1⟩ := zc2 BK516.out))
              go_meet
              case rel => exact ⟨_, (true), (by first | rfl | (simp; done) | (simp [*]; done)), H', ⟨by have := HJ5.out; have := HJ39.out; first | omega | exact Nat.le_refl _⟩, ⟨by (with_reducible repeat (first | refine zkN ?_ _ | refine zk1 ?_ | refine zkA ?_ _)); exact BK514.out⟩, ⟨by (with_reducible repeat (first | refine zkN ?_ _ | refine zk1 ?_ | refine zkA ?_ _)); exact BK515.out⟩, ⟨by (with_reducible repeat (first | refine zkN ?_ _ | refine zk1 ?_ | refine zkA ?_ _)); exact BK516.out⟩, ⟨by repeat (first | (with_reducible first | exact HB.out | apply zbA | apply zbN | apply zb1 | refine zbS ?_ GE514.out | refine zbS ?_ GE515.out | refine zbS ?_ GE516.out) | exact HB.out)⟩⟩
             ·replace c97 := Bool.eq_false_iff.mpr c97
              subst c97
              have H1 : (tenancylaw01_AddrNested.j2 kj39 false a0_0 a0_1 a0_2 a2_0 a2_1) = some r := by rw [if_neg (show ¬ (false = true) by decide)] at H; exact H
              clear H
              have H := H1
              clear H1
              have H' := Aside0.mk H
              clear H
              have hnb120 := NB514_515.out
              have hnc120 := NB515_514.out
              have hnb121 := NB514_516.out
              have hnc121 := NB516_514.out
              obtain ⟨hcz122_0, hcz122_1, hcz122_2, hfz122_0, hfz122_1, hfz122_2⟩ := zc3 BK514.out
              have hnb123 := NB515_516.out
              have hnc123 := NB516_515.out
              obtain ⟨hcz124_0, hcz124_1, hcz124_2, hfz124_0, hfz124_1, hfz124_2⟩ := zc3 BK515.out
              exact absurd (Option.some.inj (A77.out.symm.trans A96.out)) (by decide)
           ·replace c78 := Bool.eq_false_iff.mpr c78
            subst c78
            have H1 : (tenancylaw01_AddrNested.j2 kj39 true a0_0 a0_1 a0_2 a2_0 a2_1) = some r := by rw [if_neg (show ¬ (false = true) by decide)] at H; exact H
            clear H
            have H := H1
            clear H1
            have H' := Aside0.mk H
            clear H
            have hnb138 := NB514_515.out
            have hnc138 := NB515_514.out
            have hnb139 := NB514_516.out
            have hnc139 := NB516_514.out
            obtain ⟨hcz140_0, hcz140_1, hcz140_2, hfz140_0, hfz140_1, hfz140_2⟩ := zc3 BK514.out
            have hnb141 := NB515_516.out
            have hnc141 := NB516_515.out
            obtain ⟨hcz142_0, hcz142_1, hcz142_2, hfz142_0, hfz142_1, hfz142_2⟩ := zc3 BK515.out
            go_wp2_with (first | ((with_reducible refine gate_callee (f := 21) rfl ?_); refine goesL_ (some 49) rfl rfl Try.func21 (by kernel_rfl) rfl #[.agg #[.int .u64 a0_0, .int .u64 a0_1, .int .i64 a0_2], .agg #[.int .u64 a1_0, .int .u64 a1_1, .int .i64 a1_2]] rfl (by (try simp only [List.map_toArray, List.map_cons, List.map_nil]); first | done | rfl | (simp only [List.length_drop, List.length_take]; rfl)) ?_; (with_reducible refine (addr_Covers.calls kj39 a0_0 a0_1 a0_2 a1_0 a1_1 a1_2 true _ A73.out).mono ?_); rintro e w143 ⟨rfl, hb⟩; refine ⟨_, rfl, ?_⟩; have n0_ := Aside0.mk (zkB (by (with_reducible repeat (first | refine zkN ?_ _ | refine zk1 ?_ | refine zkA ?_ _)); exact BK514.out) hb); have n1_ := Aside0.mk (zkB (by (with_reducible repeat (first | refine zkN ?_ _ | refine zk1 ?_ | refine zkA ?_ _)); exact BK515.out) hb); have n2_ := Aside0.mk (zkB (by (with_reducible repeat (first | refine zkN ?_ _ | refine zk1 ?_ | refine zkA ?_ _)); exact BK516.out) hb); have n3_ := Aside0.mk (zbP (by repeat (first | (with_reducible first | exact HB.out | apply zbA | apply zbN | apply zb1 | refine zbS ?_ GE514.out | refine zbS ?_ GE515.out | refine zbS ?_ GE516.out) | exact HB.out)) hb); clear BK514; clear BK515; clear BK516; clear HB; have BK514 := n0_; have BK515 := n1_; have BK516 := n2_; have HB := n3_; clear n0_ n1_ n2_ n3_; (try clear hb); (try clear hb2); (try clear hk); (try clear hi); obtain ⟨hcz144_0, hcz144_1, hcz144_2, hfz144_0, hfz144_1, hfz144_2⟩ := zc3 BK515.out; obtain ⟨hcz145_0, hcz145_1, hfz145_0, hfz145_1⟩ := zc2 BK516.out) | (go_at_call 20; (with_reducible refine (addr_Has.calls kj39 a1_0 a1_1 a1_2 a2_0 a2_1 true _ A75.out).mono ?_); rintro e w146 ⟨rfl, hb⟩; have n0_ := Aside0.mk (zkB (by (with_reducible repeat (first | refine zkN ?_ _ | refine zk1 ?_ | refine zkA ?_ _)); exact BK514.out) hb); have n1_ := Aside0.mk (zkB (by (with_reducible repeat (first | refine zkN ?_ _ | refine zk1 ?_ | refine zkA ?_ _)); exact BK515.out) hb); have n2_ := Aside0.mk (zkB (by (with_reducible repeat (first | refine zkN ?_ _ | refine zk1 ?_ | refine zkA ?_ _)); exact BK516.out) hb); have n3_ := Aside0.mk (zbP (by repeat (first | (with_reducible first | exact HB.out | apply zbA | apply zbN | apply zb1 | refine zbS ?_ GE514.out | refine zbS ?_ GE515.out | refine zbS ?_ GE516.out) | exact HB.out)) hb); clear BK514; clear BK515; clear BK516; clear HB; have BK514 := n0_; have BK515 := n1_; have BK516 := n2_; have HB := n3_; clear n0_ n1_ n2_ n3_; (try clear hb); (try clear hb2); (try clear hk); (try clear hi); obtain ⟨hcz147_0, hcz147_1, hcz147_2, hfz147_0, hfz147_1, hfz147_2⟩ := zc3 BK514.out; obtain ⟨hcz148_0, hcz148_1, hfz148_0, hfz148_1⟩ := zc2 BK516.out) | (go_at_call 20; (with_reducible refine (addr_Has.calls kj39 a0_0 a0_1 a0_2 a2_0 a2_1 false _ A77.out).mono ?_); rintro e w149 ⟨rfl, hb⟩; have n0_ := Aside0.mk (zkB (by (with_reducible repeat (first | refine zkN ?_ _ | refine zk1 ?_ | refine zkA ?_ _)); exact BK514.out) hb); have n1_ := Aside0.mk (zkB (by (with_reducible repeat (first | refine zkN ?_ _ | refine zk1 ?_ | refine zkA ?_ _)); exact BK515.out) hb); have n2_ := Aside0.mk (zkB (by (with_reducible repeat (first | refine zkN ?_ _ | refine zk1 ?_ | refine zkA ?_ _)); exact BK516.out) hb); have n3_ := Aside0.mk (zbP (by repeat (first | (with_reducible first | exact HB.out | apply zbA | apply zbN | apply zb1 | refine zbS ?_ GE514.out | refine zbS ?_ GE515.out | refine zbS ?_ GE516.out) | exact HB.out)) hb); clear BK514; clear BK515; clear BK516; clear HB; have BK514 := n0_; have BK515 := n1_; have BK516 := n2_; have HB := n3_; clear n0_ n1_ n2_ n3_; (try clear hb); (try clear hb2); (try clear hk); (try clear hi)))
            go_meet
            case rel => exact ⟨_, (true), (by first | rfl | (simp; done) | (simp [*]; done)), H', ⟨by have := HJ5.out; have := HJ39.out; first | omega | exact Nat.le_refl _⟩, ⟨by (with_reducible repeat (first | refine zkN ?_ _ | refine zk1 ?_ | refine zkA ?_ _)); exact BK514.out⟩, ⟨by (with_reducible repeat (first | refine zkN ?_ _ | refine zk1 ?_ | refine zkA ?_ _)); exact BK515.out⟩, ⟨by (with_reducible repeat (first | refine zkN ?_ _ | refine zk1 ?_ | refine zkA ?_ _)); exact BK516.out⟩, ⟨by repeat (first | (with_reducible first | exact HB.out | apply zbA | apply zbN | apply zb1 | refine zbS ?_ GE514.out | refine zbS ?_ GE515.out | refine zbS ?_ GE516.out) | exact HB.out)⟩⟩
          ·replace c76 := Bool.eq_false_iff.mpr c76
           subst c76
           have H1 : ((addr_Meets.f kj39 a0_0 a0_1 a0_2 a1_0 a1_1 a1_2).bind fun t533 => (if t533 = true then (tenancylaw01_AddrNested.j2 kj39 false a0_0 a0_1 a0_2 a2_0 a2_1) else ((addr_Has.f kj39 a0_0 a0_1 a0_2 a2_0 a2_1).bind fun t534 => (if t534 = true then ((addr_Has.f kj39 a1_0 a1_1 a1_2 a2_0 a2_1).bind fun t535 => (tenancylaw01_AddrNested.j2 kj39 t535 a0_0 a0_1 a0_2 a2_0 a2_1)) else (tenancylaw01_AddrNested.j2 kj39 false a0_0 a0_1 a0_2 a2_0 a2_1))))) = some r := by rw [if_neg (show ¬ (false = true) by decide)] at H; exact H
           clear H
           have H := H1
           clear H1
           replace H := Option.bind_eq_some_iff.mp H
           obtain ⟨t533, A1500, H⟩ := H
           replace H : (if t533 = true then (tenancylaw01_AddrNested.j2 kj39 false a0_0 a0_1 a0_2 a2_0 a2_1) else ((addr_Has.f kj39 a0_0 a0_1 a0_2 a2_0 a2_1).bind fun t534 => (if t534 = true then ((addr_Has.f kj39 a1_0 a1_1 a1_2 a2_0 a2_1).bind fun t535 => (tenancylaw01_AddrNested.j2 kj39 t535 a0_0 a0_1 a0_2 a2_0 a2_1)) else (tenancylaw01_AddrNested.j2 kj39 false a0_0 a0_1 a0_2 a2_0 a2_1)))) = some r := H
           have A150 := Aside0.mk A1500
           clear A1500
           by_cases c151 : t533 = true
           ·subst c151
            have H1 : (tenancylaw01_AddrNested.j2 kj39 false a0_0 a0_1 a0_2 a2_0 a2_1) = some r := by rw [if_pos rfl] at H; exact H
            clear H
            have H := H1
            clear H1
            have H' := Aside0.mk H
            clear H
            have hnb152 := NB514_515.out
            have hnc152 := NB515_514.out
            have hnb153 := NB514_516.out
            have hnc153 := NB516_514.out
            obtain ⟨hcz154_0, hcz154_1, hcz154_2, hfz154_0, hfz154_1, hfz154_2⟩ := zc3 BK514.out
            have hnb155 := NB515_516.out
            have hnc155 := NB516_515.out
            obtain ⟨hcz156_0, hcz156_1, hcz156_2, hfz156_0, hfz156_1, hfz156_2⟩ := zc3 BK515.out
            go_wp2_with (first | ((with_reducible refine gate_callee (f := 21) rfl ?_); refine goesL_ (some 49) rfl rfl Try.func21 (by kernel_rfl) rfl #[.agg #[.int .u64 a0_0, .int .u64 a0_1, .int .i64 a0_2], .agg #[.int .u64 a1_0, .int .u64 a1_1, .int .i64 a1_2]] rfl (by (try simp only [List.map_toArray, List.map_cons, List.map_nil]); first | done | rfl | (simp only [List.length_drop, List.length_take]; rfl)) ?_; (with_reducible refine (addr_Covers.calls kj39 a0_0 a0_1 a0_2 a1_0 a1_1 a1_2 true _ A73.out).mono ?_); rintro e w157 ⟨rfl, hb⟩; refine ⟨_, rfl, ?_⟩; have n0_ := Aside0.mk (zkB (by (with_reducible repeat (first | refine zkN ?_ _ | refine zk1 ?_ | refine zkA ?_ _)); exact BK514.out) hb); have n1_ := Aside0.mk (zkB (by (with_reducible repeat (first | refine zkN ?_ _ | refine zk1 ?_ | refine zkA ?_ _)); exact BK515.out) hb); have n2_ := Aside0.mk (zkB (by (with_reducible repeat (first | refine zkN ?_ _ | refine zk1 ?_ | refine zkA ?_ _)); exact BK516.out) hb); have n3_ := Aside0.mk (zbP (by repeat (first | (with_reducible first | exact HB.out | apply zbA | apply zbN | apply zb1 | refine zbS ?_ GE514.out | refine zbS ?_ GE515.out | refine zbS ?_ GE516.out) | exact HB.out)) hb); clear BK514; clear BK515; clear BK516; clear HB; have BK514 := n0_; have BK515 := n1_; have BK516 := n2_; have HB := n3_; clear n0_ n1_ n2_ n3_; (try clear hb); (try clear hb2); (try clear hk); (try clear hi); obtain ⟨hcz158_0, hcz158_1, hcz158_2, hfz158_0, hfz158_1, hfz158_2⟩ := zc3 BK515.out; obtain ⟨hcz159_0, hcz159_1, hfz159_0, hfz159_1⟩ := zc2 BK516.out) | (go_at_call 20; (with_reducible refine (addr_Has.calls kj39 a1_0 a1_1 a1_2 a2_0 a2_1 false _ A75.out).mono ?_); rintro e w160 ⟨rfl, hb⟩; have n0_ := Aside0.mk (zkB (by (with_reducible repeat (first | refine zkN ?_ _ | refine zk1 ?_ | refine zkA ?_ _)); exact BK514.out) hb); have n1_ := Aside0.mk (zkB (by (with_reducible repeat (first | refine zkN ?_ _ | refine zk1 ?_ | refine zkA ?_ _)); exact BK515.out) hb); have n2_ := Aside0.mk (zkB (by (with_reducible repeat (first | refine zkN ?_ _ | refine zk1 ?_ | refine zkA ?_ _)); exact BK516.out) hb); have n3_ := Aside0.mk (zbP (by repeat (first | (with_reducible first | exact HB.out | apply zbA | apply zbN | apply zb1 | refine zbS ?_ GE514.out | refine zbS ?_ GE515.out | refine zbS ?_ GE516.out) | exact HB.out)) hb); clear BK514; clear BK515; clear BK516; clear HB; have BK514 := n0_; have BK515 := n1_; have BK516 := n2_; have HB := n3_; clear n0_ n1_ n2_ n3_; (try clear hb); (try clear hb2); (try clear hk); (try clear hi); obtain ⟨hcz161_0, hcz161_1, hcz161_2, hfz161_0, hfz161_1, hfz161_2⟩ := zc3 BK514.out; obtain ⟨hcz162_0, hcz162_1, hcz162_2, hfz162_0, hfz162_1, hfz162_2⟩ := zc3 BK515.out) | (go_at_call 39; (with_reducible refine (addr_Meets.calls kj39 a0_0 a0_1 a0_2 a1_0 a1_1 a1_2 true _ A150.out).mono ?_); rintro e w163 ⟨rfl, hb⟩; have n0_ := Aside0.mk (zkB (by (with_reducible repeat (first | refine zkN ?_ _ | refine zk1 ?_ | refine zkA ?_ _)); exact BK514.out) hb); have n1_ := Aside0.mk (zkB (by (with_reducible repeat (first | refine zkN ?_ _ | refine zk1 ?_ | refine zkA ?_ _)); exact BK515.out) hb); have n2_ := Aside0.mk (zkB (by (with_reducible repeat (first | refine zkN ?_ _ | refine zk1 ?_ | refine zkA ?_ _)); exact BK516.out) hb); have n3_ := Aside0.mk (zbP (by repeat (first | (with_reducible first | exact HB.out | apply zbA | apply zbN | apply zb1 | refine zbS ?_ GE514.out | refine zbS ?_ GE515.out | refine zbS ?_ GE516.out) | exact HB.out)) hb); clear BK514; clear BK515; clear BK516; clear HB; have BK514 := n0_; have BK515 := n1_; have BK516 := n2_; have HB := n3_; clear n0_ n1_ n2_ n3_; (try clear hb); (try clear hb2); (try clear hk); (try clear hi)))
            go_meet
            case rel => exact ⟨_, (false), (by first | rfl | (simp; done) | (simp [*]; done)), H', ⟨by have := HJ5.out; have := HJ39.out; first | omega | exact Nat.le_refl _⟩, ⟨by (with_reducible repeat (first | refine zkN ?_ _ | refine zk1 ?_ | refine zkA ?_ _)); exact BK514.out⟩, ⟨by (with_reducible repeat (first | refine zkN ?_ _ | refine zk1 ?_ | refine zkA ?_ _)); exact BK515.out⟩, ⟨by (with_reducible repeat (first | refine zkN ?_ _ | refine zk1 ?_ | refine zkA ?_ _)); exact BK516.out⟩, ⟨by repeat (first | (with_reducible first | exact HB.out | apply zbA | apply zbN | apply zb1 | refine zbS ?_ GE514.out | refine zbS ?_ GE515.out | refine zbS ?_ GE516.out) | exact HB.out)⟩⟩
           ·replace c151 := Bool.eq_false_iff.mpr c151
            subst c151
            have H1 : ((addr_Has.f kj39 a0_0 a0_1 a0_2 a2_0 a2_1).bind fun t534 => (if t534 = true then ((addr_Has.f kj39 a1_0 a1_1 a1_2 a2_0 a2_1).bind fun t535 => (tenancylaw01_AddrNested.j2 kj39 t535 a0_0 a0_1 a0_2 a2_0 a2_1)) else (tenancylaw01_AddrNested.j2 kj39 false a0_0 a0_1 a0_2 a2_0 a2_1))) = some r := by rw [if_neg (show ¬ (false = true) by decide)] at H; exact H
            clear H
            have H := H1
            clear H1
            replace H := Option.bind_eq_some_iff.mp H
            obtain ⟨t534, A1640, H⟩ := H
            replace H : (if t534 = true then ((addr_Has.f kj39 a1_0 a1_1 a1_2 a2_0 a2_1).bind fun t535 => (tenancylaw01_AddrNested.j2 kj39 t535 a0_0 a0_1 a0_2 a2_0 a2_1)) else (tenancylaw01_AddrNested.j2 kj39 false a0_0 a0_1 a0_2 a2_0 a2_1)) = some r := H
            have A164 := Aside0.mk A1640
            clear A1640
            by_cases c165 : t534 = true
            ·subst c165
             have H1 : ((addr_Has.f kj39 a1_0 a1_1 a1_2 a2_0 a2_1).bind fun t535 => (tenancylaw01_AddrNested.j2 kj39 t535 a0_0 a0_1 a0_2 a2_0 a2_1)) = some r := by rw [if_pos rfl] at H; exact H
             clear H
             have H := H1
             clear H1
             replace H := Option.bind_eq_some_iff.mp H
             obtain ⟨t535, A1660, H⟩ := H
             replace H : (tenancylaw01_AddrNested.j2 kj39 t535 a0_0 a0_1 a0_2 a2_0 a2_1) = some r := H
             have A166 := Aside0.mk A1660
             clear A1660
             have H' := Aside0.mk H
             clear H
             have hnb167 := NB514_515.out
             have hnc167 := NB515_514.out
             have hnb168 := NB514_516.out
             have hnc168 := NB516_514.out
             obtain ⟨hcz169_0, hcz169_1, hcz169_2, hfz169_0, hfz169_1, hfz169_2⟩ := zc3 BK514.out
             have hnb170 := NB515_516.out
             have hnc170 := NB516_515.out
             obtain ⟨hcz171_0, hcz171_1, hcz171_2, hfz171_0, hfz171_1, hfz171_2⟩ := zc3 BK515.out
             obtain rfl : t535 = false := Option.some.inj (A166.out.symm.trans A75.out)
             go_wp2_with (first | ((with_reducible refine gate_callee (f := 21) rfl ?_); refine goesL_ (some 49) rfl rfl Try.func21 (by kernel_rfl) rfl #[.agg #[.int .u64 a0_0, .int .u64 a0_1, .int .i64 a0_2], .agg #[.int .u64 a1_0, .int .u64 a1_1, .int .i64 a1_2]] rfl (by (try simp only [List.map_toArray, List.map_cons, List.map_nil]); first | done | rfl | (simp only [List.length_drop, List.length_take]; rfl)) ?_; (with_reducible refine (addr_Covers.calls kj39 a0_0 a0_1 a0_2 a1_0 a1_1 a1_2 true _ A73.out).mono ?_); rintro e w172 ⟨rfl, hb⟩; refine ⟨_, rfl, ?_⟩; have n0_ := Aside0.mk (zkB (by (with_reducible repeat (first | refine zkN ?_ _ | refine zk1 ?_ | refine zkA ?_ _)); exact BK514.out) hb); have n1_ := Aside0.mk (zkB (by (with_reducible repeat (first | refine zkN ?_ _ | refine zk1 ?_ | refine zkA ?_ _)); exact BK515.out) hb); have n2_ := Aside0.mk (zkB (by (with_reducible repeat (first | refine zkN ?_ _ | refine zk1 ?_ | refine zkA ?_ _)); exact BK516.out) hb); have n3_ := Aside0.mk (zbP (by repeat (first | (with_reducible first | exact HB.out | apply zbA | apply zbN | apply zb1 | refine zbS ?_ GE514.out | refine zbS ?_ GE515.out | refine zbS ?_ GE516.out) | exact HB.out)) hb); clear BK514; clear BK515; clear BK516; clear HB; have BK514 := n0_; have BK515 := n1_; have BK516 := n2_; have HB := n3_; clear n0_ n1_ n2_ n3_; (try clear hb); (try clear hb2); (try clear hk); (try clear hi); obtain ⟨hcz173_0, hcz173_1, hcz173_2, hfz173_0, hfz173_1, hfz173_2⟩ := zc3 BK515.out; obtain ⟨hcz174_0, hcz174_1, hfz174_0, hfz174_1⟩ := zc2 BK516.out) | (go_at_call 20; (with_reducible refine (addr_Has.calls kj39 a1_0 a1_1 a1_2 a2_0 a2_1 false _ A75.out).mono ?_); rintro e w175 ⟨rfl, hb⟩; have n0_ := Aside0.mk (zkB (by (with_reducible repeat (first | refine zkN ?_ _ | refine zk1 ?_ | refine zkA ?_ _)); exact BK514.out) hb); have n1_ := Aside0.mk (zkB (by (with_reducible repeat (first | refine zkN ?_ _ | refine zk1 ?_ | refine zkA ?_ _)); exact BK515.out) hb); have n2_ := Aside0.mk (zkB (by (with_reducible repeat (first | refine zkN ?_ _ | refine zk1 ?_ | refine zkA ?_ _)); exact BK516.out) hb); have n3_ := Aside0.mk (zbP (by repeat (first | (with_reducible first | exact HB.out | apply zbA | apply zbN | apply zb1 | refine zbS ?_ GE514.out | refine zbS ?_ GE515.out | refine zbS ?_ GE516.out) | exact HB.out)) hb); clear BK514; clear BK515; clear BK516; clear HB; have BK514 := n0_; have BK515 := n1_; have BK516 := n2_; have HB := n3_; clear n0_ n1_ n2_ n3_; (try clear hb); (try clear hb2); (try clear hk); (try clear hi); obtain ⟨hcz176_0, hcz176_1, hcz176_2, hfz176_0, hfz176_1, hfz176_2⟩ := zc3 BK514.out; obtain ⟨hcz177_0, hcz177_1, hcz177_2, hfz177_0, hfz177_1, hfz177_2⟩ := zc3 BK515.out) | (go_at_call 39; (with_reducible refine (addr_Meets.calls kj39 a0_0 a0_1 a0_2 a1_0 a1_1 a1_2 false _ A150.out).mono ?_); rintro e w178 ⟨rfl, hb⟩; have n0_ := Aside0.mk (zkB (by (with_reducible repeat (first | refine zkN ?_ _ | refine zk1 ?_ | refine zkA ?_ _)); exact BK514.out) hb); have n1_ := Aside0.mk (zkB (by (with_reducible repeat (first | refine zkN ?_ _ | refine zk1 ?_ | refine zkA ?_ _)); exact BK515.out) hb); have n2_ := Aside0.mk (zkB (by (with_reducible repeat (first | refine zkN ?_ _ | refine zk1 ?_ | refine zkA ?_ _)); exact BK516.out) hb); have n3_ := Aside0.mk (zbP (by repeat (first | (with_reducible first | exact HB.out | apply zbA | apply zbN | apply zb1 | refine zbS ?_ GE514.out | refine zbS ?_ GE515.out | refine zbS ?_ GE516.out) | exact HB.out)) hb); clear BK514; clear BK515; clear BK516; clear HB; have BK514 := n0_; have BK515 := n1_; have BK516 := n2_; have HB := n3_; clear n0_ n1_ n2_ n3_; (try clear hb); (try clear hb2); (try clear hk); (try clear hi); obtain ⟨hcz179_0, hcz179_1, hcz179_2, hfz179_0, hfz179_1, hfz179_2⟩ := zc3 BK514.out; obtain ⟨hcz180_0, hcz180_1, hfz180_0, hfz180_1⟩ := zc2 BK516.out) | (go_at_call 20; (with_reducible refine (addr_Has.calls kj39 a0_0 a0_1 a0_2 a2_0 a2_1 true _ A164.out).mono ?_); rintro e w181 ⟨rfl, hb⟩; have n0_ := Aside0.mk (zkB (by (with_reducible repeat (first | refine zkN ?_ _ | refine zk1 ?_ | refine zkA ?_ _)); exact BK514.out) hb); have n1_ := Aside0.mk (zkB (by (with_reducible repeat (first | refine zkN ?_ _ | refine zk1 ?_ | refine zkA ?_ _)); exact BK515.out) hb); have n2_ := Aside0.mk (zkB (by (with_reducible repeat (first | refine zkN ?_ _ | refine zk1 ?_ | refine zkA ?_ _)); exact BK516.out) hb); have n3_ := Aside0.mk (zbP (by repeat (first | (with_reducible first | exact HB.out | apply zbA | apply zbN | apply zb1 | refine zbS ?_ GE514.out | refine zbS ?_ GE515.out | refine zbS ?_ GE516.out) | exact HB.out)) hb); clear BK514; clear BK515; clear BK516; clear HB; have BK514 := n0_; have BK515 := n1_; have BK516 := n2_; have HB := n3_; clear n0_ n1_ n2_ n3_; (try clear hb); (try clear hb2); (try clear hk); (try clear hi); obtain ⟨hcz182_0, hcz182_1, hcz182_2, hfz182_0, hfz182_1, hfz182_2⟩ := zc3 BK515.out; obtain ⟨hcz183_0, hcz183_1, hfz183_0, hfz183_1⟩ := zc2 BK516.out))
             go_meet
             case rel => exact ⟨_, (false), (by first | rfl | (simp; done) | (simp [*]; done)), H', ⟨by have := HJ5.out; have := HJ39.out; first | omega | exact Nat.le_refl _⟩, ⟨by (with_reducible repeat (first | refine zkN ?_ _ | refine zk1 ?_ | refine zkA ?_ _)); exact BK514.out⟩, ⟨by (with_reducible repeat (first | refine zkN ?_ _ | refine zk1 ?_ | refine zkA ?_ _)); exact BK515.out⟩, ⟨by (with_reducible repeat (first | refine zkN ?_ _ | refine zk1 ?_ | refine zkA ?_ _)); exact BK516.out⟩, ⟨by repeat (first | (with_reducible first | exact HB.out | apply zbA | apply zbN | apply zb1 | refine zbS ?_ GE514.out | refine zbS ?_ GE515.out | refine zbS ?_ GE516.out) | exact HB.out)⟩⟩
            ·replace c165 := Bool.eq_false_iff.mpr c165
             subst c165
             have H1 : (tenancylaw01_AddrNested.j2 kj39 false a0_0 a0_1 a0_2 a2_0 a2_1) = some r := by rw [if_neg (show ¬ (false = true) by decide)] at H; exact H
             clear H
             have H := H1
             clear H1
             have H' := Aside0.mk H
             clear H
             have hnb185 := NB514_515.out
             have hnc185 := NB515_514.out
             have hnb186 := NB514_516.out
             have hnc186 := NB516_514.out
             obtain ⟨hcz187_0, hcz187_1, hcz187_2, hfz187_0, hfz187_1, hfz187_2⟩ := zc3 BK514.out
             have hnb188 := NB515_516.out
             have hnc188 := NB516_515.out
             obtain ⟨hcz189_0, hcz189_1, hcz189_2, hfz189_0, hfz189_1, hfz189_2⟩ := zc3 BK515.out
             go_wp2_with (first | ((with_reducible refine gate_callee (f := 21) rfl ?_); refine goesL_ (some 49) rfl rfl Try.func21 (by kernel_rfl) rfl #[.agg #[.int .u64 a0_0, .int .u64 a0_1, .int .i64 a0_2], .agg #[.int .u64 a1_0, .int .u64 a1_1, .int .i64 a1_2]] rfl (by (try simp only [List.map_toArray, List.map_cons, List.map_nil]); first | done | rfl | (simp only [List.length_drop, List.length_take]; rfl)) ?_; (with_reducible refine (addr_Covers.calls kj39 a0_0 a0_1 a0_2 a1_0 a1_1 a1_2 true _ A73.out).mono ?_); rintro e w190 ⟨rfl, hb⟩; refine ⟨_, rfl, ?_⟩; have n0_ := Aside0.mk (zkB (by (with_reducible repeat (first | refine zkN ?_ _ | refine zk1 ?_ | refine zkA ?_ _)); exact BK514.out) hb); have n1_ := Aside0.mk (zkB (by (with_reducible repeat (first | refine zkN ?_ _ | refine zk1 ?_ | refine zkA ?_ _)); exact BK515.out) hb); have n2_ := Aside0.mk (zkB (by (with_reducible repeat (first | refine zkN ?_ _ | refine zk1 ?_ | refine zkA ?_ _)); exact BK516.out) hb); have n3_ := Aside0.mk (zbP (by repeat (first | (with_reducible first | exact HB.out | apply zbA | apply zbN | apply zb1 | refine zbS ?_ GE514.out | refine zbS ?_ GE515.out | refine zbS ?_ GE516.out) | exact HB.out)) hb); clear BK514; clear BK515; clear BK516; clear HB; have BK514 := n0_; have BK515 := n1_; have BK516 := n2_; have HB := n3_; clear n0_ n1_ n2_ n3_; (try clear hb); (try clear hb2); (try clear hk); (try clear hi); obtain ⟨hcz191_0, hcz191_1, hcz191_2, hfz191_0, hfz191_1, hfz191_2⟩ := zc3 BK515.out; obtain ⟨hcz192_0, hcz192_1, hfz192_0, hfz192_1⟩ := zc2 BK516.out) | (go_at_call 20; (with_reducible refine (addr_Has.calls kj39 a1_0 a1_1 a1_2 a2_0 a2_1 false _ A75.out).mono ?_); rintro e w193 ⟨rfl, hb⟩; have n0_ := Aside0.mk (zkB (by (with_reducible repeat (first | refine zkN ?_ _ | refine zk1 ?_ | refine zkA ?_ _)); exact BK514.out) hb); have n1_ := Aside0.mk (zkB (by (with_reducible repeat (first | refine zkN ?_ _ | refine zk1 ?_ | refine zkA ?_ _)); exact BK515.out) hb); have n2_ := Aside0.mk (zkB (by (with_reducible repeat (first | refine zkN ?_ _ | refine zk1 ?_ | refine zkA ?_ _)); exact BK516.out) hb); have n3_ := Aside0.mk (zbP (by repeat (first | (with_reducible first | exact HB.out | apply zbA | apply zbN | apply zb1 | refine zbS ?_ GE514.out | refine zbS ?_ GE515.out | refine zbS ?_ GE516.out) | exact HB.out)) hb); clear BK514; clear BK515; clear BK516; clear HB; have BK514 := n0_; have BK515 := n1_; have BK516 := n2_; have HB := n3_; clear n0_ n1_ n2_ n3_; (try clear hb); (try clear hb2); (try clear hk); (try clear hi); obtain ⟨hcz194_0, hcz194_1, hcz194_2, hfz194_0, hfz194_1, hfz194_2⟩ := zc3 BK514.out; obtain ⟨hcz195_0, hcz195_1, hcz195_2, hfz195_0, hfz195_1, hfz195_2⟩ := zc3 BK515.out) | (go_at_call 39; (with_reducible refine (addr_Meets.calls kj39 a0_0 a0_1 a0_2 a1_0 a1_1 a1_2 false _ A150.out).mono ?_); rintro e w196 ⟨rfl, hb⟩; have n0_ := Aside0.mk (zkB (by (with_reducible repeat (first | refine zkN ?_ _ | refine zk1 ?_ | refine zkA ?_ _)); exact BK514.out) hb); have n1_ := Aside0.mk (zkB (by (with_reducible repeat (first | refine zkN ?_ _ | refine zk1 ?_ | refine zkA ?_ _)); exact BK515.out) hb); have n2_ := Aside0.mk (zkB (by (with_reducible repeat (first | refine zkN ?_ _ | refine zk1 ?_ | refine zkA ?_ _)); exact BK516.out) hb); have n3_ := Aside0.mk (zbP (by repeat (first | (with_reducible first | exact HB.out | apply zbA | apply zbN | apply zb1 | refine zbS ?_ GE514.out | refine zbS ?_ GE515.out | refine zbS ?_ GE516.out) | exact HB.out)) hb); clear BK514; clear BK515; clear BK516; clear HB; have BK514 := n0_; have BK515 := n1_; have BK516 := n2_; have HB := n3_; clear n0_ n1_ n2_ n3_; (try clear hb); (try clear hb2); (try clear hk); (try clear hi); obtain ⟨hcz197_0, hcz197_1, hcz197_2, hfz197_0, hfz197_1, hfz197_2⟩ := zc3 BK514.out; obtain ⟨hcz198_0, hcz198_1, hfz198_0, hfz198_1⟩ := zc2 BK516.out) | (go_at_call 20; (with_reducible refine (addr_Has.calls kj39 a0_0 a0_1 a0_2 a2_0 a2_1 false _ A164.out).mono ?_); rintro e w199 ⟨rfl, hb⟩; have n0_ := Aside0.mk (zkB (by (with_reducible repeat (first | refine zkN ?_ _ | refine zk1 ?_ | refine zkA ?_ _)); exact BK514.out) hb); have n1_ := Aside0.mk (zkB (by (with_reducible repeat (first | refine zkN ?_ _ | refine zk1 ?_ | refine zkA ?_ _)); exact BK515.out) hb); have n2_ := Aside0.mk (zkB (by (with_reducible repeat (first | refine zkN ?_ _ | refine zk1 ?_ | refine zkA ?_ _)); exact BK516.out) hb); have n3_ := Aside0.mk (zbP (by repeat (first | (with_reducible first | exact HB.out | apply zbA | apply zbN | apply zb1 | refine zbS ?_ GE514.out | refine zbS ?_ GE515.out | refine zbS ?_ GE516.out) | exact HB.out)) hb); clear BK514; clear BK515; clear BK516; clear HB; have BK514 := n0_; have BK515 := n1_; have BK516 := n2_; have HB := n3_; clear n0_ n1_ n2_ n3_; (try clear hb); (try clear hb2); (try clear hk); (try clear hi)))
             go_meet
             case rel => exact ⟨_, (false), (by first | rfl | (simp; done) | (simp [*]; done)), H', ⟨by have := HJ5.out; have := HJ39.out; first | omega | exact Nat.le_refl _⟩, ⟨by (with_reducible repeat (first | refine zkN ?_ _ | refine zk1 ?_ | refine zkA ?_ _)); exact BK514.out⟩, ⟨by (with_reducible repeat (first | refine zkN ?_ _ | refine zk1 ?_ | refine zkA ?_ _)); exact BK515.out⟩, ⟨by (with_reducible repeat (first | refine zkN ?_ _ | refine zk1 ?_ | refine zkA ?_ _)); exact BK516.out⟩, ⟨by repeat (first | (with_reducible first | exact HB.out | apply zbA | apply zbN | apply zb1 | refine zbS ?_ GE514.out | refine zbS ?_ GE515.out | refine zbS ?_ GE516.out) | exact HB.out)⟩⟩
         ·replace c74 := Bool.eq_false_iff.mpr c74
          subst c74
          have H1 : ((addr_Meets.f kj39 a0_0 a0_1 a0_2 a1_0 a1_1 a1_2).bind fun t536 => (if t536 = true then (tenancylaw01_AddrNested.j2 kj39 false a0_0 a0_1 a0_2 a2_0 a2_1) else ((addr_Has.f kj39 a0_0 a0_1 a0_2 a2_0 a2_1).bind fun t537 => (if t537 = true then ((addr_Has.f kj39 a1_0 a1_1 a1_2 a2_0 a2_1).bind fun t538 => (tenancylaw01_AddrNested.j2 kj39 t538 a0_0 a0_1 a0_2 a2_0 a2_1)) else (tenancylaw01_AddrNested.j2 kj39 false a0_0 a0_1 a0_2 a2_0 a2_1))))) = some r := by rw [if_neg (show ¬ (false = true) by decide)] at H; exact H
          clear H
          have H := H1
          clear H1
          replace H := Option.bind_eq_some_iff.mp H
          obtain ⟨t536, A2000, H⟩ := H
          replace H : (if t536 = true then (tenancylaw01_AddrNested.j2 kj39 false a0_0 a0_1 a0_2 a2_0 a2_1) else ((addr_Has.f kj39 a0_0 a0_1 a0_2 a2_0 a2_1).bind fun t537 => (if t537 = true then ((addr_Has.f kj39 a1_0 a1_1 a1_2 a2_0 a2_1).bind fun t538 => (tenancylaw01_AddrNested.j2 kj39 t538 a0_0 a0_1 a0_2 a2_0 a2_1)) else (tenancylaw01_AddrNested.j2 kj39 false a0_0 a0_1 a0_2 a2_0 a2_1)))) = some r := H
          have A200 := Aside0.mk A2000
          clear A2000
          by_cases c201 : t536 = true
          ·subst c201
           have H1 : (tenancylaw01_AddrNested.j2 kj39 false a0_0 a0_1 a0_2 a2_0 a2_1) = some r := by rw [if_pos rfl] at H; exact H
           clear H
           have H := H1
           clear H1
           have H' := Aside0.mk H
           clear H
           have hnb202 := NB514_515.out
           have hnc202 := NB515_514.out
           have hnb203 := NB514_516.out
           have hnc203 := NB516_514.out
           obtain ⟨hcz204_0, hcz204_1, hcz204_2, hfz204_0, hfz204_1, hfz204_2⟩ := zc3 BK514.out
           have hnb205 := NB515_516.out
           have hnc205 := NB516_515.out
           obtain ⟨hcz206_0, hcz206_1, hcz206_2, hfz206_0, hfz206_1, hfz206_2⟩ := zc3 BK515.out
           go_wp2_with (first | ((with_reducible refine gate_callee (f := 21) rfl ?_); refine goesL_ (some 49) rfl rfl Try.func21 (by kernel_rfl) rfl #[.agg #[.int .u64 a0_0, .int .u64 a0_1, .int .i64 a0_2], .agg #[.int .u64 a1_0, .int .u64 a1_1, .int .i64 a1_2]] rfl (by (try simp only [List.map_toArray, List.map_cons, List.map_nil]); first | done | rfl | (simp only [List.length_drop, List.length_take]; rfl)) ?_; (with_reducible refine (addr_Covers.calls kj39 a0_0 a0_1 a0_2 a1_0 a1_1 a1_2 false _ A73.out).mono ?_); rintro e w207 ⟨rfl, hb⟩; refine ⟨_, rfl, ?_⟩; have n0_ := Aside0.mk (zkB (by (with_reducible repeat (first | refine zkN ?_ _ | refine zk1 ?_ | refine zkA ?_ _)); exact BK514.out) hb); have n1_ := Aside0.mk (zkB (by (with_reducible repeat (first | refine zkN ?_ _ | refine zk1 ?_ | refine zkA ?_ _)); exact BK515.out) hb); have n2_ := Aside0.mk (zkB (by (with_reducible repeat (first | refine zkN ?_ _ | refine zk1 ?_ | refine zkA ?_ _)); exact BK516.out) hb); have n3_ := Aside0.mk (zbP (by repeat (first | (with_reducible first | exact HB.out | apply zbA | apply zbN | apply zb1 | refine zbS ?_ GE514.out | refine zbS ?_ GE515.out | refine zbS ?_ GE516.out) | exact HB.out)) hb); clear BK514; clear BK515; clear BK516; clear HB; have BK514 := n0_; have BK515 := n1_; have BK516 := n2_; have HB := n3_; clear n0_ n1_ n2_ n3_; (try clear hb); (try clear hb2); (try clear hk); (try clear hi); obtain ⟨hcz208_0, hcz208_1, hcz208_2, hfz208_0, hfz208_1, hfz208_2⟩ := zc3 BK514.out; obtain ⟨hcz209_0, hcz209_1, hcz209_2, hfz209_0, hfz209_1, hfz209_2⟩ := zc3 BK515.out) | (go_at_call 39; (with_reducible refine (addr_Meets.calls kj39 a0_0 a0_1 a0_2 a1_0 a1_1 a1_2 true _ A200.out).mono ?_); rintro e w210 ⟨rfl, hb⟩; have n0_ := Aside0.mk (zkB (by (with_reducible repeat (first | refine zkN ?_ _ | refine zk1 ?_ | refine zkA ?_ _)); exact BK514.out) hb); have n1_ := Aside0.mk (zkB (by (with_reducible repeat (first | refine zkN ?_ _ | refine zk1 ?_ | refine zkA ?_ _)); exact BK515.out) hb); have n2_ := Aside0.mk (zkB (by (with_reducible repeat (first | refine zkN ?_ _ | refine zk1 ?_ | refine zkA ?_ _)); exact BK516.out) hb); have n3_ := Aside0.mk (zbP (by repeat (first | (with_reducible first | exact HB.out | apply zbA | apply zbN | apply zb1 | refine zbS ?_ GE514.out | refine zbS ?_ GE515.out | refine zbS ?_ GE516.out) | exact HB.out)) hb); clear BK514; clear BK515; clear BK516; clear HB; have BK514 := n0_; have BK515 := n1_; have BK516 := n2_; have HB := n3_; clear n0_ n1_ n2_ n3_; (try clear hb); (try clear hb2); (try clear hk); (try clear hi)))
           go_meet
           case rel => exact ⟨_, (false), (by first | rfl | (simp; done) | (simp [*]; done)), H', ⟨by have := HJ5.out; have := HJ39.out; first | omega | exact Nat.le_refl _⟩, ⟨by (with_reducible repeat (first | refine zkN ?_ _ | refine zk1 ?_ | refine zkA ?_ _)); exact BK514.out⟩, ⟨by (with_reducible repeat (first | refine zkN ?_ _ | refine zk1 ?_ | refine zkA ?_ _)); exact BK515.out⟩, ⟨by (with_reducible repeat (first | refine zkN ?_ _ | refine zk1 ?_ | refine zkA ?_ _)); exact BK516.out⟩, ⟨by repeat (first | (with_reducible first | exact HB.out | apply zbA | apply zbN | apply zb1 | refine zbS ?_ GE514.out | refine zbS ?_ GE515.out | refine zbS ?_ GE516.out) | exact HB.out)⟩⟩
          ·replace c201 := Bool.eq_false_iff.mpr c201
           subst c201
           have H1 : ((addr_Has.f kj39 a0_0 a0_1 a0_2 a2_0 a2_1).bind fun t537 => (if t537 = true then ((addr_Has.f kj39 a1_0 a1_1 a1_2 a2_0 a2_1).bind fun t538 => (tenancylaw01_AddrNested.j2 kj39 t538 a0_0 a0_1 a0_2 a2_0 a2_1)) else (tenancylaw01_AddrNested.j2 kj39 false a0_0 a0_1 a0_2 a2_0 a2_1))) = some r := by rw [if_neg (show ¬ (false = true) by decide)] at H; exact H
           clear H
           have H := H1
           clear H1
           replace H := Option.bind_eq_some_iff.mp H
           obtain ⟨t537, A2110, H⟩ := H
           replace H : (if t537 = true then ((addr_Has.f kj39 a1_0 a1_1 a1_2 a2_0 a2_1).bind fun t538 => (tenancylaw01_AddrNested.j2 kj39 t538 a0_0 a0_1 a0_2 a2_0 a2_1)) else (tenancylaw01_AddrNested.j2 kj39 false a0_0 a0_1 a0_2 a2_0 a2_1)) = some r := H
           have A211 := Aside0.mk A2110
           clear A2110
           by_cases c212 : t537 = true
           ·subst c212
            have H1 : ((addr_Has.f kj39 a1_0 a1_1 a1_2 a2_0 a2_1).bind fun t538 => (tenancylaw01_AddrNested.j2 kj39 t538 a0_0 a0_1 a0_2 a2_0 a2_1)) = some r := by rw [if_pos rfl] at H; exact H
            clear H
            have H := H1
            clear H1
            replace H := Option.bind_eq_some_iff.mp H
            obtain ⟨t538, A2130, H⟩ := H
            replace H : (tenancylaw01_AddrNested.j2 kj39 t538 a0_0 a0_1 a0_2 a2_0 a2_1) = some r := H
            have A213 := Aside0.mk A2130
            clear A2130
            have H' := Aside0.mk H
            clear H
            have hnb214 := NB514_515.out
            have hnc214 := NB515_514.out
            have hnb215 := NB514_516.out
            have hnc215 := NB516_514.out
            obtain ⟨hcz216_0, hcz216_1, hcz216_2, hfz216_0, hfz216_1, hfz216_2⟩ := zc3 BK514.out
            have hnb217 := NB515_516.out
            have hnc217 := NB516_515.out
            obtain ⟨hcz218_0, hcz218_1, hcz218_2, hfz218_0, hfz218_1, hfz218_2⟩ := zc3 BK515.out
            go_wp2_with (first | ((with_reducible refine gate_callee (f := 21) rfl ?_); refine goesL_ (some 49) rfl rfl Try.func21 (by kernel_rfl) rfl #[.agg #[.int .u64 a0_0, .int .u64 a0_1, .int .i64 a0_2], .agg #[.int .u64 a1_0, .int .u64 a1_1, .int .i64 a1_2]] rfl (by (try simp only [List.map_toArray, List.map_cons, List.map_nil]); first | done | rfl | (simp only [List.length_drop, List.length_take]; rfl)) ?_; (with_reducible refine (addr_Covers.calls kj39 a0_0 a0_1 a0_2 a1_0 a1_1 a1_2 false _ A73.out).mono ?_); rintro e w219 ⟨rfl, hb⟩; refine ⟨_, rfl, ?_⟩; have n0_ := Aside0.mk (zkB (by (with_reducible repeat (first | refine zkN ?_ _ | refine zk1 ?_ | refine zkA ?_ _)); exact BK514.out) hb); have n1_ := Aside0.mk (zkB (by (with_reducible repeat (first | refine zkN ?_ _ | refine zk1 ?_ | refine zkA ?_ _)); exact BK515.out) hb); have n2_ := Aside0.mk (zkB (by (with_reducible repeat (first | refine zkN ?_ _ | refine zk1 ?_ | refine zkA ?_ _)); exact BK516.out) hb); have n3_ := Aside0.mk (zbP (by repeat (first | (with_reducible first | exact HB.out | apply zbA | apply zbN | apply zb1 | refine zbS ?_ GE514.out | refine zbS ?_ GE515.out | refine zbS ?_ GE516.out) | exact HB.out)) hb); clear BK514; clear BK515; clear BK516; clear HB; have BK514 := n0_; have BK515 := n1_; have BK516 := n2_; have HB := n3_; clear n0_ n1_ n2_ n3_; (try clear hb); (try clear hb2); (try clear hk); (try clear hi); obtain ⟨hcz220_0, hcz220_1, hcz220_2, hfz220_0, hfz220_1, hfz220_2⟩ := zc3 BK514.out; obtain ⟨hcz221_0, hcz221_1, hcz221_2, hfz221_0, hfz221_1, hfz221_2⟩ := zc3 BK515.out) | (go_at_call 39; (with_reducible refine (addr_Meets.calls kj39 a0_0 a0_1 a0_2 a1_0 a1_1 a1_2 false _ A200.out).mono ?_); rintro e w222 ⟨rfl, hb⟩; have n0_ := Aside0.mk (zkB (by (with_reducible repeat (first | refine zkN ?_ _ | refine zk1 ?_ | refine zkA ?_ _)); exact BK514.out) hb); have n1_ := Aside0.mk (zkB (by (with_reducible repeat (first | refine zkN ?_ _ | refine zk1 ?_ | refine zkA ?_ _)); exact BK515.out) hb); have n2_ := Aside0.mk (zkB (by (with_reducible repeat (first | refine zkN ?_ _ | refine zk1 ?_ | refine zkA ?_ _)); exact BK516.out) hb); have n3_ := Aside0.mk (zbP (by repeat (first | (with_reducible first | exact HB.out | apply zbA | apply zbN | apply zb1 | refine zbS ?_ GE514.out | refine zbS ?_ GE515.out | refine zbS ?_ GE516.out) | exact HB.out)) hb); clear BK514; clear BK515; clear BK516; clear HB; have BK514 := n0_; have BK515 := n1_; have BK516 := n2_; have HB := n3_; clear n0_ n1_ n2_ n3_; (try clear hb); (try clear hb2); (try clear hk); (try clear hi); obtain ⟨hcz223_0, hcz223_1, hcz223_2, hfz223_0, hfz223_1, hfz223_2⟩ := zc3 BK514.out; obtain ⟨hcz224_0, hcz224_1, hfz224_0, hfz224_1⟩ := zc2 BK516.out) | (go_at_call 20; (with_reducible refine (addr_Has.calls kj39 a0_0 a0_1 a0_2 a2_0 a2_1 true _ A211.out).mono ?_); rintro e w225 ⟨rfl, hb⟩; have n0_ := Aside0.mk (zkB (by (with_reducible repeat (first | refine zkN ?_ _ | refine zk1 ?_ | refine zkA ?_ _)); exact BK514.out) hb); have n1_ := Aside0.mk (zkB (by (with_reducible repeat (first | refine zkN ?_ _ | refine zk1 ?_ | refine zkA ?_ _)); exact BK515.out) hb); have n2_ := Aside0.mk (zkB (by (with_reducible repeat (first | refine zkN ?_ _ | refine zk1 ?_ | refine zkA ?_ _)); exact BK516.out) hb); have n3_ := Aside0.mk (zbP (by repeat (first | (with_reducible first | exact HB.out | apply zbA | apply zbN | apply zb1 | refine zbS ?_ GE514.out | refine zbS ?_ GE515.out | refine zbS ?_ GE516.out) | exact HB.out)) hb); clear BK514; clear BK515; clear BK516; clear HB; have BK514 := n0_; have BK515 := n1_; have BK516 := n2_; have HB := n3_; clear n0_ n1_ n2_ n3_; (try clear hb); (try clear hb2); (try clear hk); (try clear hi); obtain ⟨hcz226_0, hcz226_1, hcz226_2, hfz226_0, hfz226_1, hfz226_2⟩ := zc3 BK515.out; obtain ⟨hcz227_0, hcz227_1, hfz227_0, hfz227_1⟩ := zc2 BK516.out) | (go_at_call 20; (with_reducible refine (addr_Has.calls kj39 a1_0 a1_1 a1_2 a2_0 a2_1 t538 _ A213.out).mono ?_); rintro e w228 ⟨rfl, hb⟩; have n0_ := Aside0.mk (zkB (by (with_reducible repeat (first | refine zkN ?_ _ | refine zk1 ?_ | refine zkA ?_ _)); exact BK514.out) hb); have n1_ := Aside0.mk (zkB (by (with_reducible repeat (first | refine zkN ?_ _ | refine zk1 ?_ | refine zkA ?_ _)); exact BK515.out) hb); have n2_ := Aside0.mk (zkB (by (with_reducible repeat (first | refine zkN ?_ _ | refine zk1 ?_ | refine zkA ?_ _)); exact BK516.out) hb); have n3_ := Aside0.mk (zbP (by repeat (first | (with_reducible first | exact HB.out | apply zbA | apply zbN | apply zb1 | refine zbS ?_ GE514.out | refine zbS ?_ GE515.out | refine zbS ?_ GE516.out) | exact HB.out)) hb); clear BK514; clear BK515; clear BK516; clear HB; have BK514 := n0_; have BK515 := n1_; have BK516 := n2_; have HB := n3_; clear n0_ n1_ n2_ n3_; (try clear hb); (try clear hb2); (try clear hk); (try clear hi)))
            go_meet
            case rel => exact ⟨_, (t538), (by first | rfl | (simp; done) | (simp [*]; done)), H', ⟨by have := HJ5.out; have := HJ39.out; first | omega | exact Nat.le_refl _⟩, ⟨by (with_reducible repeat (first | refine zkN ?_ _ | refine zk1 ?_ | refine zkA ?_ _)); exact BK514.out⟩, ⟨by (with_reducible repeat (first | refine zkN ?_ _ | refine zk1 ?_ | refine zkA ?_ _)); exact BK515.out⟩, ⟨by (with_reducible repeat (first | refine zkN ?_ _ | refine zk1 ?_ | refine zkA ?_ _)); exact BK516.out⟩, ⟨by repeat (first | (with_reducible first | exact HB.out | apply zbA | apply zbN | apply zb1 | refine zbS ?_ GE514.out | refine zbS ?_ GE515.out | refine zbS ?_ GE516.out) | exact HB.out)⟩⟩
           ·replace c212 := Bool.eq_false_iff.mpr c212
            subst c212
            have H1 : (tenancylaw01_AddrNested.j2 kj39 false a0_0 a0_1 a0_2 a2_0 a2_1) = some r := by rw [if_neg (show ¬ (false = true) by decide)] at H; exact H
            clear H
            have H := H1
            clear H1
            have H' := Aside0.mk H
            clear H
            have hnb229 := NB514_515.out
            have hnc229 := NB515_514.out
            have hnb230 := NB514_516.out
            have hnc230 := NB516_514.out
            obtain ⟨hcz231_0, hcz231_1, hcz231_2, hfz231_0, hfz231_1, hfz231_2⟩ := zc3 BK514.out
            have hnb232 := NB515_516.out
            have hnc232 := NB516_515.out
            obtain ⟨hcz233_0, hcz233_1, hcz233_2, hfz233_0, hfz233_1, hfz233_2⟩ := zc3 BK515.out
            go_wp2_with (first | ((with_reducible refine gate_callee (f := 21) rfl ?_); refine goesL_ (some 49) rfl rfl Try.func21 (by kernel_rfl) rfl #[.agg #[.int .u64 a0_0, .int .u64 a0_1, .int .i64 a0_2], .agg #[.int .u64 a1_0, .int .u64 a1_1, .int .i64 a1_2]] rfl (by (try simp only [List.map_toArray, List.map_cons, List.map_nil]); first | done | rfl | (simp only [List.length_drop, List.length_take]; rfl)) ?_; (with_reducible refine (addr_Covers.calls kj39 a0_0 a0_1 a0_2 a1_0 a1_1 a1_2 false _ A73.out).mono ?_); rintro e w234 ⟨rfl, hb⟩; refine ⟨_, rfl, ?_⟩; have n0_ := Aside0.mk (zkB (by (with_reducible repeat (first | refine zkN ?_ _ | refine zk1 ?_ | refine zkA ?_ _)); exact BK514.out) hb); have n1_ := Aside0.mk (zkB (by (with_reducible repeat (first | refine zkN ?_ _ | refine zk1 ?_ | refine zkA ?_ _)); exact BK515.out) hb); have n2_ := Aside0.mk (zkB (by (with_reducible repeat (first | refine zkN ?_ _ | refine zk1 ?_ | refine zkA ?_ _)); exact BK516.out) hb); have n3_ := Aside0.mk (zbP (by repeat (first | (with_reducible first | exact HB.out | apply zbA | apply zbN | apply zb1 | refine zbS ?_ GE514.out | refine zbS ?_ GE515.out | refine zbS ?_ GE516.out) | exact HB.out)) hb); clear BK514; clear BK515; clear BK516; clear HB; have BK514 := n0_; have BK515 := n1_; have BK516 := n2_; have HB := n3_; clear n0_ n1_ n2_ n3_; (try clear hb); (try clear hb2); (try clear hk); (try clear hi); obtain ⟨hcz235_0, hcz235_1, hcz235_2, hfz235_0, hfz235_1, hfz235_2⟩ := zc3 BK514.out; obtain ⟨hcz236_0, hcz236_1, hcz236_2, hfz236_0, hfz236_1, hfz236_2⟩ := zc3 BK515.out) | (go_at_call 39; (with_reducible refine (addr_Meets.calls kj39 a0_0 a0_1 a0_2 a1_0 a1_1 a1_2 false _ A200.out).mono ?_); rintro e w237 ⟨rfl, hb⟩; have n0_ := Aside0.mk (zkB (by (with_reducible repeat (first | refine zkN ?_ _ | refine zk1 ?_ | refine zkA ?_ _)); exact BK514.out) hb); have n1_ := Aside0.mk (zkB (by (with_reducible repeat (first | refine zkN ?_ _ | refine zk1 ?_ | refine zkA ?_ _)); exact BK515.out) hb); have n2_ := Aside0.mk (zkB (by (with_reducible repeat (first | refine zkN ?_ _ | refine zk1 ?_ | refine zkA ?_ _)); exact BK516.out) hb); have n3_ := Aside0.mk (zbP (by repeat (first | (with_reducible first | exact HB.out | apply zbA | apply zbN | apply zb1 | refine zbS ?_ GE514.out | refine zbS ?_ GE515.out | refine zbS ?_ GE516.out) | exact HB.out)) hb); clear BK514; clear BK515; clear BK516; clear HB; have BK514 := n0_; have BK515 := n1_; have BK516 := n2_; have HB := n3_; clear n0_ n1_ n2_ n3_; (try clear hb); (try clear hb2); (try clear hk); (try clear hi); obtain ⟨hcz238_0, hcz238_1, hcz238_2, hfz238_0, hfz238_1, hfz238_2⟩ := zc3 BK514.out; obtain ⟨hcz239_0, hcz239_1, hfz239_0, hfz239_1⟩ := zc2 BK516.out) | (go_at_call 20; (with_reducible refine (addr_Has.calls kj39 a0_0 a0_1 a0_2 a2_0 a2_1 false _ A211.out).mono ?_); rintro e w240 ⟨rfl, hb⟩; have n0_ := Aside0.mk (zkB (by (with_reducible repeat (first | refine zkN ?_ _ | refine zk1 ?_ | refine zkA ?_ _)); exact BK514.out) hb); have n1_ := Aside0.mk (zkB (by (with_reducible repeat (first | refine zkN ?_ _ | refine zk1 ?_ | refine zkA ?_ _)); exact BK515.out) hb); have n2_ := Aside0.mk (zkB (by (with_reducible repeat (first | refine zkN ?_ _ | refine zk1 ?_ | refine zkA ?_ _)); exact BK516.out) hb); have n3_ := Aside0.mk (zbP (by repeat (first | (with_reducible first | exact HB.out | apply zbA | apply zbN | apply zb1 | refine zbS ?_ GE514.out | refine zbS ?_ GE515.out | refine zbS ?_ GE516.out) | exact HB.out)) hb); clear BK514; clear BK515; clear BK516; clear HB; have BK514 := n0_; have BK515 := n1_; have BK516 := n2_; have HB := n3_; clear n0_ n1_ n2_ n3_; (try clear hb); (try clear hb2); (try clear hk); (try clear hi)))
            go_meet
            case rel => exact ⟨_, (false), (by first | rfl | (simp; done) | (simp [*]; done)), H', ⟨by have := HJ5.out; have := HJ39.out; first | omega | exact Nat.le_refl _⟩, ⟨by (with_reducible repeat (first | refine zkN ?_ _ | refine zk1 ?_ | refine zkA ?_ _)); exact BK514.out⟩, ⟨by (with_reducible repeat (first | refine zkN ?_ _ | refine zk1 ?_ | refine zkA ?_ _)); exact BK515.out⟩, ⟨by (with_reducible repeat (first | refine zkN ?_ _ | refine zk1 ?_ | refine zkA ?_ _)); exact BK516.out⟩, ⟨by repeat (first | (with_reducible first | exact HB.out | apply zbA | apply zbN | apply zb1 | refine zbS ?_ GE514.out | refine zbS ?_ GE515.out | refine zbS ?_ GE516.out) | exact HB.out)⟩⟩
        case rest =>
         clear HC72
         (try clear c1); (try clear c2); (try clear p2); (try clear c3); (try clear c4); (try clear c5); (try clear c6); (try clear c7); (try clear c8); (try clear c9); (try clear c10); (try clear c12); (try clear c13); (try clear c14); (try clear c15); (try clear c16); (try clear c17); (try clear c18); (try clear c20); (try clear c21); (try clear c22); (try clear c23); (try clear c26); (try clear c26b0); (try clear c26b1); (try clear c26b2); (try clear c39); (try clear c42); (try clear c44); (try clear c45); (try clear c46); (try clear c48); (try clear c56); (try clear c57); (try clear c59); (try clear c65); (try clear c66); (try clear c68); (try clear c71); (try clear c74); (try clear c76); (try clear c78); (try clear c80); (try clear c81); (try clear c82); (try clear c84); (try clear c97); (try clear c99); (try clear c100); (try clear c102); (try clear c120); (try clear c121); (try clear c123); (try clear c138); (try clear c139); (try clear c141); (try clear c151); (try clear c152); (try clear c153); (try clear c155); (try clear c165); (try clear c167); (try clear c168); (try clear c170); (try clear c185); (try clear c186); (try clear c188); (try clear c201); (try clear c202); (try clear c203); (try clear c205); (try clear c212); (try clear c214); (try clear c215); (try clear c217); (try clear c229); (try clear c230); (try clear c232); (try clear hcz101_0 hcz101_1 hcz101_2 hfz101_0 hfz101_1 hfz101_2); (try clear hcz103_0 hcz103_1 hcz103_2 hfz103_0 hfz103_1 hfz103_2); (try clear hcz105_0 hcz105_1 hcz105_2 hfz105_0 hfz105_1 hfz105_2); (try clear hcz106_0 hcz106_1 hfz106_0 hfz106_1); (try clear hcz108_0 hcz108_1 hcz108_2 hfz108_0 hfz108_1 hfz108_2); (try clear hcz109_0 hcz109_1 hfz109_0 hfz109_1); (try clear hcz111_0 hcz111_1 hcz111_2 hfz111_0 hfz111_1 hfz111_2); (try clear hcz112_0 hcz112_1 hcz112_2 hfz112_0 hfz112_1 hfz112_2); (try clear hcz114_0 hcz114_1 hcz114_2 hfz114_0 hfz114_1 hfz114_2); (try clear hcz115_0 hcz115_1 hfz115_0 hfz115_1); (try clear hcz117_0 hcz117_1 hcz117_2 hfz117_0 hfz117_1 hfz117_2); (try clear hcz118_0 hcz118_1 hfz118_0 hfz118_1); (try clear hcz122_0 hcz122_1 hcz122_2 hfz122_0 hfz122_1 hfz122_2); (try clear hcz124_0 hcz124_1 hcz124_2 hfz124_0 hfz124_1 hfz124_2); (try clear hcz126_0 hcz126_1 hcz126_2 hfz126_0 hfz126_1 hfz126_2); (try clear hcz127_0 hcz127_1 hfz127_0 hfz127_1); (try clear hcz129_0 hcz129_1 hcz129_2 hfz129_0 hfz129_1 hfz129_2); (try clear hcz130_0 hcz130_1 hfz130_0 hfz130_1); (try clear hcz132_0 hcz132_1 hcz132_2 hfz132_0 hfz132_1 hfz132_2); (try clear hcz133_0 hcz133_1 hcz133_2 hfz133_0 hfz133_1 hfz133_2); (try clear hcz135_0 hcz135_1 hcz135_2 hfz135_0 hfz135_1 hfz135_2); (try clear hcz136_0 hcz136_1 hfz136_0 hfz136_1); (try clear hcz140_0 hcz140_1 hcz140_2 hfz140_0 hfz140_1 hfz140_2); (try clear hcz142_0 hcz142_1 hcz142_2 hfz142_0 hfz142_1 hfz142_2); (try clear hcz144_0 hcz144_1 hcz144_2 hfz144_0 hfz144_1 hfz144_2); (try clear hcz145_0 hcz145_1 hfz145_0 hfz145_1); (try clear hcz147_0 hcz147_1 hcz147_2 hfz147_0 hfz147_1 hfz147_2); (try clear hcz148_0 hcz148_1 hfz148_0 hfz148_1); (try clear hcz154_0 hcz154_1 hcz154_2 hfz154_0 hfz154_1 hfz154_2); (try clear hcz156_0 hcz156_1 hcz156_2 hfz156_0 hfz156_1 hfz156_2); (try clear hcz158_0 hcz158_1 hcz158_2 hfz158_0 hfz158_1 hfz158_2); (try clear hcz159_0 hcz159_1 hfz159_0 hfz159_1); (try clear hcz161_0 hcz161_1 hcz161_2 hfz161_0 hfz161_1 hfz161_2); (try clear hcz162_0 hcz162_1 hcz162_2 hfz162_0 hfz162_1 hfz162_2); (try clear hcz169_0 hcz169_1 hcz169_2 hfz169_0 hfz169_1 hfz169_2); (try clear hcz171_0 hcz171_1 hcz171_2 hfz171_0 hfz171_1 hfz171_2); (try clear hcz173_0 hcz173_1 hcz173_2 hfz173_0 hfz173_1 hfz173_2); (try clear hcz174_0 hcz174_1 hfz174_0 hfz174_1); (try clear hcz176_0 hcz176_1 hcz176_2 hfz176_0 hfz176_1 hfz176_2); (try clear hcz177_0 hcz177_1 hcz177_2 hfz177_0 hfz177_1 hfz177_2); (try clear hcz179_0 hcz179_1 hcz179_2 hfz179_0 hfz179_1 hfz179_2); (try clear hcz180_0 hcz180_1 hfz180_0 hfz180_1); (try clear hcz182_0 hcz182_1 hcz182_2 hfz182_0 hfz182_1 hfz182_2); (try clear hcz183_0 hcz183_1 hfz183_0 hfz183_1); (try clear hcz187_0 hcz187_1 hcz187_2 hfz187_0 hfz187_1 hfz187_2); (try clear hcz189_0 hcz189_1 hcz189_2 hfz189_0 hfz189_1 hfz189_2); (try clear hcz191_0 hcz191_1 hcz191_2 hfz191_0 hfz191_1 hfz191_2); (try clear hcz192_0 hcz192_1 hfz192_0 hfz192_1); (try clear hcz194_0 hcz194_1 hcz194_2 hfz194_0 hfz194_1 hfz194_2); (try clear hcz195_0 hcz195_1 hcz195_2 hfz195_0 hfz195_1 hfz195_2); (try clear hcz197_0 hcz197_1 hcz197_2 hfz197_0 hfz197_1 hfz197_2); (try clear hcz198_0 hcz198_1 hfz198_0 hfz198_1); (try clear hcz204_0 hcz204_1 hcz204_2 hfz204_0 hfz204_1 hfz204_2); (try clear hcz206_0 hcz206_1 hcz206_2 hfz206_0 hfz206_1 hfz206_2); (try clear hcz208_0 hcz208_1 hcz208_2 hfz208_0 hfz208_1 hfz208_2); (try clear hcz209_0 hcz209_1 hcz209_2 hfz209_0 hfz209_1 hfz209_2); (try clear hcz216_0 hcz216_1 hcz216_2 hfz216_0 hfz216_1 hfz216_2); (try clear hcz218_0 hcz218_1 hcz218_2 hfz218_0 hfz218_1 hfz218_2); (try clear hcz220_0 hcz220_1 hcz220_2 hfz220_0 hfz220_1 hfz220_2); (try clear hcz221_0 hcz221_1 hcz221_2 hfz221_0 hfz221_1 hfz221_2); (try clear hcz223_0 hcz223_1 hcz223_2 hfz223_0 hfz223_1 hfz223_2); (try clear hcz224_0 hcz224_1 hfz224_0 hfz224_1); (try clear hcz226_0 hcz226_1 hcz226_2 hfz226_0 hfz226_1 hfz226_2); (try clear hcz227_0 hcz227_1 hfz227_0 hfz227_1); (try clear hcz231_0 hcz231_1 hcz231_2 hfz231_0 hfz231_1 hfz231_2); (try clear hcz233_0 hcz233_1 hcz233_2 hfz233_0 hfz233_1 hfz233_2); (try clear hcz235_0 hcz235_1 hcz235_2 hfz235_0 hfz235_1 hfz235_2); (try clear hcz236_0 hcz236_1 hcz236_2 hfz236_0 hfz236_1 hfz236_2); (try clear hcz238_0 hcz238_1 hcz238_2 hfz238_0 hfz238_1 hfz238_2); (try clear hcz239_0 hcz239_1 hfz239_0 hfz239_1); (try clear hcz47_0 hcz47_1 hcz47_2 hfz47_0 hfz47_1 hfz47_2); (try clear hcz49_0 hcz49_1 hcz49_2 hfz49_0 hfz49_1 hfz49_2); (try clear hcz51_0 hcz51_1 hcz51_2 hfz51_0 hfz51_1 hfz51_2); (try clear hcz52_0 hcz52_1 hcz52_2 hfz52_0 hfz52_1 hfz52_2); (try clear hcz54_0 hcz54_1 hcz54_2 hfz54_0 hfz54_1 hfz54_2); (try clear hcz55_0 hcz55_1 hcz55_2 hfz55_0 hfz55_1 hfz55_2); (try clear hcz58_0 hcz58_1 hcz58_2 hfz58_0 hfz58_1 hfz58_2); (try clear hcz60_0 hcz60_1 hcz60_2 hfz60_0 hfz60_1 hfz60_2); (try clear hcz62_0 hcz62_1 hcz62_2 hfz62_0 hfz62_1 hfz62_2); (try clear hcz63_0 hcz63_1 hcz63_2 hfz63_0 hfz63_1 hfz63_2); (try clear hcz67_0 hcz67_1 hcz67_2 hfz67_0 hfz67_1 hfz67_2); (try clear hcz69_0 hcz69_1 hcz69_2 hfz69_0 hfz69_1 hfz69_2); (try clear hcz83_0 hcz83_1 hcz83_2 hfz83_0 hfz83_1 hfz83_2); (try clear hcz85_0 hcz85_1 hcz85_2 hfz85_0 hfz85_1 hfz85_2); (try clear hcz87_0 hcz87_1 hcz87_2 hfz87_0 hfz87_1 hfz87_2); (try clear hcz88_0 hcz88_1 hfz88_0 hfz88_1); (try clear hcz90_0 hcz90_1 hcz90_2 hfz90_0 hfz90_1 hfz90_2); (try clear hcz91_0 hcz91_1 hfz91_0 hfz91_1); (try clear hcz93_0 hcz93_1 hcz93_2 hfz93_0 hfz93_1 hfz93_2); (try clear hcz94_0 hcz94_1 hcz94_2 hfz94_0 hfz94_1 hfz94_2); (try clear p2)
         obtain ⟨kq, x76_71, rfl, HA, HJ71, BK514, BK515, BK516, HB⟩ := hcut
         cases kq with
         | zero => exact absurd HA.out (by simp [tenancylaw01_AddrNested.j2])
         | succ kj71 =>
          have H := HA.out
          clear HA
          simp only [tenancylaw01_AddrNested.j2] at H
          by_cases c241 : x76_71 = true
          ·subst c241
           have H1 : (none) = some r := by rw [if_pos rfl] at H; exact H
           clear H
           have H := H1
           clear H1
           exact absurd H (by simp)
          ·replace c241 := Bool.eq_false_iff.mpr c241
           subst c241
           have H1 : ((addr_Halves.f kj71 a0_0 a0_1 a0_2).bind fun bt539 => (if bt539.2.2.2.2.2.2 = true then ((addr_Has.f kj71 bt539.1 bt539.2.1 bt539.2.2.1 a2_0 a2_1).bind fun t549 => (if t549 = true then (tenancylaw01_AddrNested.j3 kj71 (0 + 1) a0_0 a0_1 a0_2 a2_0 a2_1 bt539.1 bt539.2.1 bt539.2.2.1 bt539.2.2.2.1 bt539.2.2.2.2.1 bt539.2.2.2.2.2.1) else (tenancylaw01_AddrNested.j3 kj71 0 a0_0 a0_1 a0_2 a2_0 a2_1 bt539.1 bt539.2.1 bt539.2.2.1 bt539.2.2.2.1 bt539.2.2.2.2.1 bt539.2.2.2.2.2.1))) else ((addr_Sound.f kj71 a0_0 a0_1 a0_2).bind fun t548 => (if t548 = true then (some (a0_2 == 128)) else (some true))))) = some r := by rw [if_neg (show ¬ (false = true) by decide)] at H; exact H
           clear H
           have H := H1
           clear H1
           replace H := Option.bind_eq_some_iff.mp H
           obtain ⟨⟨t539, t540, t541, t542, t543, t544, t545⟩, A2420, H⟩ := H
           replace H : (if t545 = true then ((addr_Has.f kj71 t539 t540 t541 a2_0 a2_1).bind fun t549 => (if t549 = true then (tenancylaw01_AddrNested.j3 kj71 (0 + 1) a0_0 a0_1 a0_2 a2_0 a2_1 t539 t540 t541 t542 t543 t544) else (tenancylaw01_AddrNested.j3 kj71 0 a0_0 a0_1 a0_2 a2_0 a2_1 t539 t540 t541 t542 t543 t544))) else ((addr_Sound.f kj71 a0_0 a0_1 a0_2).bind fun t548 => (if t548 = true then (some (a0_2 == 128)) else (some true)))) = some r := H
           have A242 := Aside0.mk A2420
           clear A2420
           by_cases c243 : t545 = true
           ·subst c243
            have H1 : ((addr_Has.f kj71 t539 t540 t541 a2_0 a2_1).bind fun t549 => (if t549 = true then (tenancylaw01_AddrNested.j3 kj71 (0 + 1) a0_0 a0_1 a0_2 a2_0 a2_1 t539 t540 t541 t542 t543 t544) else (tenancylaw01_AddrNested.j3 kj71 0 a0_0 a0_1 a0_2 a2_0 a2_1 t539 t540 t541 t542 t543 t544))) = some r := by rw [if_pos rfl] at H; exact H
            clear H
            have H := H1
            clear H1
            replace H := Option.bind_eq_some_iff.mp H
            obtain ⟨t549, A2440, H⟩ := H
            replace H : (if t549 = true then (tenancylaw01_AddrNested.j3 kj71 (0 + 1) a0_0 a0_1 a0_2 a2_0 a2_1 t539 t540 t541 t542 t543 t544) else (tenancylaw01_AddrNested.j3 kj71 0 a0_0 a0_1 a0_2 a2_0 a2_1 t539 t540 t541 t542 t543 t544)) = some r := H
            have A244 := Aside0.mk A2440
            clear A2440
            have HC245 := Aside0.mk H
            clear H
            have hnb246 := NB514_515.out
            have hnc246 := NB515_514.out
            have hnb247 := NB514_516.out
            have hnc247 := NB516_514.out
            obtain ⟨hcz248_0, hcz248_1, hcz248_2, hfz248_0, hfz248_1, hfz248_2⟩ := zc3 BK514.out
            go_upto_if 95 with (first | ((with_reducible refine gate_callee (f := 35) rfl ?_); refine goesL_ (some 79) rfl rfl Try.func35 (by kernel_rfl) rfl #[.agg #[.int .u64 a0_0, .int .u64 a0_1, .int .i64 a0_2]] rfl (by (try simp only [List.map_toArray, List.map_cons, List.map_nil]); first | done | rfl | (simp only [List.length_drop, List.length_take]; rfl)) ?_; (with_reducible refine (addr_Halves.calls kj71 a0_0 a0_1 a0_2 t539 t540 t541 t542 t543 t544 true _ A242.out).mono ?_); rintro e w249 ⟨rfl, hb⟩; refine ⟨_, rfl, ?_⟩; have n0_ := Aside0.mk (zkB (by (with_reducible repeat (first | refine zkN ?_ _ | refine zk1 ?_ | refine zkA ?_ _)); exact BK514.out) hb); have n1_ := Aside0.mk (zkB (by (with_reducible repeat (first | refine zkN ?_ _ | refine zk1 ?_ | refine zkA ?_ _)); exact BK515.out) hb); have n2_ := Aside0.mk (zkB (by (with_reducible repeat (first | refine zkN ?_ _ | refine zk1 ?_ | refine zkA ?_ _)); exact BK516.out) hb); have n3_ := Aside0.mk (zbP (by repeat (first | (with_reducible first | exact HB.out | apply zbA | apply zbN | apply zb1 | refine zbS ?_ GE514.out | refine zbS ?_ GE515.out | refine zbS ?_ GE516.out) | exact HB.out)) hb); clear BK514; clear BK515; clear BK516; clear HB; have BK514 := n0_; have BK515 := n1_; have BK516 := n2_; have HB := n3_; clear n0_ n1_ n2_ n3_; (try clear hb); (try clear hb2); (try clear hk); (try clear hi)) | ((with_reducible refine gate_dst (N := 7) rfl ?_); refine box_event ?hg (N := 7) ?hd (cs := #[.int .u64 0, .int .u64 0, .int .i64 0]) (t := 33) ?hr ?_; (case hd => rfl); (case hg => rfl); (case hr => first | (go_simp; done) | (go_simp; rfl)); intro gb546 hg w250 hbox hb; have n0_ := Aside0.mk (zkB (by (with_reducible repeat (first | refine zkN ?_ _ | refine zk1 ?_ | refine zkA ?_ _)); exact BK514.out) hb); have n1_ := Aside0.mk (zkB (by (with_reducible repeat (first | refine zkN ?_ _ | refine zk1 ?_ | refine zkA ?_ _)); exact BK515.out) hb); have n2_ := Aside0.mk (zkB (by (with_reducible repeat (first | refine zkN ?_ _ | refine zk1 ?_ | refine zkA ?_ _)); exact BK516.out) hb); have n3_ := Aside0.mk (zbP (by repeat (first | (with_reducible first | exact HB.out | apply zbA | apply zbN | apply zb1 | refine zbS ?_ GE514.out | refine zbS ?_ GE515.out | refine zbS ?_ GE516.out) | exact HB.out)) hb); have n4_ := Aside0.mk (hbox); have n5_ := Aside0.mk ((by rw [hg]; exact (zbZ (by repeat (first | (with_reducible first | exact HB.out | apply zbA | apply zbN | apply zb1 | refine zbS ?_ GE514.out | refine zbS ?_ GE515.out | refine zbS ?_ GE516.out) | exact HB.out))) : w.heap.size ≤ gb546)); have n6_ := n5_; have n7_ := Aside0.mk ((by rw [hg]; exact Nat.ne_of_lt (zkL (by (with_reducible repeat (first | refine zkN ?_ _ | refine zk1 ?_ | refine zkA ?_ _)); exact BK514.out)) : gb514 ≠ gb546)); have n8_ := Aside0.mk (Ne.symm n7_.out); have n9_ := Aside0.mk ((by rw [hg]; exact Nat.ne_of_lt (zkL (by (with_reducible repeat (first | refine zkN ?_ _ | refine zk1 ?_ | refine zkA ?_ _)); exact BK515.out)) : gb515 ≠ gb546)); have n10_ := Aside0.mk (Ne.symm n9_.out); have n11_ := Aside0.mk ((by rw [hg]; exact Nat.ne_of_lt (zkL (by (with_reducible repeat (first | refine zkN ?_ _ | refine zk1 ?_ | refine zkA ?_ _)); exact BK516.out)) : gb516 ≠ gb546)); have n12_ := Aside0.mk (Ne.symm n11_.out); clear BK514; clear BK515; clear BK516; clear HB; have BK514 := n0_; have BK515 := n1_; have BK516 := n2_; have HB := n3_; have BK546 := n4_; have GW546 := n5_; have GE546 := n6_; have NB514_546 := n7_; have NB546_514 := n8_; have NB515_546 := n9_; have NB546_515 := n10_; have NB516_546 := n11_; have NB546_516 := n12_; clear n0_ n1_ n2_ n3_ n4_ n5_ n6_ n7_ n8_ n9_ n10_ n11_ n12_; clear hb hbox hg) | ((with_reducible refine gate_dst (N := 8) rfl ?_); refine box_event ?hg (N := 8) ?hd (cs := #[.int .u64 0, .int .u64 0, .int .i64 0]) (t := 33) ?hr ?_; (case hd => rfl); (case hg => rfl); (case hr => first | (go_simp; done) | (go_simp; rfl)); intro gb547 hg w251 hbox hb; have n0_ := Aside0.mk (zkB (by (with_reducible repeat (first | refine zkN ?_ _ | refine zk1 ?_ | refine zkA ?_ _)); exact BK514.out) hb); have n1_ := Aside0.mk (zkB (by (with_reducible repeat (first | refine zkN ?_ _ | refine zk1 ?_ | refine zkA ?_ _)); exact BK515.out) hb); have n2_ := Aside0.mk (zkB (by (with_reducible repeat (first | refine zkN ?_ _ | refine zk1 ?_ | refine zkA ?_ _)); exact BK516.out) hb); have n3_ := Aside0.mk (zkB (by (with_reducible repeat (first | refine zkN ?_ _ | refine zk1 ?_ | refine zkA ?_ _)); exact BK546.out) hb); have n4_ := Aside0.mk (zbP (by repeat (first | (with_reducible first | exact HB.out | apply zbA | apply zbN | apply zb1 | refine zbS ?_ GE514.out | refine zbS ?_ GE515.out | refine zbS ?_ GE516.out | refine zbS ?_ GE546.out) | exact HB.out)) hb); have n5_ := Aside0.mk (hbox); have n6_ := Aside0.mk ((by rw [hg]; exact (zbZ (by repeat (first | (with_reducible first | exact HB.out | apply zbA | apply zbN | apply zb1 | refine zbS ?_ GE514.out | refine zbS ?_ GE515.out | refine zbS ?_ GE516.out | refine zbS ?_ GE546.out) | exact HB.out))) : w.heap.size ≤ gb547)); have n7_ := n6_; have n8_ := Aside0.mk ((by rw [hg]; exact Nat.ne_of_lt (zkL (by (with_reducible repeat (first | refine zkN ?_ _ | refine zk1 ?_ | refine zkA ?_ _)); exact BK514.out)) : gb514 ≠ gb547)); have n9_ := Aside0.mk (Ne.symm n8_.out); have n10_ := Aside0.mk ((by rw [hg]; exact Nat.ne_of_lt (zkL (by (with_reducible repeat (first | refine zkN ?_ _ | refine zk1 ?_ | refine zkA ?_ _)); exact BK515.out)) : gb515 ≠ gb547)); have n11_ := Aside0.mk (Ne.symm n10_.out); have n12_ := Aside0.mk ((by rw [hg]; exact Nat.ne_of_lt (zkL (by (with_reducible repeat (first | refine zkN ?_ _ | refine zk1 ?_ | refine zkA ?_ _)); exact BK516.out)) : gb516 ≠ gb547)); have n13_ := Aside0.mk (Ne.symm n12_.out); have n14_ := Aside0.mk ((by rw [hg]; exact Nat.ne_of_lt (zkL (by (with_reducible repeat (first | refine zkN ?_ _ | refine zk1 ?_ | refine zkA ?_ _)); exact BK546.out)) : gb546 ≠ gb547)); have n15_ := Aside0.mk (Ne.symm n14_.out); clear BK514; clear BK515; clear BK516; clear BK546; clear HB; have BK514 := n0_; have BK515 := n1_; have BK516 := n2_; have BK546 := n3_; have HB := n4_; have BK547 := n5_; have GW547 := n6_; have GE547 := n7_; have NB514_547 := n8_; have NB547_514 := n9_; have NB515_547 := n10_; have NB547_515 := n11_; have NB516_547 := n12_; have NB547_516 := n13_; have NB546_547 := n14_; have NB547_546 := n15_; clear n0_ n1_ n2_ n3_ n4_ n5_ n6_ n7_ n8_ n9_ n10_ n11_ n12_ n13_ n14_ n15_; clear hb hbox hg; have hnb252 := NB546_514.out; have hnc252 := NB514_546.out; have hnb253 := NB546_515.out; have hnc253 := NB515_546.out; have hnb254 := NB546_516.out; have hnc254 := NB516_546.out; have hnb255 := NB546_547.out; have hnc255 := NB547_546.out; obtain ⟨hcz256_0, hcz256_1, hcz256_2, hfz256_0, hfz256_1, hfz256_2⟩ := zc3 BK546.out; have hnb257 := NB547_514.out; have hnc257 := NB514_547.out; have hnb258 := NB547_515.out; have hnc258 := NB515_547.out; have hnb259 := NB547_516.out; have hnc259 := NB516_547.out; obtain ⟨hcz260_0, hcz260_1, hcz260_2, hfz260_0, hfz260_1, hfz260_2⟩ := zc3 BK547.out; have hnb261 := NB516_515.out; have hnc261 := NB515_516.out; obtain ⟨hcz262_0, hcz262_1, hfz262_0, hfz262_1⟩ := zc2 BK516.out) | ((with_reducible refine gate_callee (f := 20) rfl ?_); refine goesL_ (some 95) rfl rfl Try.func20 (by kernel_rfl) rfl #[.agg #[.int .u64 t539, .int .u64 t540, .int .i64 t541], .agg #[.int .u64 a2_0, .int .u64 a2_1]] rfl (by (try simp only [List.map_toArray, List.map_cons, List.map_nil]); first | done | rfl | (simp only [List.length_drop, List.length_take]; rfl)) ?_; (with_reducible refine (addr_Has.calls kj71 t539 t540 t541 a2_0 a2_1 t549 _ A244.out).mono ?_); rintro e w263 ⟨rfl, hb⟩; refine ⟨_, rfl, ?_⟩; have n0_ := Aside0.mk (zkB (g := gb514) (o := .cells #[.int .u64 a0_0, .int .u64 a0_1, .int .i64 a0_2] 33 (0, 0)) (by (with_reducible repeat (first | refine zkN ?_ _ | refine zk1 ?_ | refine zkA ?_ _)); refine blk_far ?_ NB514_547.out _; (with_reducible repeat (first | refine zkN ?_ _ | refine zk1 ?_ | refine zkA ?_ _)); refine blk_far ?_ NB514_547.out _; (with_reducible repeat (first | refine zkN ?_ _ | refine zk1 ?_ | refine zkA ?_ _)); refine blk_far ?_ NB514_547.out _; (with_reducible repeat (first | refine zkN ?_ _ | refine zk1 ?_ | refine zkA ?_ _)); refine blk_far ?_ NB514_546.out _; (with_reducible repeat (first | refine zkN ?_ _ | refine zk1 ?_ | refine zkA ?_ _)); refine blk_far ?_ NB514_546.out _; (with_reducible repeat (first | refine zkN ?_ _ | refine zk1 ?_ | refine zkA ?_ _)); refine blk_far ?_ NB514_546.out _; (with_reducible repeat (first | refine zkN ?_ _ | refine zk1 ?_ | refine zkA ?_ _)); exact BK514.out) hb); have n1_ := Aside0.mk (zkB (g := gb515) (o := .cells #[.int .u64 a1_0, .int .u64 a1_1, .int .i64 a1_2] 33 (0, 0)) (by (with_reducible repeat (first | refine zkN ?_ _ | refine zk1 ?_ | refine zkA ?_ _)); refine blk_far ?_ NB515_547.out _; (with_reducible repeat (first | refine zkN ?_ _ | refine zk1 ?_ | refine zkA ?_ _)); refine blk_far ?_ NB515_547.out _; (with_reducible repeat (first | refine zkN ?_ _ | refine zk1 ?_ | refine zkA ?_ _)); refine blk_far ?_ NB515_547.out _; (with_reducible repeat (first | refine zkN ?_ _ | refine zk1 ?_ | refine zkA ?_ _)); refine blk_far ?_ NB515_546.out _; (with_reducible repeat (first | refine zkN ?_ _ | refine zk1 ?_ | refine zkA ?_ _)); refine blk_far ?_ NB515_546.out _; (with_reducible repeat (first | refine zkN ?_ _ | refine zk1 ?_ | refine zkA ?_ _)); refine blk_far ?_ NB515_546.out _; (with_reducible repeat (first | refine zkN ?_ _ | refine zk1 ?_ | refine zkA ?_ _)); exact BK515.out) hb); have n2_ := Aside0.mk (zkB (g := gb516) (o := .cells #[.int .u64 a2_0, .int .u64 a2_1] 24 (0, 0)) (by (with_reducible repeat (first | refine zkN ?_ _ | refine zk1 ?_ | refine zkA ?_ _)); refine blk_far ?_ NB516_547.out _; (with_reducible repeat (first | refine zkN ?_ _ | refine zk1 ?_ | refine zkA ?_ _)); refine blk_far ?_ NB516_547.out _; (with_reducible repeat (first | refine zkN ?_ _ | refine zk1 ?_ | refine zkA ?_ _)); refine blk_far ?_ NB516_547.out _; (with_reducible repeat (first | refine zkN ?_ _ | refine zk1 ?_ | refine zkA ?_ _)); refine blk_far ?_ NB516_546.out _; (with_reducible repeat (first | refine zkN ?_ _ | refine zk1 ?_ | refine zkA ?_ _)); refine blk_far ?_ NB516_546.out _; (with_reducible repeat (first | refine zkN ?_ _ | refine zk1 ?_ | refine zkA ?_ _)); refine blk_far ?_ NB516_546.out _; (with_reducible repeat (first | refine zkN ?_ _ | refine zk1 ?_ | refine zkA ?_ _)); exact BK516.out) hb); have n3_ := Aside0.mk (zkB (g := gb546) (o := .cells #[.int .u64 t539, .int .u64 t540, .int .i64 t541] 33 (0, 0)) (by (with_reducible repeat (first | refine zkN ?_ _ | refine zk1 ?_ | refine zkA ?_ _)); refine blk_far ?_ NB546_547.out _; (with_reducible repeat (first | refine zkN ?_ _ | refine zk1 ?_ | refine zkA ?_ _)); refine blk_far ?_ NB546_547.out _; (with_reducible repeat (first | refine zkN ?_ _ | refine zk1 ?_ | refine zkA ?_ _)); refine blk_far ?_ NB546_547.out _; (with_reducible repeat (first | refine zkN ?_ _ | refine zk1 ?_ | refine zkA ?_ _)); refine zkP (cs := #[.int .u64 t539, .int .u64 t540, .int .i64 0]) ?_ 2 _ rfl; (with_reducible repeat (first | refine zkN ?_ _ | refine zk1 ?_ | refine zkA ?_ _)); refine zkP (cs := #[.int .u64 t539, .int .u64 0, .int .i64 0]) ?_ 1 _ rfl; (with_reducible repeat (first | refine zkN ?_ _ | refine zk1 ?_ | refine zkA ?_ _)); refine zkP (cs := #[.int .u64 0, .int .u64 0, .int .i64 0]) ?_ 0 _ rfl; (with_reducible repeat (first | refine zkN ?_ _ | refine zk1 ?_ | refine zkA ?_ _)); exact BK546.out) hb); have n4_ := Aside0.mk (zkB (g := gb547) (o := .cells #[.int .u64 t542, .int .u64 t543, .int .i64 t544] 33 (0, 0)) (by (with_reducible repeat (first | refine zkN ?_ _ | refine zk1 ?_ | refine zkA ?_ _)); refine zkP (cs := #[.int .u64 t542, .int .u64 t543, .int .i64 0]) ?_ 2 _ rfl; (with_reducible repeat (first | refine zkN ?_ _ | refine zk1 ?_ | refine zkA ?_ _)); refine zkP (cs := #[.int .u64 t542, .int .u64 0, .int .i64 0]) ?_ 1 _ rfl; (with_reducible repeat (first | refine zkN ?_ _ | refine zk1 ?_ | refine zkA ?_ _)); refine zkP (cs := #[.int .u64 0, .int .u64 0, .int .i64 0]) ?_ 0 _ rfl; (with_reducible repeat (first | refine zkN ?_ _ | refine zk1 ?_ | refine zkA ?_ _)); refine blk_far ?_ NB547_546.out _; (with_reducible repeat (first | refine zkN ?_ _ | refine zk1 ?_ | refine zkA ?_ _)); refine blk_far ?_ NB547_546.out _; (with_reducible repeat (first | refine zkN ?_ _ | refine zk1 ?_ | refine zkA ?_ _)); refine blk_far ?_ NB547_546.out _; (with_reducible repeat (first | refine zkN ?_ _ | refine zk1 ?_ | refine zkA ?_ _)); exact BK547.out) hb); have n5_ := Aside0.mk (zbP (by repeat (first | (with_reducible first | exact HB.out | apply zbA | apply zbN | apply zb1 | refine zbS ?_ GE514.out | refine zbS ?_ GE515.out | refine zbS ?_ GE516.out | refine zbS ?_ GE546.out | refine zbS ?_ GE547.out) | exact HB.out)) hb); clear BK514; clear BK515; clear BK516; clear BK546; clear BK547; clear HB; have BK514 := n0_; have BK515 := n1_; have BK516 := n2_; have BK546 := n3_; have BK547 := n4_; have HB := n5_; clear n0_ n1_ n2_ n3_ n4_ n5_; (try clear hb); (try clear hb2); (try clear hk); (try clear hi)))
            (try simp only [Act.put, List.setIfInBounds_toArray, List.set_cons_zero, List.set_cons_succ])
            go_cut [10] (fun v10 wc => ∃ (kq : Nat) (x10_244 : Int), v10 = .int .i64 x10_244 ∧ Aside0 (tenancylaw01_AddrNested.j3 kq x10_244 a0_0 a0_1 a0_2 a2_0 a2_1 t539 t540 t541 t542 t543 t544 = some r) ∧ Aside0 (kq ≤ kj71) ∧ Aside0 (wc.heap[gb514]? = some (.cells #[.int .u64 a0_0, .int .u64 a0_1, .int .i64 a0_2] 33 (0, 0))) ∧ Aside0 (wc.heap[gb515]? = some (.cells #[.int .u64 a1_0, .int .u64 a1_1, .int .i64 a1_2] 33 (0, 0))) ∧ Aside0 (wc.heap[gb516]? = some (.cells #[.int .u64 a2_0, .int .u64 a2_1] 24 (0, 0))) ∧ Aside0 (wc.heap[gb546]? = some (.cells #[.int .u64 t539, .int .u64 t540, .int .i64 t541] 33 (0, 0))) ∧ Aside0 (wc.heap[gb547]? = some (.cells #[.int .u64 t542, .int .u64 t543, .int .i64 t544] 33 (0, 0))) ∧ Aside0 (Below w.heap.size w wc))
            case first =>
             have H := HC245.out
             clear HC245
             by_cases c264 : t549 = true
             ·subst c264
              have H1 : (tenancylaw01_AddrNested.j3 kj71 (0 + 1) a0_0 a0_1 a0_2 a2_0 a2_1 t539 t540 t541 t542 t543 t544) = some r := by rw [if_pos rfl] at H; exact H
              clear H
              have H := H1
              clear H1
              have H' := Aside0.mk H
              clear H
              go_wp2
              go_meet
              case rel => exact ⟨_, (0 + 1), (by first | rfl | (simp; done) | (simp [*]; done)), H', ⟨by have := HJ5.out; have := HJ39.out; have := HJ71.out; first | omega | exact Nat.le_refl _⟩, ⟨by (with_reducible repeat (first | refine zkN ?_ _ | refine zk1 ?_ | refine zkA ?_ _)); exact BK514.out⟩, ⟨by (with_reducible repeat (first | refine zkN ?_ _ | refine zk1 ?_ | refine zkA ?_ _)); exact BK515.out⟩, ⟨by (with_reducible repeat (first | refine zkN ?_ _ | refine zk1 ?_ | refine zkA ?_ _)); exact BK516.out⟩, ⟨by (with_reducible repeat (first | refine zkN ?_ _ | refine zk1 ?_ | refine zkA ?_ _)); exact BK546.out⟩, ⟨by (with_reducible repeat (first | refine zkN ?_ _ | refine zk1 ?_ | refine zkA ?_ _)); exact BK547.out⟩, ⟨by repeat (first | (with_reducible first | exact HB.out | apply zbA | apply zbN | apply zb1 | refine zbS ?_ GE514.out | refine zbS ?_ GE515.out | refine zbS ?_ GE516.out | refine zbS ?_ GE546.out | refine zbS ?_ GE547.out) | exact HB.out)⟩⟩
             ·replace c264 := Bool.eq_false_iff.mpr c264
              subst c264
              have H1 : (tenancylaw01_AddrNested.j3 kj71 0 a0_0 a0_1 a0_2 a2_0 a2_1 t539 t540 t541 t542 t543 t544) = some r := by rw [if_neg (show ¬ (false = true) by decide)] at H; exact H
              clear H
              have H := H1
              clear H1
              have H' := Aside0.mk H
              clear H
              go_wp2
              go_meet
              case rel => exact ⟨_, (0), (by first | rfl | (simp; done) | (simp [*]; done)), H', ⟨by have := HJ5.out; have := HJ39.out; have := HJ71.out; first | omega | exact Nat.le_refl _⟩, ⟨by (with_reducible repeat (first | refine zkN ?_ _ | refine zk1 ?_ | refine zkA ?_ _)); exact BK514.out⟩, ⟨by (with_reducible repeat (first | refine zkN ?_ _ | refine zk1 ?_ | refine zkA ?_ _)); exact BK515.out⟩, ⟨by (with_reducible repeat (first | refine zkN ?_ _ | refine zk1 ?_ | refine zkA ?_ _)); exact BK516.out⟩, ⟨by (with_reducible repeat (first | refine zkN ?_ _ | refine zk1 ?_ | refine zkA ?_ _)); exact BK546.out⟩, ⟨by (with_reducible repeat (first | refine zkN ?_ _ | refine zk1 ?_ | refine zkA ?_ _)); exact BK547.out⟩, ⟨by repeat (first | (with_reducible first | exact HB.out | apply zbA | apply zbN | apply zb1 | refine zbS ?_ GE514.out | refine zbS ?_ GE515.out | refine zbS ?_ GE516.out | refine zbS ?_ GE546.out | refine zbS ?_ GE547.out) | exact HB.out)⟩⟩
            case rest =>
             clear HC245
             (try clear c1); (try clear c2); (try clear p2); (try clear c3); (try clear c15); (try clear c16); (try clear c17); (try clear c18); (try clear c20); (try clear c21); (try clear c22); (try clear c23); (try clear c24); (try clear c25); (try clear c26); (try clear c35); (try clear c152); (try clear c153); (try clear c155); (try clear c165); (try clear c167); (try clear c168); (try clear c170); (try clear c185); (try clear c186); (try clear c188); (try clear c201); (try clear c202); (try clear c203); (try clear c205); (try clear c212); (try clear c214); (try clear c215); (try clear c217); (try clear c229); (try clear c230); (try clear c232); (try clear c241); (try clear c243); (try clear c246); (try clear c247); (try clear c252); (try clear c253); (try clear c254); (try clear c255); (try clear c257); (try clear c258); (try clear c259); (try clear c261); (try clear c264); (try clear hcz101_0 hcz101_1 hcz101_2 hfz101_0 hfz101_1 hfz101_2); (try clear hcz103_0 hcz103_1 hcz103_2 hfz103_0 hfz103_1 hfz103_2); (try clear hcz105_0 hcz105_1 hcz105_2 hfz105_0 hfz105_1 hfz105_2); (try clear hcz106_0 hcz106_1 hfz106_0 hfz106_1); (try clear hcz108_0 hcz108_1 hcz108_2 hfz108_0 hfz108_1 hfz108_2); (try clear hcz109_0 hcz109_1 hfz109_0 hfz109_1); (try clear hcz111_0 hcz111_1 hcz111_2 hfz111_0 hfz111_1 hfz111_2); (try clear hcz112_0 hcz112_1 hcz112_2 hfz112_0 hfz112_1 hfz112_2); (try clear hcz114_0 hcz114_1 hcz114_2 hfz114_0 hfz114_1 hfz114_2); (try clear hcz115_0 hcz115_1 hfz115_0 hfz115_1); (try clear hcz117_0 hcz117_1 hcz117_2 hfz117_0 hfz117_1 hfz117_2); (try clear hcz118_0 hcz118_1 hfz118_0 hfz118_1); (try clear hcz122_0 hcz122_1 hcz122_2 hfz122_0 hfz122_1 hfz122_2); (try clear hcz124_0 hcz124_1 hcz124_2 hfz124_0 hfz124_1 hfz124_2); (try clear hcz126_0 hcz126_1 hcz126_2 hfz126_0 hfz126_1 hfz126_2); (try clear hcz127_0 hcz127_1 hfz127_0 hfz127_1); (try clear hcz129_0 hcz129_1 hcz129_2 hfz129_0 hfz129_1 hfz129_2); (try clear hcz130_0 hcz130_1 hfz130_0 hfz130_1); (try clear hcz132_0 hcz132_1 hcz132_2 hfz132_0 hfz132_1 hfz132_2); (try clear hcz133_0 hcz133_1 hcz133_2 hfz133_0 hfz133_1 hfz133_2); (try clear hcz135_0 hcz135_1 hcz135_2 hfz135_0 hfz135_1 hfz135_2); (try clear hcz136_0 hcz136_1 hfz136_0 hfz136_1); (try clear hcz140_0 hcz140_1 hcz140_2 hfz140_0 hfz140_1 hfz140_2); (try clear hcz142_0 hcz142_1 hcz142_2 hfz142_0 hfz142_1 hfz142_2); (try clear hcz144_0 hcz144_1 hcz144_2 hfz144_0 hfz144_1 hfz144_2); (try clear hcz145_0 hcz145_1 hfz145_0 hfz145_1); (try clear hcz147_0 hcz147_1 hcz147_2 hfz147_0 hfz147_1 hfz147_2); (try clear hcz148_0 hcz148_1 hfz148_0 hfz148_1); (try clear hcz154_0 hcz154_1 hcz154_2 hfz154_0 hfz154_1 hfz154_2); (try clear hcz156_0 hcz156_1 hcz156_2 hfz156_0 hfz156_1 hfz156_2); (try clear hcz158_0 hcz158_1 hcz158_2 hfz158_0 hfz158_1 hfz158_2); (try clear hcz159_0 hcz159_1 hfz159_0 hfz159_1); (try clear hcz161_0 hcz161_1 hcz161_2 hfz161_0 hfz161_1 hfz161_2); (try clear hcz162_0 hcz162_1 hcz162_2 hfz162_0 hfz162_1 hfz162_2); (try clear hcz169_0 hcz169_1 hcz169_2 hfz169_0 hfz169_1 hfz169_2); (try clear hcz171_0 hcz171_1 hcz171_2 hfz171_0 hfz171_1 hfz171_2); (try clear hcz173_0 hcz173_1 hcz173_2 hfz173_0 hfz173_1 hfz173_2); (try clear hcz174_0 hcz174_1 hfz174_0 hfz174_1); (try clear hcz176_0 hcz176_1 hcz176_2 hfz176_0 hfz176_1 hfz176_2); (try clear hcz177_0 hcz177_1 hcz177_2 hfz177_0 hfz177_1 hfz177_2); (try clear hcz179_0 hcz179_1 hcz179_2 hfz179_0 hfz179_1 hfz179_2); (try clear hcz180_0 hcz180_1 hfz180_0 hfz180_1); (try clear hcz182_0 hcz182_1 hcz182_2 hfz182_0 hfz182_1 hfz182_2); (try clear hcz183_0 hcz183_1 hfz183_0 hfz183_1); (try clear hcz187_0 hcz187_1 hcz187_2 hfz187_0 hfz187_1 hfz187_2); (try clear hcz189_0 hcz189_1 hcz189_2 hfz189_0 hfz189_1 hfz189_2); (try clear hcz191_0 hcz191_1 hcz191_2 hfz191_0 hfz191_1 hfz191_2); (try clear hcz192_0 hcz192_1 hfz192_0 hfz192_1); (try clear hcz194_0 hcz194_1 hcz194_2 hfz194_0 hfz194_1 hfz194_2); (try clear hcz195_0 hcz195_1 hcz195_2 hfz195_0 hfz195_1 hfz195_2); (try clear hcz197_0 hcz197_1 hcz197_2 hfz197_0 hfz197_1 hfz197_2); (try clear hcz198_0 hcz198_1 hfz198_0 hfz198_1); (try clear hcz204_0 hcz204_1 hcz204_2 hfz204_0 hfz204_1 hfz204_2); (try clear hcz206_0 hcz206_1 hcz206_2 hfz206_0 hfz206_1 hfz206_2); (try clear hcz208_0 hcz208_1 hcz208_2 hfz208_0 hfz208_1 hfz208_2); (try clear hcz209_0 hcz209_1 hcz209_2 hfz209_0 hfz209_1 hfz209_2); (try clear hcz216_0 hcz216_1 hcz216_2 hfz216_0 hfz216_1 hfz216_2); (try clear hcz218_0 hcz218_1 hcz218_2 hfz218_0 hfz218_1 hfz218_2); (try clear hcz220_0 hcz220_1 hcz220_2 hfz220_0 hfz220_1 hfz220_2); (try clear hcz221_0 hcz221_1 hcz221_2 hfz221_0 hfz221_1 hfz221_2); (try clear hcz223_0 hcz223_1 hcz223_2 hfz223_0 hfz223_1 hfz223_2); (try clear hcz224_0 hcz224_1 hfz224_0 hfz224_1); (try clear hcz226_0 hcz226_1 hcz226_2 hfz226_0 hfz226_1 hfz226_2); (try clear hcz227_0 hcz227_1 hfz227_0 hfz227_1); (try clear hcz231_0 hcz231_1 hcz231_2 hfz231_0 hfz231_1 hfz231_2); (try clear hcz233_0 hcz233_1 hcz233_2 hfz233_0 hfz233_1 hfz233_2); (try clear hcz235_0 hcz235_1 hcz235_2 hfz235_0 hfz235_1 hfz235_2); (try clear hcz236_0 hcz236_1 hcz236_2 hfz236_0 hfz236_1 hfz236_2); (try clear hcz238_0 hcz238_1 hcz238_2 hfz238_0 hfz238_1 hfz238_2); (try clear hcz239_0 hcz239_1 hfz239_0 hfz239_1); (try clear hcz248_0 hcz248_1 hcz248_2 hfz248_0 hfz248_1 hfz248_2); (try clear hcz256_0 hcz256_1 hcz256_2 hfz256_0 hfz256_1 hfz256_2); (try clear hcz260_0 hcz260_1 hcz260_2 hfz260_0 hfz260_1 hfz260_2); (try clear hcz262_0 hcz262_1 hfz262_0 hfz262_1); (try clear hcz47_0 hcz47_1 hcz47_2 hfz47_0 hfz47_1 hfz47_2); (try clear hcz49_0 hcz49_1 hcz49_2 hfz49_0 hfz49_1 hfz49_2); (try clear hcz51_0 hcz51_1 hcz51_2 hfz51_0 hfz51_1 hfz51_2); (try clear hcz52_0 hcz52_1 hcz52_2 hfz52_0 hfz52_1 hfz52_2); (try clear hcz54_0 hcz54_1 hcz54_2 hfz54_0 hfz54_1 hfz54_2); (try clear hcz55_0 hcz55_1 hcz55_2 hfz55_0 hfz55_1 hfz55_2); (try clear hcz58_0 hcz58_1 hcz58_2 hfz58_0 hfz58_1 hfz58_2); (try clear hcz60_0 hcz60_1 hcz60_2 hfz60_0 hfz60_1 hfz60_2); (try clear hcz62_0 hcz62_1 hcz62_2 hfz62_0 hfz62_1 hfz62_2); (try clear hcz63_0 hcz63_1 hcz63_2 hfz63_0 hfz63_1 hfz63_2); (try clear hcz67_0 hcz67_1 hcz67_2 hfz67_0 hfz67_1 hfz67_2); (try clear hcz69_0 hcz69_1 hcz69_2 hfz69_0 hfz69_1 hfz69_2); (try clear hcz83_0 hcz83_1 hcz83_2 hfz83_0 hfz83_1 hfz83_2); (try clear hcz85_0 hcz85_1 hcz85_2 hfz85_0 hfz85_1 hfz85_2); (try clear hcz87_0 hcz87_1 hcz87_2 hfz87_0 hfz87_1 hfz87_2); (try clear hcz88_0 hcz88_1 hfz88_0 hfz88_1); (try clear hcz90_0 hcz90_1 hcz90_2 hfz90_0 hfz90_1 hfz90_2); (try clear hcz91_0 hcz91_1 hfz91_0 hfz91_1); (try clear hcz93_0 hcz93_1 hcz93_2 hfz93_0 hfz93_1 hfz93_2); (try clear hcz94_0 hcz94_1 hcz94_2 hfz94_0 hfz94_1 hfz94_2); (try clear p2)
             obtain ⟨kq, x10_244, rfl, HA, HJ244, BK514, BK515, BK516, BK546, BK547, HB⟩ := hcut
             cases kq with
             | zero => exact absurd HA.out (by simp [tenancylaw01_AddrNested.j3])
             | succ kj244 =>
              have H := HA.out
              clear HA
              simp only [tenancylaw01_AddrNested.j3] at H
              replace H := Option.bind_eq_some_iff.mp H
              obtain ⟨t550, A2650, H⟩ := H
              replace H : (if t550 = true then (tenancylaw01_AddrNested.j4 kj244 (wrap64 (x10_244 + 1)) a0_0 a0_1 a0_2 a2_0 a2_1 t539 t540 t541 t542 t543 t544) else (tenancylaw01_AddrNested.j4 kj244 x10_244 a0_0 a0_1 a0_2 a2_0 a2_1 t539 t540 t541 t542 t543 t544)) = some r := H
              have A265 := Aside0.mk A2650
              clear A2650
              have HC266 := Aside0.mk H
              clear H
              have hnb267 := NB547_514.out
              have hnc267 := NB514_547.out
              have hnb268 := NB547_515.out
              have hnc268 := NB515_547.out
              have hnb269 := NB547_516.out
              have hnc269 := NB516_547.out
              have hnb270 := NB547_546.out
              have hnc270 := NB546_547.out
              obtain ⟨hcz271_0, hcz271_1, hcz271_2, hfz271_0, hfz271_1, hfz271_2⟩ := zc3 BK547.out
              have hnb272 := NB516_514.out
              have hnc272 := NB514_516.out
              have hnb273 := NB516_515.out
              have hnc273 := NB515_516.out
              have hnb274 := NB516_546.out
              have hnc274 := NB546_516.out
              obtain ⟨hcz275_0, hcz275_1, hfz275_0, hfz275_1⟩ := zc2 BK516.out
              go_upto_if 100 with (first | ((with_reducible refine gate_callee (f := 20) rfl ?_); refine goesL_ (some 100) rfl rfl Try.func20 (by kernel_rfl) rfl #[.agg #[.int .u64 t542, .int .u64 t543, .int .i64 t544], .agg #[.int .u64 a2_0, .int .u64 a2_1]] rfl (by (try simp only [List.map_toArray, List.map_cons, List.map_nil]); first | done | rfl | (simp only [List.length_drop, List.length_take]; rfl)) ?_; (with_reducible refine (addr_Has.calls kj244 t542 t543 t544 a2_0 a2_1 t550 _ A265.out).mono ?_); rintro e w276 ⟨rfl, hb⟩; refine ⟨_, rfl, ?_⟩; have n0_ := Aside0.mk (zkB (by (with_reducible repeat (first | refine zkN ?_ _ | refine zk1 ?_ | refine zkA ?_ _)); exact BK514.out) hb); have n1_ := Aside0.mk (zkB (by (with_reducible repeat (first | refine zkN ?_ _ | refine zk1 ?_ | refine zkA ?_ _)); exact BK515.out) hb); have n2_ := Aside0.mk (zkB (by (with_reducible repeat (first | refine zkN ?_ _ | refine zk1 ?_ | refine zkA ?_ _)); exact BK516.out) hb); have n3_ := Aside0.mk (zkB (by (with_reducible repeat (first | refine zkN ?_ _ | refine zk1 ?_ | refine zkA ?_ _)); exact BK546.out) hb); have n4_ := Aside0.mk (zkB (by (with_reducible repeat (first | refine zkN ?_ _ | refine zk1 ?_ | refine zkA ?_ _)); exact BK547.out) hb); have n5_ := Aside0.mk (zbP (by repeat (first | (with_reducible first | exact HB.out | apply zbA | apply zbN | apply zb1 | refine zbS ?_ GE514.out | refine zbS ?_ GE515.out | refine zbS ?_ GE516.out | refine zbS ?_ GE546.out | refine zbS ?_ GE547.out) | exact HB.out)) hb); clear BK514; clear BK515; clear BK516; clear BK546; clear BK547; clear HB; have BK514 := n0_; have BK515 := n1_; have BK516 := n2_; have BK546 := n3_; have BK547 := n4_; have HB := n5_; clear n0_ n1_ n2_ n3_ n4_ n5_; (try clear hb); (try clear hb2); (try clear hk); (try clear hi)))
              (try simp only [Act.put, List.setIfInBounds_toArray, List.set_cons_zero, List.set_cons_succ])
              go_cut [10] (fun v10 wc => ∃ (kq : Nat) (x10_265 : Int), v10 = .int .i64 x10_265 ∧ Aside0 (tenancylaw01_AddrNested.j4 kq x10_265 a0_0 a0_1 a0_2 a2_0 a2_1 t539 t540 t541 t542 t543 t544 = some r) ∧ Aside0 (kq ≤ kj244) ∧ Aside0 (wc.heap[gb514]? = some (.cells #[.int .u64 a0_0, .int .u64 a0_1, .int .i64 a0_2] 33 (0, 0))) ∧ Aside0 (wc.heap[gb515]? = some (.cells #[.int .u64 a1_0, .int .u64 a1_1, .int .i64 a1_2] 33 (0, 0))) ∧ Aside0 (wc.heap[gb516]? = some (.cells #[.int .u64 a2_0, .int .u64 a2_1] 24 (0, 0))) ∧ Aside0 (wc.heap[gb546]? = some (.cells #[.int .u64 t539, .int .u64 t540, .int .i64 t541] 33 (0, 0))) ∧ Aside0 (wc.heap[gb547]? = some (.cells #[.int .u64 t542, .int .u64 t543, .int .i64 t544] 33 (0, 0))) ∧ Aside0 (Below w.heap.size w wc))
              case first =>
               have H := HC266.out
               clear HC266
               by_cases c277 : t550 = true
               ·subst c277
                have H1 : (tenancylaw01_AddrNested.j4 kj244 (wrap64 (x10_244 + 1)) a0_0 a0_1 a0_2 a2_0 a2_1 t539 t540 t541 t542 t543 t544) = some r := by rw [if_pos rfl] at H; exact H
                clear H
                have H := H1
                clear H1
                have H' := Aside0.mk H
                clear H
                go_wp2
                go_meet
                case rel => exact ⟨_, (wrap64 (x10_244 + 1)), (by first | rfl | (simp; done) | (simp [*]; done)), H', ⟨by have := HJ5.out; have := HJ39.out; have := HJ71.out; have := HJ244.out; first | omega | exact Nat.le_refl _⟩, ⟨by (with_reducible repeat (first | refine zkN ?_ _ | refine zk1 ?_ | refine zkA ?_ _)); exact BK514.out⟩, ⟨by (with_reducible repeat (first | refine zkN ?_ _ | refine zk1 ?_ | refine zkA ?_ _)); exact BK515.out⟩, ⟨by (with_reducible repeat (first | refine zkN ?_ _ | refine zk1 ?_ | refine zkA ?_ _)); exact BK516.out⟩, ⟨by (with_reducible repeat (first | refine zkN ?_ _ | refine zk1 ?_ | refine zkA ?_ _)); exact BK546.out⟩, ⟨by (with_reducible repeat (first | refine zkN ?_ _ | refine zk1 ?_ | refine zkA ?_ _)); exact BK547.out⟩, ⟨by repeat (first | (with_reducible first | exact HB.out | apply zbA | apply zbN | apply zb1 | refine zbS ?_ GE514.out | refine zbS ?_ GE515.out | refine zbS ?_ GE516.out | refine zbS ?_ GE546.out | refine zbS ?_ GE547.out) | exact HB.out)⟩⟩
               ·replace c277 := Bool.eq_false_iff.mpr c277
                subst c277
                have H1 : (tenancylaw01_AddrNested.j4 kj244 x10_244 a0_0 a0_1 a0_2 a2_0 a2_1 t539 t540 t541 t542 t543 t544) = some r := by rw [if_neg (show ¬ (false = true) by decide)] at H; exact H
                clear H
                have H := H1
                clear H1
                have H' := Aside0.mk H
                clear H
                go_wp2
                go_meet
                case rel => exact ⟨_, (x10_244), (by first | rfl | (simp; done) | (simp [*]; done)), H', ⟨by have := HJ5.out; have := HJ39.out; have := HJ71.out; have := HJ244.out; first | omega | exact Nat.le_refl _⟩, ⟨by (with_reducible repeat (first | refine zkN ?_ _ | refine zk1 ?_ | refine zkA ?_ _)); exact BK514.out⟩, ⟨by (with_reducible repeat (first | refine zkN ?_ _ | refine zk1 ?_ | refine zkA ?_ _)); exact BK515.out⟩, ⟨by (with_reducible repeat (first | refine zkN ?_ _ | refine zk1 ?_ | refine zkA ?_ _)); exact BK516.out⟩, ⟨by (with_reducible repeat (first | refine zkN ?_ _ | refine zk1 ?_ | refine zkA ?_ _)); exact BK546.out⟩, ⟨by (with_reducible repeat (first | refine zkN ?_ _ | refine zk1 ?_ | refine zkA ?_ _)); exact BK547.out⟩, ⟨by repeat (first | (with_reducible first | exact HB.out | apply zbA | apply zbN | apply zb1 | refine zbS ?_ GE514.out | refine zbS ?_ GE515.out | refine zbS ?_ GE516.out | refine zbS ?_ GE546.out | refine zbS ?_ GE547.out) | exact HB.out)⟩⟩
              case rest =>
               clear HC266
               (try clear c2); (try clear p2); (try clear p6); (try clear c20); (try clear c25); (try clear c26); (try clear c27); (try clear p64); (try clear c252); (try clear c253); (try clear c254); (try clear c255); (try clear c257); (try clear c258); (try clear c259); (try clear c261); (try clear c264); (try clear c267); (try clear c268); (try clear c269); (try clear c270); (try clear c272); (try clear c273); (try clear c274); (try clear c277); (try clear hcz101_0 hcz101_1 hcz101_2 hfz101_0 hfz101_1 hfz101_2); (try clear hcz103_0 hcz103_1 hcz103_2 hfz103_0 hfz103_1 hfz103_2); (try clear hcz105_0 hcz105_1 hcz105_2 hfz105_0 hfz105_1 hfz105_2); (try clear hcz106_0 hcz106_1 hfz106_0 hfz106_1); (try clear hcz108_0 hcz108_1 hcz108_2 hfz108_0 hfz108_1 hfz108_2); (try clear hcz109_0 hcz109_1 hfz109_0 hfz109_1); (try clear hcz111_0 hcz111_1 hcz111_2 hfz111_0 hfz111_1 hfz111_2); (try clear hcz112_0 hcz112_1 hcz112_2 hfz112_0 hfz112_1 hfz112_2); (try clear hcz114_0 hcz114_1 hcz114_2 hfz114_0 hfz114_1 hfz114_2); (try clear hcz115_0 hcz115_1 hfz115_0 hfz115_1); (try clear hcz117_0 hcz117_1 hcz117_2 hfz117_0 hfz117_1 hfz117_2); (try clear hcz118_0 hcz118_1 hfz118_0 hfz118_1); (try clear hcz122_0 hcz122_1 hcz122_2 hfz122_0 hfz122_1 hfz122_2); (try clear hcz124_0 hcz124_1 hcz124_2 hfz124_0 hfz124_1 hfz124_2); (try clear hcz126_0 hcz126_1 hcz126_2 hfz126_0 hfz126_1 hfz126_2); (try clear hcz127_0 hcz127_1 hfz127_0 hfz127_1); (try clear hcz129_0 hcz129_1 hcz129_2 hfz129_0 hfz129_1 hfz129_2); (try clear hcz130_0 hcz130_1 hfz130_0 hfz130_1); (try clear hcz132_0 hcz132_1 hcz132_2 hfz132_0 hfz132_1 hfz132_2); (try clear hcz133_0 hcz133_1 hcz133_2 hfz133_0 hfz133_1 hfz133_2); (try clear hcz135_0 hcz135_1 hcz135_2 hfz135_0 hfz135_1 hfz135_2); (try clear hcz136_0 hcz136_1 hfz136_0 hfz136_1); (try clear hcz140_0 hcz140_1 hcz140_2 hfz140_0 hfz140_1 hfz140_2); (try clear hcz142_0 hcz142_1 hcz142_2 hfz142_0 hfz142_1 hfz142_2); (try clear hcz144_0 hcz144_1 hcz144_2 hfz144_0 hfz144_1 hfz144_2); (try clear hcz145_0 hcz145_1 hfz145_0 hfz145_1); (try clear hcz147_0 hcz147_1 hcz147_2 hfz147_0 hfz147_1 hfz147_2); (try clear hcz148_0 hcz148_1 hfz148_0 hfz148_1); (try clear hcz154_0 hcz154_1 hcz154_2 hfz154_0 hfz154_1 hfz154_2); (try clear hcz156_0 hcz156_1 hcz156_2 hfz156_0 hfz156_1 hfz156_2); (try clear hcz158_0 hcz158_1 hcz158_2 hfz158_0 hfz158_1 hfz158_2); (try clear hcz159_0 hcz159_1 hfz159_0 hfz159_1); (try clear hcz161_0 hcz161_1 hcz161_2 hfz161_0 hfz161_1 hfz161_2); (try clear hcz162_0 hcz162_1 hcz162_2 hfz162_0 hfz162_1 hfz162_2); (try clear hcz169_0 hcz169_1 hcz169_2 hfz169_0 hfz169_1 hfz169_2); (try clear hcz171_0 hcz171_1 hcz171_2 hfz171_0 hfz171_1 hfz171_2); (try clear hcz173_0 hcz173_1 hcz173_2 hfz173_0 hfz173_1 hfz173_2); (try clear hcz174_0 hcz174_1 hfz174_0 hfz174_1); (try clear hcz176_0 hcz176_1 hcz176_2 hfz176_0 hfz176_1 hfz176_2); (try clear hcz177_0 hcz177_1 hcz177_2 hfz177_0 hfz177_1 hfz177_2); (try clear hcz179_0 hcz179_1 hcz179_2 hfz179_0 hfz179_1 hfz179_2); (try clear hcz180_0 hcz180_1 hfz180_0 hfz180_1); (try clear hcz182_0 hcz182_1 hcz182_2 hfz182_0 hfz182_1 hfz182_2); (try clear hcz183_0 hcz183_1 hfz183_0 hfz183_1); (try clear hcz187_0 hcz187_1 hcz187_2 hfz187_0 hfz187_1 hfz187_2); (try clear hcz189_0 hcz189_1 hcz189_2 hfz189_0 hfz189_1 hfz189_2); (try clear hcz191_0 hcz191_1 hcz191_2 hfz191_0 hfz191_1 hfz191_2); (try clear hcz192_0 hcz192_1 hfz192_0 hfz192_1); (try clear hcz194_0 hcz194_1 hcz194_2 hfz194_0 hfz194_1 hfz194_2); (try clear hcz195_0 hcz195_1 hcz195_2 hfz195_0 hfz195_1 hfz195_2); (try clear hcz197_0 hcz197_1 hcz197_2 hfz197_0 hfz197_1 hfz197_2); (try clear hcz198_0 hcz198_1 hfz198_0 hfz198_1); (try clear hcz204_0 hcz204_1 hcz204_2 hfz204_0 hfz204_1 hfz204_2); (try clear hcz206_0 hcz206_1 hcz206_2 hfz206_0 hfz206_1 hfz206_2); (try clear hcz208_0 hcz208_1 hcz208_2 hfz208_0 hfz208_1 hfz208_2); (try clear hcz209_0 hcz209_1 hcz209_2 hfz209_0 hfz209_1 hfz209_2); (try clear hcz216_0 hcz216_1 hcz216_2 hfz216_0 hfz216_1 hfz216_2); (try clear hcz218_0 hcz218_1 hcz218_2 hfz218_0 hfz218_1 hfz218_2); (try clear hcz220_0 hcz220_1 hcz220_2 hfz220_0 hfz220_1 hfz220_2); (try clear hcz221_0 hcz221_1 hcz221_2 hfz221_0 hfz221_1 hfz221_2); (try clear hcz223_0 hcz223_1 hcz223_2 hfz223_0 hfz223_1 hfz223_2); (try clear hcz224_0 hcz224_1 hfz224_0 hfz224_1); (try clear hcz226_0 hcz226_1 hcz226_2 hfz226_0 hfz226_1 hfz226_2); (try clear hcz227_0 hcz227_1 hfz227_0 hfz227_1); (try clear hcz231_0 hcz231_1 hcz231_2 hfz231_0 hfz231_1 hfz231_2); (try clear hcz233_0 hcz233_1 hcz233_2 hfz233_0 hfz233_1 hfz233_2); (try clear hcz235_0 hcz235_1 hcz235_2 hfz235_0 hfz235_1 hfz235_2); (try clear hcz236_0 hcz236_1 hcz236_2 hfz236_0 hfz236_1 hfz236_2); (try clear hcz238_0 hcz238_1 hcz238_2 hfz238_0 hfz238_1 hfz238_2); (try clear hcz239_0 hcz239_1 hfz239_0 hfz239_1); (try clear hcz248_0 hcz248_1 hcz248_2 hfz248_0 hfz248_1 hfz248_2); (try clear hcz256_0 hcz256_1 hcz256_2 hfz256_0 hfz256_1 hfz256_2); (try clear hcz260_0 hcz260_1 hcz260_2 hfz260_0 hfz260_1 hfz260_2); (try clear hcz262_0 hcz262_1 hfz262_0 hfz262_1); (try clear hcz271_0 hcz271_1 hcz271_2 hfz271_0 hfz271_1 hfz271_2); (try clear hcz275_0 hcz275_1 hfz275_0 hfz275_1); (try clear hcz47_0 hcz47_1 hcz47_2 hfz47_0 hfz47_1 hfz47_2); (try clear hcz49_0 hcz49_1 hcz49_2 hfz49_0 hfz49_1 hfz49_2); (try clear hcz51_0 hcz51_1 hcz51_2 hfz51_0 hfz51_1 hfz51_2); (try clear hcz52_0 hcz52_1 hcz52_2 hfz52_0 hfz52_1 hfz52_2); (try clear hcz54_0 hcz54_1 hcz54_2 hfz54_0 hfz54_1 hfz54_2); (try clear hcz55_0 hcz55_1 hcz55_2 hfz55_0 hfz55_1 hfz55_2); (try clear hcz58_0 hcz58_1 hcz58_2 hfz58_0 hfz58_1 hfz58_2); (try clear hcz60_0 hcz60_1 hcz60_2 hfz60_0 hfz60_1 hfz60_2); (try clear hcz62_0 hcz62_1 hcz62_2 hfz62_0 hfz62_1 hfz62_2); (try clear hcz63_0 hcz63_1 hcz63_2 hfz63_0 hfz63_1 hfz63_2); (try clear hcz67_0 hcz67_1 hcz67_2 hfz67_0 hfz67_1 hfz67_2); (try clear hcz69_0 hcz69_1 hcz69_2 hfz69_0 hfz69_1 hfz69_2); (try clear hcz83_0 hcz83_1 hcz83_2 hfz83_0 hfz83_1 hfz83_2); (try clear hcz85_0 hcz85_1 hcz85_2 hfz85_0 hfz85_1 hfz85_2); (try clear hcz87_0 hcz87_1 hcz87_2 hfz87_0 hfz87_1 hfz87_2); (try clear hcz88_0 hcz88_1 hfz88_0 hfz88_1); (try clear hcz90_0 hcz90_1 hcz90_2 hfz90_0 hfz90_1 hfz90_2); (try clear hcz91_0 hcz91_1 hfz91_0 hfz91_1); (try clear hcz93_0 hcz93_1 hcz93_2 hfz93_0 hfz93_1 hfz93_2); (try clear hcz94_0 hcz94_1 hcz94_2 hfz94_0 hfz94_1 hfz94_2); (try clear p2)
               obtain ⟨kq, x10_265, rfl, HA, HJ265, BK514, BK515, BK516, BK546, BK547, HB⟩ := hcut
               cases kq with
               | zero => exact absurd HA.out (by simp [tenancylaw01_AddrNested.j4])
               | succ kj265 =>
                have H := HA.out
                clear HA
                simp only [tenancylaw01_AddrNested.j4] at H
                replace H := Option.bind_eq_some_iff.mp H
                obtain ⟨t551, A2780, H⟩ := H
                replace H : (if t551 = true then ((addr_Sound.f kj265 t542 t543 t544).bind fun t552 => (if t552 = true then ((addr_Meets.f kj265 t539 t540 t541 t542 t543 t544).bind fun t553 => (if t553 = true then (none) else ((addr_Covers.f kj265 a0_0 a0_1 a0_2 t539 t540 t541).bind fun t554 => (if t554 = true then ((addr_Covers.f kj265 a0_0 a0_1 a0_2 t542 t543 t544).bind fun t555 => (if t555 = true then ((addr_Has.f kj265 a0_0 a0_1 a0_2 a2_0 a2_1).bind fun t556 => (if ((x10_265 == 1) == t556) = true then (some (decide (x10_265 ≤ 1))) else (none))) else (none))) else (none))))) else (none))) else (none)) = some r := H
                have A278 := Aside0.mk A2780
                clear A2780
                by_cases c279 : t551 = true
                ·subst c279
                 have H1 : ((addr_Sound.f kj265 t542 t543 t544).bind fun t552 => (if t552 = true then ((addr_Meets.f kj265 t539 t540 t541 t542 t543 t544).bind fun t553 => (if t553 = true then (none) else ((addr_Covers.f kj265 a0_0 a0_1 a0_2 t539 t540 t541).bind fun t554 => (if t554 = true then ((addr_Covers.f kj265 a0_0 a0_1 a0_2 t542 t543 t544).bind fun t555 => (if t555 = true then ((addr_Has.f kj265 a0_0 a0_1 a0_2 a2_0 a2_1).bind fun t556 => (if ((x10_265 == 1) == t556) = true then (some (decide (x10_265 ≤ 1))) else (none))) else (none))) else (none))))) else (none))) = some r := by rw [if_pos rfl] at H; exact H
                 clear H
                 have H := H1
                 clear H1
                 replace H := Option.bind_eq_some_iff.mp H
                 obtain ⟨t552, A2800, H⟩ := H
                 replace H : (if t552 = true then ((addr_Meets.f kj265 t539 t540 t541 t542 t543 t544).bind fun t553 => (if t553 = true then (none) else ((addr_Covers.f kj265 a0_0 a0_1 a0_2 t539 t540 t541).bind fun t554 => (if t554 = true then ((addr_Covers.f kj265 a0_0 a0_1 a0_2 t542 t543 t544).bind fun t555 => (if t555 = true then ((addr_Has.f kj265 a0_0 a0_1 a0_2 a2_0 a2_1).bind fun t556 => (if ((x10_265 == 1) == t556) = true then (some (decide (x10_265 ≤ 1))) else (none))) else (none))) else (none))))) else (none)) = some r := H
                 have A280 := Aside0.mk A2800
                 clear A2800
                 by_cases c281 : t552 = true
                 ·subst c281
                  have H1 : ((addr_Meets.f kj265 t539 t540 t541 t542 t543 t544).bind fun t553 => (if t553 = true then (none) else ((addr_Covers.f kj265 a0_0 a0_1 a0_2 t539 t540 t541).bind fun t554 => (if t554 = true then ((addr_Covers.f kj265 a0_0 a0_1 a0_2 t542 t543 t544).bind fun t555 => (if t555 = true then ((addr_Has.f kj265 a0_0 a0_1 a0_2 a2_0 a2_1).bind fun t556 => (if ((x10_265 == 1) == t556) = true then (some (decide (x10_265 ≤ 1))) else (none))) else (none))) else (none))))) = some r := by rw [if_pos rfl] at H; exact H
                  clear H
                  have H := H1
                  clear H1
                  replace H := Option.bind_eq_some_iff.mp H
                  obtain ⟨t553, A2820, H⟩ := H
                  replace H : (if t553 = true then (none) else ((addr_Covers.f kj265 a0_0 a0_1 a0_2 t539 t540 t541).bind fun t554 => (if t554 = true then ((addr_Covers.f kj265 a0_0 a0_1 a0_2 t542 t543 t544).bind fun t555 => (if t555 = true then ((addr_Has.f kj265 a0_0 a0_1 a0_2 a2_0 a2_1).bind fun t556 => (if ((x10_265 == 1) == t556) = true then (some (decide (x10_265 ≤ 1))) else (none))) else (none))) else (none)))) = some r := H
                  have A282 := Aside0.mk A2820
                  clear A2820
                  by_cases c283 : t553 = true
                  ·subst c283
                   have H1 : (none) = some r := by rw [if_pos rfl] at H; exact H
                   clear H
                   have H := H1
                   clear H1
                   exact absurd H (by simp)
                  ·replace c283 := Bool.eq_false_iff.mpr c283
                   subst c283
                   have H1 : ((addr_Covers.f kj265 a0_0 a0_1 a0_2 t539 t540 t541).bind fun t554 => (if t554 = true then ((addr_Covers.f kj265 a0_0 a0_1 a0_2 t542 t543 t544).bind fun t555 => (if t555 = true then ((addr_Has.f kj265 a0_0 a0_1 a0_2 a2_0 a2_1).bind fun t556 => (if ((x10_265 == 1) == t556) = true then (some (decide (x10_265 ≤ 1))) else (none))) else (none))) else (none))) = some r := by rw [if_neg (show ¬ (false = true) by decide)] at H; exact H
                   clear H
                   have H := H1
                   clear H1
                   replace H := Option.bind_eq_some_iff.mp H
                   obtain ⟨t554, A2840, H⟩ := H
                   replace H : (if t554 = true then ((addr_Covers.f kj265 a0_0 a0_1 a0_2 t542 t543 t544).bind fun t555 => (if t555 = true then ((addr_Has.f kj265 a0_0 a0_1 a0_2 a2_0 a2_1).bind fun t556 => (if ((x10_265 == 1) == t556) = true then (some (decide (x10_265 ≤ 1))) else (none))) else (none))) else (none)) = some r := H
                   have A284 := Aside0.mk A2840
                   clear A2840
                   by_cases c285 : t554 = true
                   ·subst c285
                    have H1 : ((addr_Covers.f kj265 a0_0 a0_1 a0_2 t542 t543 t544).bind fun t555 => (if t555 = true then ((addr_Has.f kj265 a0_0 a0_1 a0_2 a2_0 a2_1).bind fun t556 => (if ((x10_265 == 1) == t556) = true then (some (decide (x10_265 ≤ 1))) else (none))) else (none))) = some r := by rw [if_pos rfl] at H; exact H
                    clear H
                    have H := H1
                    clear H1
                    replace H := Option.bind_eq_some_iff.mp H
                    obtain ⟨t555, A2860, H⟩ := H
                    replace H : (if t555 = true then ((addr_Has.f kj265 a0_0 a0_1 a0_2 a2_0 a2_1).bind fun t556 => (if ((x10_265 == 1) == t556) = true then (some (decide (x10_265 ≤ 1))) else (none))) else (none)) = some r := H
                    have A286 := Aside0.mk A2860
                    clear A2860
                    by_cases c287 : t555 = true
                    ·subst c287
                     have H1 : ((addr_Has.f kj265 a0_0 a0_1 a0_2 a2_0 a2_1).bind fun t556 => (if ((x10_265 == 1) == t556) = true then (some (decide (x10_265 ≤ 1))) else (none))) = some r := by rw [if_pos rfl] at H; exact H
                     clear H
                     have H := H1
                     clear H1
                     replace H := Option.bind_eq_some_iff.mp H
                     obtain ⟨t556, A2880, H⟩ := H
                     replace H : (if ((x10_265 == 1) == t556) = true then (some (decide (x10_265 ≤ 1))) else (none)) = some r := H
                     have A288 := Aside0.mk A2880
                     clear A2880
                     by_cases c289 : ((x10_265 == 1) == t556) = true
                     ·rw [if_pos c289] at H
                      have c289b0 : ((x10_265 == 1) == t556) = true := c289
                      (try (have c289b1 : decide ((x10_265 == 1) = t556) = true := by simpa using c289))
                      (try (have c289b2 : ((x10_265 == 1) == t556) = true := by simpa using c289))
                      clear c289
                      obtain rfl := Option.some.inj H
                      have hnb290 := NB546_514.out
                      have hnc290 := NB514_546.out
                      have hnb291 := NB546_515.out
                      have hnc291 := NB515_546.out
                      have hnb292 := NB546_516.out
                      have hnc292 := NB516_546.out
                      have hnb293 := NB546_547.out
                      have hnc293 := NB547_546.out
                      obtain ⟨hcz294_0, hcz294_1, hcz294_2, hfz294_0, hfz294_1, hfz294_2⟩ := zc3 BK546.out
                      go_wp2_with (first | ((with_reducible refine gate_callee (f := 19) rfl ?_); refine goesL_ (some 104) rfl rfl Try.func19 (by kernel_rfl) rfl #[.agg #[.int .u64 t539, .int .u64 t540, .int .i64 t541]] rfl (by (try simp only [List.map_toArray, List.map_cons, List.map_nil]); first | done | rfl | (simp only [List.length_drop, List.length_take]; rfl)) ?_; (with_reducible refine (addr_Sound.calls kj265 t539 t540 t541 true _ A278.out).mono ?_); rintro e w295 ⟨rfl, hb⟩; refine ⟨_, rfl, ?_⟩; have n0_ := Aside0.mk (zkB (by (with_reducible repeat (first | refine zkN ?_ _ | refine zk1 ?_ | refine zkA ?_ _)); exact BK514.out) hb); have n1_ := Aside0.mk (zkB (by (with_reducible repeat (first | refine zkN ?_ _ | refine zk1 ?_ | refine zkA ?_ _)); exact BK515.out) hb); have n2_ := Aside0.mk (zkB (by (with_reducible repeat (first | refine zkN ?_ _ | refine zk1 ?_ | refine zkA ?_ _)); exact BK516.out) hb); have n3_ := Aside0.mk (zkB (by (with_reducible repeat (first | refine zkN ?_ _ | refine zk1 ?_ | refine zkA ?_ _)); exact BK546.out) hb); have n4_ := Aside0.mk (zkB (by (with_reducible repeat (first | refine zkN ?_ _ | refine zk1 ?_ | refine zkA ?_ _)); exact BK547.out) hb); have n5_ := Aside0.mk (zbP (by repeat (first | (with_reducible first | exact HB.out | apply zbA | apply zbN | apply zb1 | refine zbS ?_ GE514.out | refine zbS ?_ GE515.out | refine zbS ?_ GE516.out | refine zbS ?_ GE546.out | refine zbS ?_ GE547.out) | exact HB.out)) hb); clear BK514; clear BK515; clear BK516; clear BK546; clear BK547; clear HB; have BK514 := n0_; have BK515 := n1_; have BK516 := n2_; have BK546 := n3_; have BK547 := n4_; have HB := n5_; clear n0_ n1_ n2_ n3_ n4_ n5_; (try clear hb); (try clear hb2); (try clear hk); (try clear hi); have hnb296 := NB547_514.out; have hnc296 := NB514_547.out; have hnb297 := NB547_515.out; have hnc297 := NB515_547.out; have hnb298 := NB547_516.out; have hnc298 := NB516_547.out; obtain ⟨hcz299_0, hcz299_1, hcz299_2, hfz299_0, hfz299_1, hfz299_2⟩ := zc3 BK547.out) | (go_at_call 19; (with_reducible refine (addr_Sound.calls kj265 t542 t543 t544 true _ A280.out).mono ?_); rintro e w300 ⟨rfl, hb⟩; have n0_ := Aside0.mk (zkB (by (with_reducible repeat (first | refine zkN ?_ _ | refine zk1 ?_ | refine zkA ?_ _)); exact BK514.out) hb); have n1_ := Aside0.mk (zkB (by (with_reducible repeat (first | refine zkN ?_ _ | refine zk1 ?_ | refine zkA ?_ _)); exact BK515.out) hb); have n2_ := Aside0.mk (zkB (by (with_reducible repeat (first | refine zkN ?_ _ | refine zk1 ?_ | refine zkA ?_ _)); exact BK516.out) hb); have n3_ := Aside0.mk (zkB (by (with_reducible repeat (first | refine zkN ?_ _ | refine zk1 ?_ | refine zkA ?_ _)); exact BK546.out) hb); have n4_ := Aside0.mk (zkB (by (with_reducible repeat (first | refine zkN ?_ _ | refine zk1 ?_ | refine zkA ?_ _)); exact BK547.out) hb); have n5_ := Aside0.mk (zbP (by repeat (first | (with_reducible first | exact HB.out | apply zbA | apply zbN | apply zb1 | refine zbS ?_ GE514.out | refine zbS ?_ GE515.out | refine zbS ?_ GE516.out | refine zbS ?_ GE546.out | refine zbS ?_ GE547.out) | exact HB.out)) hb); clear BK514; clear BK515; clear BK516; clear BK546; clear BK547; clear HB; have BK514 := n0_; have BK515 := n1_; have BK516 := n2_; have BK546 := n3_; have BK547 := n4_; have HB := n5_; clear n0_ n1_ n2_ n3_ n4_ n5_; (try clear hb); (try clear hb2); (try clear hk); (try clear hi); obtain ⟨hcz301_0, hcz301_1, hcz301_2, hfz301_0, hfz301_1, hfz301_2⟩ := zc3 BK546.out; obtain ⟨hcz302_0, hcz302_1, hcz302_2, hfz302_0, hfz302_1, hfz302_2⟩ := zc3 BK547.out) | (go_at_call 39; (with_reducible refine (addr_Meets.calls kj265 t539 t540 t541 t542 t543 t544 false _ A282.out).mono ?_); rintro e w303 ⟨rfl, hb⟩; have n0_ := Aside0.mk (zkB (by (with_reducible repeat (first | refine zkN ?_ _ | refine zk1 ?_ | refine zkA ?_ _)); exact BK514.out) hb); have n1_ := Aside0.mk (zkB (by (with_reducible repeat (first | refine zkN ?_ _ | refine zk1 ?_ | refine zkA ?_ _)); exact BK515.out) hb); have n2_ := Aside0.mk (zkB (by (with_reducible repeat (first | refine zkN ?_ _ | refine zk1 ?_ | refine zkA ?_ _)); exact BK516.out) hb); have n3_ := Aside0.mk (zkB (by (with_reducible repeat (first | refine zkN ?_ _ | refine zk1 ?_ | refine zkA ?_ _)); exact BK546.out) hb); have n4_ := Aside0.mk (zkB (by (with_reducible repeat (first | refine zkN ?_ _ | refine zk1 ?_ | refine zkA ?_ _)); exact BK547.out) hb); have n5_ := Aside0.mk (zbP (by repeat (first | (with_reducible first | exact HB.out | apply zbA | apply zbN | apply zb1 | refine zbS ?_ GE514.out | refine zbS ?_ GE515.out | refine zbS ?_ GE516.out | refine zbS ?_ GE546.out | refine zbS ?_ GE547.out) | exact HB.out)) hb); clear BK514; clear BK515; clear BK516; clear BK546; clear BK547; clear HB; have BK514 := n0_; have BK515 := n1_; have BK516 := n2_; have BK546 := n3_; have BK547 := n4_; have HB := n5_; clear n0_ n1_ n2_ n3_ n4_ n5_; (try clear hb); (try clear hb2); (try clear hk); (try clear hi); have hnb304 := NB514_515.out; have hnc304 := NB515_514.out; have hnb305 := NB514_516.out; have hnc305 := NB516_514.out; obtain ⟨hcz306_0, hcz306_1, hcz306_2, hfz306_0, hfz306_1, hfz306_2⟩ := zc3 BK514.out; obtain ⟨hcz307_0, hcz307_1, hcz307_2, hfz307_0, hfz307_1, hfz307_2⟩ := zc3 BK546.out) | (go_at_call 21; (with_reducible refine (addr_Covers.calls kj265 a0_0 a0_1 a0_2 t539 t540 t541 true _ A284.out).mono ?_); rintro e w308 ⟨rfl, hb⟩; have n0_ := Aside0.mk (zkB (by (with_reducible repeat (first | refine zkN ?_ _ | refine zk1 ?_ | refine zkA ?_ _)); exact BK514.out) hb); have n1_ := Aside0.mk (zkB (by (with_reducible repeat (first | refine zkN ?_ _ | refine zk1 ?_ | refine zkA ?_ _)); exact BK515.out) hb); have n2_ := Aside0.mk (zkB (by (with_reducible repeat (first | refine zkN ?_ _ | refine zk1 ?_ | refine zkA ?_ _)); exact BK516.out) hb); have n3_ := Aside0.mk (zkB (by (with_reducible repeat (first | refine zkN ?_ _ | refine zk1 ?_ | refine zkA ?_ _)); exact BK546.out) hb); have n4_ := Aside0.mk (zkB (by (with_reducible repeat (first | refine zkN ?_ _ | refine zk1 ?_ | refine zkA ?_ _)); exact BK547.out) hb); have n5_ := Aside0.mk (zbP (by repeat (first | (with_reducible first | exact HB.out | apply zbA | apply zbN | apply zb1 | refine zbS ?_ GE514.out | refine zbS ?_ GE515.out | refine zbS ?_ GE516.out | refine zbS ?_ GE546.out | refine zbS ?_ GE547.out) | exact HB.out)) hb); clear BK514; clear BK515; clear BK516; clear BK546; clear BK547; clear HB; have BK514 := n0_; have BK515 := n1_; have BK516 := n2_; have BK546 := n3_; have BK547 := n4_; have HB := n5_; clear n0_ n1_ n2_ n3_ n4_ n5_; (try clear hb); (try clear hb2); (try clear hk); (try clear hi); obtain ⟨hcz309_0, hcz309_1, hcz309_2, hfz309_0, hfz309_1, hfz309_2⟩ := zc3 BK514.out; obtain ⟨hcz310_0, hcz310_1, hcz310_2, hfz310_0, hfz310_1, hfz310_2⟩ := zc3 BK547.out) | (go_at_call 21; (with_reducible refine (addr_Covers.calls kj265 a0_0 a0_1 a0_2 t542 t543 t544 true _ A286.out).mono ?_); rintro e w311 ⟨rfl, hb⟩; have n0_ := Aside0.mk (zkB (by (with_reducible repeat (first | refine zkN ?_ _ | refine zk1 ?_ | refine zkA ?_ _)); exact BK514.out) hb); have n1_ := Aside0.mk (zkB (by (with_reducible repeat (first | refine zkN ?_ _ | refine zk1 ?_ | refine zkA ?_ _)); exact BK515.out) hb); have n2_ := Aside0.mk (zkB (by (with_reducible repeat (first | refine zkN ?_ _ | refine zk1 ?_ | refine zkA ?_ _)); exact BK516.out) hb); have n3_ := Aside0.mk (zkB (by (with_reducible repeat (first | refine zkN ?_ _ | refine zk1 ?_ | refine zkA ?_ _)); exact BK546.out) hb); have n4_ := Aside0.mk (zkB (by (with_reducible repeat (first | refine zkN ?_ _ | refine zk1 ?_ | refine zkA ?_ _)); exact BK547.out) hb); have n5_ := Aside0.mk (zbP (by repeat (first | (with_reducible first | exact HB.out | apply zbA | apply zbN | apply zb1 | refine zbS ?_ GE514.out | refine zbS ?_ GE515.out | refine zbS ?_ GE516.out | refine zbS ?_ GE546.out | refine zbS ?_ GE547.out) | exact HB.out)) hb); clear BK514; clear BK515; clear BK516; clear BK546; clear BK547; clear HB; have BK514 := n0_; have BK515 := n1_; have BK516 := n2_; have BK546 := n3_; have BK547 := n4_; have HB := n5_; clear n0_ n1_ n2_ n3_ n4_ n5_; (try clear hb); (try clear hb2); (try clear hk); (try clear hi); obtain ⟨hcz312_0, hcz312_1, hcz312_2, hfz312_0, hfz312_1, hfz312_2⟩ := zc3 BK514.out; have hnb313 := NB516_515.out; have hnc313 := NB515_516.out; obtain ⟨hcz314_0, hcz314_1, hfz314_0, hfz314_1⟩ := zc2 BK516.out) | (go_at_call 20; (with_reducible refine (addr_Has.calls kj265 a0_0 a0_1 a0_2 a2_0 a2_1 t556 _ A288.out).mono ?_); rintro e w315 ⟨rfl, hb⟩; have n0_ := Aside0.mk (zkB (by (with_reducible repeat (first | refine zkN ?_ _ | refine zk1 ?_ | refine zkA ?_ _)); exact BK514.out) hb); have n1_ := Aside0.mk (zkB (by (with_reducible repeat (first | refine zkN ?_ _ | refine zk1 ?_ | refine zkA ?_ _)); exact BK515.out) hb); have n2_ := Aside0.mk (zkB (by (with_reducible repeat (first | refine zkN ?_ _ | refine zk1 ?_ | refine zkA ?_ _)); exact BK516.out) hb); have n3_ := Aside0.mk (zkB (by (with_reducible repeat (first | refine zkN ?_ _ | refine zk1 ?_ | refine zkA ?_ _)); exact BK546.out) hb); have n4_ := Aside0.mk (zkB (by (with_reducible repeat (first | refine zkN ?_ _ | refine zk1 ?_ | refine zkA ?_ _)); exact BK547.out) hb); have n5_ := Aside0.mk (zbP (by repeat (first | (with_reducible first | exact HB.out | apply zbA | apply zbN | apply zb1 | refine zbS ?_ GE514.out | refine zbS ?_ GE515.out | refine zbS ?_ GE516.out | refine zbS ?_ GE546.out | refine zbS ?_ GE547.out) | exact HB.out)) hb); clear BK514; clear BK515; clear BK516; clear BK546; clear BK547; clear HB; have BK514 := n0_; have BK515 := n1_; have BK516 := n2_; have BK546 := n3_; have BK547 := n4_; have HB := n5_; clear n0_ n1_ n2_ n3_ n4_ n5_; (try clear hb); (try clear hb2); (try clear hk); (try clear hi)))
                      go_ret
                      exact ⟨by first | rfl | (simp [errW_none, errW_some] <;> rfl) | (simp [*, errW_none, errW_some] <;> rfl), by repeat (first | (with_reducible first | exact HB.out | apply zbA | apply zbN | apply zb1 | refine zbS ?_ GE514.out | refine zbS ?_ GE515.out | refine zbS ?_ GE516.out | refine zbS ?_ GE546.out | refine zbS ?_ GE547.out) | exact HB.out)⟩
                     ·rw [if_neg c289] at H
                      exact absurd H (by simp)
                    ·replace c287 := Bool.eq_false_iff.mpr c287
                     subst c287
                     have H1 : (none) = some r := by rw [if_neg (show ¬ (false = true) by decide)] at H; exact H
                     clear H
                     have H := H1
                     clear H1
                     exact absurd H (by simp)
                   ·replace c285 := Bool.eq_false_iff.mpr c285
                    subst c285
                    have H1 : (none) = some r := by rw [if_neg (show ¬ (false = true) by decide)] at H; exact H
                    clear H
                    have H := H1
                    clear H1
                    exact absurd H (by simp)
                 ·replace c281 := Bool.eq_false_iff.mpr c281
                  subst c281
                  have H1 : (none) = some r := by rw [if_neg (show ¬ (false = true) by decide)] at H; exact H
                  clear H
                  have H := H1
                  clear H1
                  exact absurd H (by simp)
                ·replace c279 := Bool.eq_false_iff.mpr c279
                 subst c279
                 have H1 : (none) = some r := by rw [if_neg (show ¬ (false = true) by decide)] at H; exact H
                 clear H
                 have H := H1
                 clear H1
                 exact absurd H (by simp)
           ·replace c243 := Bool.eq_false_iff.mpr c243
            subst c243
            have H1 : ((addr_Sound.f kj71 a0_0 a0_1 a0_2).bind fun t548 => (if t548 = true then (some (a0_2 == 128)) else (some true))) = some r := by rw [if_neg (show ¬ (false = true) by decide)] at H; exact H
            clear H
            have H := H1
            clear H1
            replace H := Option.bind_eq_some_iff.mp H
            obtain ⟨t548, A3160, H⟩ := H
            replace H : (if t548 = true then (some (a0_2 == 128)) else (some true)) = some r := H
            have A316 := Aside0.mk A3160
            clear A3160
            by_cases c317 : t548 = true
            ·subst c317
             have H1 : (some (a0_2 == 128)) = some r := by rw [if_pos rfl] at H; exact H
             clear H
             have H := H1
             clear H1
             obtain rfl := Option.some.inj H
             have hnb318 := NB514_515.out
             have hnc318 := NB515_514.out
             have hnb319 := NB514_516.out
             have hnc319 := NB516_514.out
             obtain ⟨hcz320_0, hcz320_1, hcz320_2, hfz320_0, hfz320_1, hfz320_2⟩ := zc3 BK514.out
             go_wp2_with (first | ((with_reducible refine gate_callee (f := 35) rfl ?_); refine goesL_ (some 79) rfl rfl Try.func35 (by kernel_rfl) rfl #[.agg #[.int .u64 a0_0, .int .u64 a0_1, .int .i64 a0_2]] rfl (by (try simp only [List.map_toArray, List.map_cons, List.map_nil]); first | done | rfl | (simp only [List.length_drop, List.length_take]; rfl)) ?_; (with_reducible refine (addr_Halves.calls kj71 a0_0 a0_1 a0_2 t539 t540 t541 t542 t543 t544 false _ A242.out).mono ?_); rintro e w321 ⟨rfl, hb⟩; refine ⟨_, rfl, ?_⟩; have n0_ := Aside0.mk (zkB (by (with_reducible repeat (first | refine zkN ?_ _ | refine zk1 ?_ | refine zkA ?_ _)); exact BK514.out) hb); have n1_ := Aside0.mk (zkB (by (with_reducible repeat (first | refine zkN ?_ _ | refine zk1 ?_ | refine zkA ?_ _)); exact BK515.out) hb); have n2_ := Aside0.mk (zkB (by (with_reducible repeat (first | refine zkN ?_ _ | refine zk1 ?_ | refine zkA ?_ _)); exact BK516.out) hb); have n3_ := Aside0.mk (zbP (by repeat (first | (with_reducible first | exact HB.out | apply zbA | apply zbN | apply zb1 | refine zbS ?_ GE514.out | refine zbS ?_ GE515.out | refine zbS ?_ GE516.out) | exact HB.out)) hb); clear BK514; clear BK515; clear BK516; clear HB; have BK514 := n0_; have BK515 := n1_; have BK516 := n2_; have HB := n3_; clear n0_ n1_ n2_ n3_; (try clear hb); (try clear hb2); (try clear hk); (try clear hi)) | ((with_reducible refine gate_dst (N := 7) rfl ?_); refine box_event ?hg (N := 7) ?hd (cs := #[.int .u64 0, .int .u64 0, .int .i64 0]) (t := 33) ?hr ?_; (case hd => rfl); (case hg => rfl); (case hr => first | (go_simp; done) | (go_simp; rfl)); intro gb546 hg w322 hbox hb; have n0_ := Aside0.mk (zkB (by (with_reducible repeat (first | refine zkN ?_ _ | refine zk1 ?_ | refine zkA ?_ _)); exact BK514.out) hb); have n1_ := Aside0.mk (zkB (by (with_reducible repeat (first | refine zkN ?_ _ | refine zk1 ?_ | refine zkA ?_ _)); exact BK515.out) hb); have n2_ := Aside0.mk (zkB (by (with_reducible repeat (first | refine zkN ?_ _ | refine zk1 ?_ | refine zkA ?_ _)); exact BK516.out) hb); have n3_ := Aside0.mk (zbP (by repeat (first | (with_reducible first | exact HB.out | apply zbA | apply zbN | apply zb1 | refine zbS ?_ GE514.out | refine zbS ?_ GE515.out | refine zbS ?_ GE516.out) | exact HB.out)) hb); have n4_ := Aside0.mk (hbox); have n5_ := Aside0.mk ((by rw [hg]; exact (zbZ (by repeat (first | (with_reducible first | exact HB.out | apply zbA | apply zbN | apply zb1 | refine zbS ?_ GE514.out | refine zbS ?_ GE515.out | refine zbS ?_ GE516.out) | exact HB.out))) : w.heap.size ≤ gb546)); have n6_ := n5_; have n7_ := Aside0.mk ((by rw [hg]; exact Nat.ne_of_lt (zkL (by (with_reducible repeat (first | refine zkN ?_ _ | refine zk1 ?_ | refine zkA ?_ _)); exact BK514.out)) : gb514 ≠ gb546)); have n8_ := Aside0.mk (Ne.symm n7_.out); have n9_ := Aside0.mk ((by rw [hg]; exact Nat.ne_of_lt (zkL (by (with_reducible repeat (first | refine zkN ?_ _ | refine zk1 ?_ | refine zkA ?_ _)); exact BK515.out)) : gb515 ≠ gb546)); have n10_ := Aside0.mk (Ne.symm n9_.out); have n11_ := Aside0.mk ((by rw [hg]; exact Nat.ne_of_lt (zkL (by (with_reducible repeat (first | refine zkN ?_ _ | refine zk1 ?_ | refine zkA ?_ _)); exact BK516.out)) : gb516 ≠ gb546)); have n12_ := Aside0.mk (Ne.symm n11_.out); clear BK514; clear BK515; clear BK516; clear HB; have BK514 := n0_; have BK515 := n1_; have BK516 := n2_; have HB := n3_; have BK546 := n4_; have GW546 := n5_; have GE546 := n6_; have NB514_546 := n7_; have NB546_514 := n8_; have NB515_546 := n9_; have NB546_515 := n10_; have NB516_546 := n11_; have NB546_516 := n12_; clear n0_ n1_ n2_ n3_ n4_ n5_ n6_ n7_ n8_ n9_ n10_ n11_ n12_; clear hb hbox hg) | ((with_reducible refine gate_dst (N := 8) rfl ?_); refine box_event ?hg (N := 8) ?hd (cs := #[.int .u64 0, .int .u64 0, .int .i64 0]) (t := 33) ?hr ?_; (case hd => rfl); (case hg => rfl); (case hr => first | (go_simp; done) | (go_simp; rfl)); intro gb547 hg w323 hbox hb; have n0_ := Aside0.mk (zkB (by (with_reducible repeat (first | refine zkN ?_ _ | refine zk1 ?_ | refine zkA ?_ _)); exact BK514.out) hb); have n1_ := Aside0.mk (zkB (by (with_reducible repeat (first | refine zkN ?_ _ | refine zk1 ?_ | refine zkA ?_ _)); exact BK515.out) hb); have n2_ := Aside0.mk (zkB (by (with_reducible repeat (first | refine zkN ?_ _ | refine zk1 ?_ | refine zkA ?_ _)); exact BK516.out) hb); have n3_ := Aside0.mk (zkB (by (with_reducible repeat (first | refine zkN ?_ _ | refine zk1 ?_ | refine zkA ?_ _)); exact BK546.out) hb); have n4_ := Aside0.mk (zbP (by repeat (first | (with_reducible first | exact HB.out | apply zbA | apply zbN | apply zb1 | refine zbS ?_ GE514.out | refine zbS ?_ GE515.out | refine zbS ?_ GE516.out | refine zbS ?_ GE546.out) | exact HB.out)) hb); have n5_ := Aside0.mk (hbox); have n6_ := Aside0.mk ((by rw [hg]; exact (zbZ (by repeat (first | (with_reducible first | exact HB.out | apply zbA | apply zbN | apply zb1 | refine zbS ?_ GE514.out | refine zbS ?_ GE515.out | refine zbS ?_ GE516.out | refine zbS ?_ GE546.out) | exact HB.out))) : w.heap.size ≤ gb547)); have n7_ := n6_; have n8_ := Aside0.mk ((by rw [hg]; exact Nat.ne_of_lt (zkL (by (with_reducible repeat (first | refine zkN ?_ _ | refine zk1 ?_ | refine zkA ?_ _)); exact BK514.out)) : gb514 ≠ gb547)); have n9_ := Aside0.mk (Ne.symm n8_.out); have n10_ := Aside0.mk ((by rw [hg]; exact Nat.ne_of_lt (zkL (by (with_reducible repeat (first | refine zkN ?_ _ | refine zk1 ?_ | refine zkA ?_ _)); exact BK515.out)) : gb515 ≠ gb547)); have n11_ := Aside0.mk (Ne.symm n10_.out); have n12_ := Aside0.mk ((by rw [hg]; exact Nat.ne_of_lt (zkL (by (with_reducible repeat (first | refine zkN ?_ _ | refine zk1 ?_ | refine zkA ?_ _)); exact BK516.out)) : gb516 ≠ gb547)); have n13_ := Aside0.mk (Ne.symm n12_.out); have n14_ := Aside0.mk ((by rw [hg]; exact Nat.ne_of_lt (zkL (by (with_reducible repeat (first | refine zkN ?_ _ | refine zk1 ?_ | refine zkA ?_ _)); exact BK546.out)) : gb546 ≠ gb547)); have n15_ := Aside0.mk (Ne.symm n14_.out); clear BK514; clear BK515; clear BK516; clear BK546; clear HB; have BK514 := n0_; have BK515 := n1_; have BK516 := n2_; have BK546 := n3_; have HB := n4_; have BK547 := n5_; have GW547 := n6_; have GE547 := n7_; have NB514_547 := n8_; have NB547_514 := n9_; have NB515_547 := n10_; have NB547_515 := n11_; have NB516_547 := n12_; have NB547_516 := n13_; have NB546_547 := n14_; have NB547_546 := n15_; clear n0_ n1_ n2_ n3_ n4_ n5_ n6_ n7_ n8_ n9_ n10_ n11_ n12_ n13_ n14_ n15_; clear hb hbox hg; have hnb324 := NB546_514.out; have hnc324 := NB514_546.out; have hnb325 := NB546_515.out; have hnc325 := NB515_546.out; have hnb326 := NB546_516.out; have hnc326 := NB516_546.out; have hnb327 := NB546_547.out; have hnc327 := NB547_546.out; obtain ⟨hcz328_0, hcz328_1, hcz328_2, hfz328_0, hfz328_1, hfz328_2⟩ := zc3 BK546.out; have hnb329 := NB547_514.out; have hnc329 := NB514_547.out; have hnb330 := NB547_515.out; have hnc330 := NB515_547.out; have hnb331 := NB547_516.out; have hnc331 := NB516_547.out; obtain ⟨hcz332_0, hcz332_1, hcz332_2, hfz332_0, hfz332_1, hfz332_2⟩ := zc3 BK547.out; obtain ⟨hcz333_0, hcz333_1, hcz333_2, hfz333_0, hfz333_1, hfz333_2⟩ := zc3 BK514.out) | ((with_reducible refine gate_callee (f := 19) rfl ?_); refine goesL_ (some 86) rfl rfl Try.func19 (by kernel_rfl) rfl #[.agg #[.int .u64 a0_0, .int .u64 a0_1, .int .i64 a0_2]] rfl (by (try simp only [List.map_toArray, List.map_cons, List.map_nil]); first | done | rfl | (simp only [List.length_drop, List.length_take]; rfl)) ?_; (with_reducible refine (addr_Sound.calls kj71 a0_0 a0_1 a0_2 true _ A316.out).mono ?_); rintro e w334 ⟨rfl, hb⟩; refine ⟨_, rfl, ?_⟩; have n0_ := Aside0.mk (zkB (g := gb514) (o := .cells #[.int .u64 a0_0, .int .u64 a0_1, .int .i64 a0_2] 33 (0, 0)) (by (with_reducible repeat (first | refine zkN ?_ _ | refine zk1 ?_ | refine zkA ?_ _)); refine blk_far ?_ NB514_547.out _; (with_reducible repeat (first | refine zkN ?_ _ | refine zk1 ?_ | refine zkA ?_ _)); refine blk_far ?_ NB514_547.out _; (with_reducible repeat (first | refine zkN ?_ _ | refine zk1 ?_ | refine zkA ?_ _)); refine blk_far ?_ NB514_547.out _; (with_reducible repeat (first | refine zkN ?_ _ | refine zk1 ?_ | refine zkA ?_ _)); refine blk_far ?_ NB514_546.out _; (with_reducible repeat (first | refine zkN ?_ _ | refine zk1 ?_ | refine zkA ?_ _)); refine blk_far ?_ NB514_546.out _; (with_reducible repeat (first | refine zkN ?_ _ | refine zk1 ?_ | refine zkA ?_ _)); refine blk_far ?_ NB514_546.out _; (with_reducible repeat (first | refine zkN ?_ _ | refine zk1 ?_ | refine zkA ?_ _)); exact BK514.out) hb); have n1_ := Aside0.mk (zkB (g := gb515) (o := .cells #[.int .u64 a1_0, .int .u64 a1_1, .int .i64 a1_2] 33 (0, 0)) (by (with_reducible repeat (first | refine zkN ?_ _ | refine zk1 ?_ | refine zkA ?_ _)); refine blk_far ?_ NB515_547.out _; (with_reducible repeat (first | refine zkN ?_ _ | refine zk1 ?_ | refine zkA ?_ _)); refine blk_far ?_ NB515_547.out _; (with_reducible repeat (first | refine zkN ?_ _ | refine zk1 ?_ | refine zkA ?_ _)); refine blk_far ?_ NB515_547.out _; (with_reducible repeat (first | refine zkN ?_ _ | refine zk1 ?_ | refine zkA ?_ _)); refine blk_far ?_ NB515_546.out _; (with_reducible repeat (first | refine zkN ?_ _ | refine zk1 ?_ | refine zkA ?_ _)); refine blk_far ?_ NB515_546.out _; (with_reducible repeat (first | refine zkN ?_ _ | refine zk1 ?_ | refine zkA ?_ _)); refine blk_far ?_ NB515_546.out _; (with_reducible repeat (first | refine zkN ?_ _ | refine zk1 ?_ | refine zkA ?_ _)); exact BK515.out) hb); have n2_ := Aside0.mk (zkB (g := gb516) (o := .cells #[.int .u64 a2_0, .int .u64 a2_1] 24 (0, 0)) (by (with_reducible repeat (first | refine zkN ?_ _ | refine zk1 ?_ | refine zkA ?_ _)); refine blk_far ?_ NB516_547.out _; (with_reducible repeat (first | refine zkN ?_ _ | refine zk1 ?_ | refine zkA ?_ _)); refine blk_far ?_ NB516_547.out _; (with_reducible repeat (first | refine zkN ?_ _ | refine zk1 ?_ | refine zkA ?_ _)); refine blk_far ?_ NB516_547.out _; (with_reducible repeat (first | refine zkN ?_ _ | refine zk1 ?_ | refine zkA ?_ _)); refine blk_far ?_ NB516_546.out _; (with_reducible repeat (first | refine zkN ?_ _ | refine zk1 ?_ | refine zkA ?_ _)); refine blk_far ?_ NB516_546.out _; (with_reducible repeat (first | refine zkN ?_ _ | refine zk1 ?_ | refine zkA ?_ _)); refine blk_far ?_ NB516_546.out _; (with_reducible repeat (first | refine zkN ?_ _ | refine zk1 ?_ | refine zkA ?_ _)); exact BK516.out) hb); have n3_ := Aside0.mk (zkB (g := gb546) (o := .cells #[.int .u64 t539, .int .u64 t540, .int .i64 t541] 33 (0, 0)) (by (with_reducible repeat (first | refine zkN ?_ _ | refine zk1 ?_ | refine zkA ?_ _)); refine blk_far ?_ NB546_547.out _; (with_reducible repeat (first | refine zkN ?_ _ | refine zk1 ?_ | refine zkA ?_ _)); refine blk_far ?_ NB546_547.out _; (with_reducible repeat (first | refine zkN ?_ _ | refine zk1 ?_ | refine zkA ?_ _)); refine blk_far ?_ NB546_547.out _; (with_reducible repeat (first | refine zkN ?_ _ | refine zk1 ?_ | refine zkA ?_ _)); refine zkP (cs := #[.int .u64 t539, .int .u64 t540, .int .i64 0]) ?_ 2 _ rfl; (with_reducible repeat (first | refine zkN ?_ _ | refine zk1 ?_ | refine zkA ?_ _)); refine zkP (cs := #[.int .u64 t539, .int .u64 0, .int .i64 0]) ?_ 1 _ rfl; (with_reducible repeat (first | refine zkN ?_ _ | refine zk1 ?_ | refine zkA ?_ _)); refine zkP (cs := #[.int .u64 0, .int .u64 0, .int .i64 0]) ?_ 0 _ rfl; (with_reducible repeat (first | refine zkN ?_ _ | refine zk1 ?_ | refine zkA ?_ _)); exact BK546.out) hb); have n4_ := Aside0.mk (zkB (g := gb547) (o := .cells #[.int .u64 t542, .int .u64 t543, .int .i64 t544] 33 (0, 0)) (by (with_reducible repeat (first | refine zkN ?_ _ | refine zk1 ?_ | refine zkA ?_ _)); refine zkP (cs := #[.int .u64 t542, .int .u64 t543, .int .i64 0]) ?_ 2 _ rfl; (with_reducible repeat (first | refine zkN ?_ _ | refine zk1 ?_ | refine zkA ?_ _)); refine zkP (cs := #[.int .u64 t542, .int .u64 0, .int .i64 0]) ?_ 1 _ rfl; (with_reducible repeat (first | refine zkN ?_ _ | refine zk1 ?_ | refine zkA ?_ _)); refine zkP (cs := #[.int .u64 0, .int .u64 0, .int .i64 0]) ?_ 0 _ rfl; (with_reducible repeat (first | refine zkN ?_ _ | refine zk1 ?_ | refine zkA ?_ _)); refine blk_far ?_ NB547_546.out _; (with_reducible repeat (first | refine zkN ?_ _ | refine zk1 ?_ | refine zkA ?_ _)); refine blk_far ?_ NB547_546.out _; (with_reducible repeat (first | refine zkN ?_ _ | refine zk1 ?_ | refine zkA ?_ _)); refine blk_far ?_ NB547_546.out _; (with_reducible repeat (first | refine zkN ?_ _ | refine zk1 ?_ | refine zkA ?_ _)); exact BK547.out) hb); have n5_ := Aside0.mk (zbP (by repeat (first | (with_reducible first | exact HB.out | apply zbA | apply zbN | apply zb1 | refine zbS ?_ GE514.out | refine zbS ?_ GE515.out | refine zbS ?_ GE516.out | refine zbS ?_ GE546.out | refine zbS ?_ GE547.out) | exact HB.out)) hb); clear BK514; clear BK515; clear BK516; clear BK546; clear BK547; clear HB; have BK514 := n0_; have BK515 := n1_; have BK516 := n2_; have BK546 := n3_; have BK547 := n4_; have HB := n5_; clear n0_ n1_ n2_ n3_ n4_ n5_; (try clear hb); (try clear hb2); (try clear hk); (try clear hi); obtain ⟨hcz335_0, hcz335_1, hcz335_2, hfz335_0, hfz335_1, hfz335_2⟩ := zc3 BK514.out))
             go_ret
             exact ⟨by first | rfl | (simp [errW_none, errW_some] <;> rfl) | (simp [*, errW_none, errW_some] <;> rfl), by repeat (first | (with_reducible first | exact HB.out | apply zbA | apply zbN | apply zb1 | refine zbS ?_ GE514.out | refine zbS ?_ GE515.out | refine zbS ?_ GE516.out | refine zbS ?_ GE546.out | refine zbS ?_ GE547.out) | exact HB.out)⟩
            ·replace c317 := Bool.eq_false_iff.mpr c317
             subst c317
             have H1 : (some true) = some r := by rw [if_neg (show ¬ (false = true) by decide)] at H; exact H
             clear H
             have H := H1
             clear H1
             obtain rfl := Option.some.inj H
             have hnb336 := NB514_515.out
             have hnc336 := NB515_514.out
             have hnb337 := NB514_516.out
             have hnc337 := NB516_514.out
             obtain ⟨hcz338_0, hcz338_1, hcz338_2, hfz338_0, hfz338_1, hfz338_2⟩ := zc3 BK514.out
             go_wp2_with (first | ((with_reducible refine gate_callee (f := 35) rfl ?_); refine goesL_ (some 79) rfl rfl Try.func35 (by kernel_rfl) rfl #[.agg #[.int .u64 a0_0, .int .u64 a0_1, .int .i64 a0_2]] rfl (by (try simp only [List.map_toArray, List.map_cons, List.map_nil]); first | done | rfl | (simp only [List.length_drop, List.length_take]; rfl)) ?_; (with_reducible refine (addr_Halves.calls kj71 a0_0 a0_1 a0_2 t539 t540 t541 t542 t543 t544 false _ A242.out).mono ?_); rintro e w339 ⟨rfl, hb⟩; refine ⟨_, rfl, ?_⟩; have n0_ := Aside0.mk (zkB (by (with_reducible repeat (first | refine zkN ?_ _ | refine zk1 ?_ | refine zkA ?_ _)); exact BK514.out) hb); have n1_ := Aside0.mk (zkB (by (with_reducible repeat (first | refine zkN ?_ _ | refine zk1 ?_ | refine zkA ?_ _)); exact BK515.out) hb); have n2_ := Aside0.mk (zkB (by (with_reducible repeat (first | refine zkN ?_ _ | refine zk1 ?_ | refine zkA ?_ _)); exact BK516.out) hb); have n3_ := Aside0.mk (zbP (by repeat (first | (with_reducible first | exact HB.out | apply zbA | apply zbN | apply zb1 | refine zbS ?_ GE514.out | refine zbS ?_ GE515.out | refine zbS ?_ GE516.out) | exact HB.out)) hb); clear BK514; clear BK515; clear BK516; clear HB; have BK514 := n0_; have BK515 := n1_; have BK516 := n2_; have HB := n3_; clear n0_ n1_ n2_ n3_; (try clear hb); (try clear hb2); (try clear hk); (try clear hi)) | ((with_reducible refine gate_dst (N := 7) rfl ?_); refine box_event ?hg (N := 7) ?hd (cs := #[.int .u64 0, .int .u64 0, .int .i64 0]) (t := 33) ?hr ?_; (case hd => rfl); (case hg => rfl); (case hr => first | (go_simp; done) | (go_simp; rfl)); intro gb546 hg w340 hbox hb; have n0_ := Aside0.mk (zkB (by (with_reducible repeat (first | refine zkN ?_ _ | refine zk1 ?_ | refine zkA ?_ _)); exact BK514.out) hb); have n1_ := Aside0.mk (zkB (by (with_reducible repeat (first | refine zkN ?_ _ | refine zk1 ?_ | refine zkA ?_ _)); exact BK515.out) hb); have n2_ := Aside0.mk (zkB (by (with_reducible repeat (first | refine zkN ?_ _ | refine zk1 ?_ | refine zkA ?_ _)); exact BK516.out) hb); have n3_ := Aside0.mk (zbP (by repeat (first | (with_reducible first | exact HB.out | apply zbA | apply zbN | apply zb1 | refine zbS ?_ GE514.out | refine zbS ?_ GE515.out | refine zbS ?_ GE516.out) | exact HB.out)) hb); have n4_ := Aside0.mk (hbox); have n5_ := Aside0.mk ((by rw [hg]; exact (zbZ (by repeat (first | (with_reducible first | exact HB.out | apply zbA | apply zbN | apply zb1 | refine zbS ?_ GE514.out | refine zbS ?_ GE515.out | refine zbS ?_ GE516.out) | exact HB.out))) : w.heap.size ≤ gb546)); have n6_ := n5_; have n7_ := Aside0.mk ((by rw [hg]; exact Nat.ne_of_lt (zkL (by (with_reducible repeat (first | refine zkN ?_ _ | refine zk1 ?_ | refine zkA ?_ _)); exact BK514.out)) : gb514 ≠ gb546)); have n8_ := Aside0.mk (Ne.symm n7_.out); have n9_ := Aside0.mk ((by rw [hg]; exact Nat.ne_of_lt (zkL (by (with_reducible repeat (first | refine zkN ?_ _ | refine zk1 ?_ | refine zkA ?_ _)); exact BK515.out)) : gb515 ≠ gb546)); have n10_ := Aside0.mk (Ne.symm n9_.out); have n11_ := Aside0.mk ((by rw [hg]; exact Nat.ne_of_lt (zkL (by (with_reducible repeat (first | refine zkN ?_ _ | refine zk1 ?_ | refine zkA ?_ _)); exact BK516.out)) : gb516 ≠ gb546)); have n12_ := Aside0.mk (Ne.symm n11_.out); clear BK514; clear BK515; clear BK516; clear HB; have BK514 := n0_; have BK515 := n1_; have BK516 := n2_; have HB := n3_; have BK546 := n4_; have GW546 := n5_; have GE546 := n6_; have NB514_546 := n7_; have NB546_514 := n8_; have NB515_546 := n9_; have NB546_515 := n10_; have NB516_546 := n11_; have NB546_516 := n12_; clear n0_ n1_ n2_ n3_ n4_ n5_ n6_ n7_ n8_ n9_ n10_ n11_ n12_; clear hb hbox hg) | ((with_reducible refine gate_dst (N := 8) rfl ?_); refine box_event ?hg (N := 8) ?hd (cs := #[.int .u64 0, .int .u64 0, .int .i64 0]) (t := 33) ?hr ?_; (case hd => rfl); (case hg => rfl); (case hr => first | (go_simp; done) | (go_simp; rfl)); intro gb547 hg w341 hbox hb; have n0_ := Aside0.mk (zkB (by (with_reducible repeat (first | refine zkN ?_ _ | refine zk1 ?_ | refine zkA ?_ _)); exact BK514.out) hb); have n1_ := Aside0.mk (zkB (by (with_reducible repeat (first | refine zkN ?_ _ | refine zk1 ?_ | refine zkA ?_ _)); exact BK515.out) hb); have n2_ := Aside0.mk (zkB (by (with_reducible repeat (first | refine zkN ?_ _ | refine zk1 ?_ | refine zkA ?_ _)); exact BK516.out) hb); have n3_ := Aside0.mk (zkB (by (with_reducible repeat (first | refine zkN ?_ _ | refine zk1 ?_ | refine zkA ?_ _)); exact BK546.out) hb); have n4_ := Aside0.mk (zbP (by repeat (first | (with_reducible first | exact HB.out | apply zbA | apply zbN | apply zb1 | refine zbS ?_ GE514.out | refine zbS ?_ GE515.out | refine zbS ?_ GE516.out | refine zbS ?_ GE546.out) | exact HB.out)) hb); have n5_ := Aside0.mk (hbox); have n6_ := Aside0.mk ((by rw [hg]; exact (zbZ (by repeat (first | (with_reducible first | exact HB.out | apply zbA | apply zbN | apply zb1 | refine zbS ?_ GE514.out | refine zbS ?_ GE515.out | refine zbS ?_ GE516.out | refine zbS ?_ GE546.out) | exact HB.out))) : w.heap.size ≤ gb547)); have n7_ := n6_; have n8_ := Aside0.mk ((by rw [hg]; exact Nat.ne_of_lt (zkL (by (with_reducible repeat (first | refine zkN ?_ _ | refine zk1 ?_ | refine zkA ?_ _)); exact BK514.out)) : gb514 ≠ gb547)); have n9_ := Aside0.mk (Ne.symm n8_.out); have n10_ := Aside0.mk ((by rw [hg]; exact Nat.ne_of_lt (zkL (by (with_reducible repeat (first | refine zkN ?_ _ | refine zk1 ?_ | refine zkA ?_ _)); exact BK515.out)) : gb515 ≠ gb547)); have n11_ := Aside0.mk (Ne.symm n10_.out); have n12_ := Aside0.mk ((by rw [hg]; exact Nat.ne_of_lt (zkL (by (with_reducible repeat (first | refine zkN ?_ _ | refine zk1 ?_ | refine zkA ?_ _)); exact BK516.out)) : gb516 ≠ gb547)); have n13_ := Aside0.mk (Ne.symm n12_.out); have n14_ := Aside0.mk ((by rw [hg]; exact Nat.ne_of_lt (zkL (by (with_reducible repeat (first | refine zkN ?_ _ | refine zk1 ?_ | refine zkA ?_ _)); exact BK546.out)) : gb546 ≠ gb547)); have n15_ := Aside0.mk (Ne.symm n14_.out); clear BK514; clear BK515; clear BK516; clear BK546; clear HB; have BK514 := n0_; have BK515 := n1_; have BK516 := n2_; have BK546 := n3_; have HB := n4_; have BK547 := n5_; have GW547 := n6_; have GE547 := n7_; have NB514_547 := n8_; have NB547_514 := n9_; have NB515_547 := n10_; have NB547_515 := n11_; have NB516_547 := n12_; have NB547_516 := n13_; have NB546_547 := n14_; have NB547_546 := n15_; clear n0_ n1_ n2_ n3_ n4_ n5_ n6_ n7_ n8_ n9_ n10_ n11_ n12_ n13_ n14_ n15_; clear hb hbox hg; have hnb342 := NB546_514.out; have hnc342 := NB514_546.out; have hnb343 := NB546_515.out; have hnc343 := NB515_546.out; have hnb344 := NB546_516.out; have hnc344 := NB516_546.out; have hnb345 := NB546_547.out; have hnc345 := NB547_546.out; obtain ⟨hcz346_0, hcz346_1, hcz346_2, hfz346_0, hfz346_1, hfz346_2⟩ := zc3 BK546.out; have hnb347 := NB547_514.out; have hnc347 := NB514_547.out; have hnb348 := NB547_515.out; have hnc348 := NB515_547.out; have hnb349 := NB547_516.out; have hnc349 := NB516_547.out; obtain ⟨hcz350_0, hcz350_1, hcz350_2, hfz350_0, hfz350_1, hfz350_2⟩ := zc3 BK547.out; obtain ⟨hcz351_0, hcz351_1, hcz351_2, hfz351_0, hfz351_1, hfz351_2⟩ := zc3 BK514.out) | ((with_reducible refine gate_callee (f := 19) rfl ?_); refine goesL_ (some 86) rfl rfl Try.func19 (by kernel_rfl) rfl #[.agg #[.int .u64 a0_0, .int .u64 a0_1, .int .i64 a0_2]] rfl (by (try simp only [List.map_toArray, List.map_cons, List.map_nil]); first | done | rfl | (simp only [List.length_drop, List.length_take]; rfl)) ?_; (with_reducible refine (addr_Sound.calls kj71 a0_0 a0_1 a0_2 false _ A316.out).mono ?_); rintro e w352 ⟨rfl, hb⟩; refine ⟨_, rfl, ?_⟩; have n0_ := Aside0.mk (zkB (g := gb514) (o := .cells #[.int .u64 a0_0, .int .u64 a0_1, .int .i64 a0_2] 33 (0, 0)) (by (with_reducible repeat (first | refine zkN ?_ _ | refine zk1 ?_ | refine zkA ?_ _)); refine blk_far ?_ NB514_547.out _; (with_reducible repeat (first | refine zkN ?_ _ | refine zk1 ?_ | refine zkA ?_ _)); refine blk_far ?_ NB514_547.out _; (with_reducible repeat (first | refine zkN ?_ _ | refine zk1 ?_ | refine zkA ?_ _)); refine blk_far ?_ NB514_547.out _; (with_reducible repeat (first | refine zkN ?_ _ | refine zk1 ?_ | refine zkA ?_ _)); refine blk_far ?_ NB514_546.out _; (with_reducible repeat (first | refine zkN ?_ _ | refine zk1 ?_ | refine zkA ?_ _)); refine blk_far ?_ NB514_546.out _; (with_reducible repeat (first | refine zkN ?_ _ | refine zk1 ?_ | refine zkA ?_ _)); refine blk_far ?_ NB514_546.out _; (with_reducible repeat (first | refine zkN ?_ _ | refine zk1 ?_ | refine zkA ?_ _)); exact BK514.out) hb); have n1_ := Aside0.mk (zkB (g := gb515) (o := .cells #[.int .u64 a1_0, .int .u64 a1_1, .int .i64 a1_2] 33 (0, 0)) (by (with_reducible repeat (first | refine zkN ?_ _ | refine zk1 ?_ | refine zkA ?_ _)); refine blk_far ?_ NB515_547.out _; (with_reducible repeat (first | refine zkN ?_ _ | refine zk1 ?_ | refine zkA ?_ _)); refine blk_far ?_ NB515_547.out _; (with_reducible repeat (first | refine zkN ?_ _ | refine zk1 ?_ | refine zkA ?_ _)); refine blk_far ?_ NB515_547.out _; (with_reducible repeat (first | refine zkN ?_ _ | refine zk1 ?_ | refine zkA ?_ _)); refine blk_far ?_ NB515_546.out _; (with_reducible repeat (first | refine zkN ?_ _ | refine zk1 ?_ | refine zkA ?_ _)); refine blk_far ?_ NB515_546.out _; (with_reducible repeat (first | refine zkN ?_ _ | refine zk1 ?_ | refine zkA ?_ _)); refine blk_far ?_ NB515_546.out _; (with_reducible repeat (first | refine zkN ?_ _ | refine zk1 ?_ | refine zkA ?_ _)); exact BK515.out) hb); have n2_ := Aside0.mk (zkB (g := gb516) (o := .cells #[.int .u64 a2_0, .int .u64 a2_1] 24 (0, 0)) (by (with_reducible repeat (first | refine zkN ?_ _ | refine zk1 ?_ | refine zkA ?_ _)); refine blk_far ?_ NB516_547.out _; (with_reducible repeat (first | refine zkN ?_ _ | refine zk1 ?_ | refine zkA ?_ _)); refine blk_far ?_ NB516_547.out _; (with_reducible repeat (first | refine zkN ?_ _ | refine zk1 ?_ | refine zkA ?_ _)); refine blk_far ?_ NB516_547.out _; (with_reducible repeat (first | refine zkN ?_ _ | refine zk1 ?_ | refine zkA ?_ _)); refine blk_far ?_ NB516_546.out _; (with_reducible repeat (first | refine zkN ?_ _ | refine zk1 ?_ | refine zkA ?_ _)); refine blk_far ?_ NB516_546.out _; (with_reducible repeat (first | refine zkN ?_ _ | refine zk1 ?_ | refine zkA ?_ _)); refine blk_far ?_ NB516_546.out _; (with_reducible repeat (first | refine zkN ?_ _ | refine zk1 ?_ | refine zkA ?_ _)); exact BK516.out) hb); have n3_ := Aside0.mk (zkB (g := gb546) (o := .cells #[.int .u64 t539, .int .u64 t540, .int .i64 t541] 33 (0, 0)) (by (with_reducible repeat (first | refine zkN ?_ _ | refine zk1 ?_ | refine zkA ?_ _)); refine blk_far ?_ NB546_547.out _; (with_reducible repeat (first | refine zkN ?_ _ | refine zk1 ?_ | refine zkA ?_ _)); refine blk_far ?_ NB546_547.out _; (with_reducible repeat (first | refine zkN ?_ _ | refine zk1 ?_ | refine zkA ?_ _)); refine blk_far ?_ NB546_547.out _; (with_reducible repeat (first | refine zkN ?_ _ | refine zk1 ?_ | refine zkA ?_ _)); refine zkP (cs := #[.int .u64 t539, .int .u64 t540, .int .i64 0]) ?_ 2 _ rfl; (with_reducible repeat (first | refine zkN ?_ _ | refine zk1 ?_ | refine zkA ?_ _)); refine zkP (cs := #[.int .u64 t539, .int .u64 0, .int .i64 0]) ?_ 1 _ rfl; (with_reducible repeat (first | refine zkN ?_ _ | refine zk1 ?_ | refine zkA ?_ _)); refine zkP (cs := #[.int .u64 0, .int .u64 0, .int .i64 0]) ?_ 0 _ rfl; (with_reducible repeat (first | refine zkN ?_ _ | refine zk1 ?_ | refine zkA ?_ _)); exact BK546.out) hb); have n4_ := Aside0.mk (zkB (g := gb547) (o := .cells #[.int .u64 t542, .int .u64 t543, .int .i64 t544] 33 (0, 0)) (by (with_reducible repeat (first | refine zkN ?_ _ | refine zk1 ?_ | refine zkA ?_ _)); refine zkP (cs := #[.int .u64 t542, .int .u64 t543, .int .i64 0]) ?_ 2 _ rfl; (with_reducible repeat (first | refine zkN ?_ _ | refine zk1 ?_ | refine zkA ?_ _)); refine zkP (cs := #[.int .u64 t542, .int .u64 0, .int .i64 0]) ?_ 1 _ rfl; (with_reducible repeat (first | refine zkN ?_ _ | refine zk1 ?_ | refine zkA ?_ _)); refine zkP (cs := #[.int .u64 0, .int .u64 0, .int .i64 0]) ?_ 0 _ rfl; (with_reducible repeat (first | refine zkN ?_ _ | refine zk1 ?_ | refine zkA ?_ _)); refine blk_far ?_ NB547_546.out _; (with_reducible repeat (first | refine zkN ?_ _ | refine zk1 ?_ | refine zkA ?_ _)); refine blk_far ?_ NB547_546.out _; (with_reducible repeat (first | refine zkN ?_ _ | refine zk1 ?_ | refine zkA ?_ _)); refine blk_far ?_ NB547_546.out _; (with_reducible repeat (first | refine zkN ?_ _ | refine zk1 ?_ | refine zkA ?_ _)); exact BK547.out) hb); have n5_ := Aside0.mk (zbP (by repeat (first | (with_reducible first | exact HB.out | apply zbA | apply zbN | apply zb1 | refine zbS ?_ GE514.out | refine zbS ?_ GE515.out | refine zbS ?_ GE516.out | refine zbS ?_ GE546.out | refine zbS ?_ GE547.out) | exact HB.out)) hb); clear BK514; clear BK515; clear BK516; clear BK546; clear BK547; clear HB; have BK514 := n0_; have BK515 := n1_; have BK516 := n2_; have BK546 := n3_; have BK547 := n4_; have HB := n5_; clear n0_ n1_ n2_ n3_ n4_ n5_; (try clear hb); (try clear hb2); (try clear hk); (try clear hi)))
             go_ret
             exact ⟨by first | rfl | (simp [errW_none, errW_some] <;> rfl) | (simp [*, errW_none, errW_some] <;> rfl), by repeat (first | (with_reducible first | exact HB.out | apply zbA | apply zbN | apply zb1 | refine zbS ?_ GE514.out | refine zbS ?_ GE515.out | refine zbS ?_ GE516.out | refine zbS ?_ GE546.out | refine zbS ?_ GE547.out) | exact HB.out)⟩
 ·replace c5 := Bool.eq_false_iff.mpr c5
  subst c5
  have H1 : (none) = some r := by rw [if_neg (show ¬ (false = true) by decide)] at H; exact H
  clear H
  have H := H1
  clear H1
  exact absurd H (by simp)

/-- The one pure statement of tenancylaw01_AddrNested. -/
def tenancylaw01_AddrNested.Pure : Prop := ∀ (a0_0 : Int) (a0_1 : Int) (a0_2 : Int) (a1_0 : Int) (a1_1 : Int) (a1_2 : Int) (a2_0 : Int) (a2_1 : Int), (Lit.int .u64 a0_0).wf = true → (Lit.int .u64 a0_1).wf = true → (Lit.int .i64 a0_2).wf = true → (Lit.int .u64 a1_0).wf = true → (Lit.int .u64 a1_1).wf = true → (Lit.int .i64 a1_2).wf = true → (Lit.int .u64 a2_0).wf = true → (Lit.int .u64 a2_1).wf = true → ∃ k, tenancylaw01_AddrNested.f k a0_0 a0_1 a0_2 a1_0 a1_1 a1_2 a2_0 a2_1 = some true

end Go.Proofs.Ytpllddgbfhnghaa.P
