-- Written by pp.py, a program of this session, out of the translation.
import Derived.Test.YtpllddgbfhnghaaPx0
import Derived.Test.YtpllddgbfhnghaaPx2
import Derived.Test.YtpllddgbfhnghaaPx3
import Derived.Test.YtpllddgbfhnghaaPx10
import Derived.Test.YtpllddgbfhnghaaPx11
import Derived.Test.YtpllddgbfhnghaaPx15
import Derived.Test.YtpllddgbfhnghaaPx25
import Derived.Test.YtpllddgbfhnghaaPx26
import Derived.Test.YtpllddgbfhnghaaPx27
import Derived.Test.YtpllddgbfhnghaaPx28
import Derived.Test.YtpllddgbfhnghaaPx29
namespace Go.Proofs.Ytpllddgbfhnghaa.P
open Go.RowKit Go.Proofs.YtpllddgbfhnghaaW.PrintWords Go.Proofs.YtpllddgbfhnghaaW.PrintLast Go.Proofs.YtpllddgbfhnghaaW.PrintMore
attribute [local go_sem] max2_int min2_int max_two min_two max_three min_three max_four min_four   -- for this text's walks alone
set_option linter.unusedVariables false
set_option linter.unusedSimpArgs false

attribute [local go_sem high] eqA33 eqA38
/-! ### tenancylaw01_AddrPrefixes: function 8 -/
def tenancylaw01_AddrPrefixes.j0 : Nat → Bool → Int → Int → Int → Int → Int → Int → Int → Int → Option (Bool)
 | 0, _, _, _, _, _, _, _, _, _ => none
 | k + 1, x52, x467000, x467001, x467002, x468000, x468001, x468002, x469000, x469001 => if x52 = true then (none) else ((addr_Halves.f k x467000 x467001 x467002).bind fun bt490 => ((tenancyref01_Halves.f k x467000 x467001 x467002).bind fun bt499 => (if ((bt490.1 == bt499.1 && (bt490.2.1 == bt499.2.1)) && (bt490.2.2.1 == bt499.2.2.1)) = true then (if ((bt490.2.2.2.1 == bt499.2.2.2.1 && (bt490.2.2.2.2.1 == bt499.2.2.2.2.1)) && (bt490.2.2.2.2.2.1 == bt499.2.2.2.2.2.1)) = true then (if (bt490.2.2.2.2.2.2 == bt499.2.2.2.2.2.2) = true then ((addr_Has.f k x467000 x467001 x467002 x469000 x469001).bind fun t508 => ((tenancyref01_Has.f k x467000 x467001 x467002 x469000 x469001).bind fun t509 => (if (t508 == t509) = true then ((addr_Covers.f k x467000 x467001 x467002 x468000 x468001 x468002).bind fun t510 => ((tenancyref01_Covers.f k x467000 x467001 x467002 x468000 x468001 x468002).bind fun t511 => (if (t510 == t511) = true then ((addr_Meets.f k x467000 x467001 x467002 x468000 x468001 x468002).bind fun t512 => ((tenancyref01_Meets.f k x467000 x467001 x467002 x468000 x468001 x468002).bind fun t513 => (some (t512 == t513)))) else (none)))) else (none)))) else (none)) else (none)) else (none))))
def tenancylaw01_AddrPrefixes.f (k : Nat) (a0_0 : Int) (a0_1 : Int) (a0_2 : Int) (a1_0 : Int) (a1_1 : Int) (a1_2 : Int) (a2_0 : Int) (a2_1 : Int) : Option (Bool) := (tenancylaw01_awake.f k).bind fun t469 => (if t469 = true then ((addr_Clip.f k a2_0 a2_1 a0_2).bind fun bt470 => ((tenancyref01_Clip.f k a2_0 a2_1 a0_2).bind fun bt475 => (if ((!(bt470.1 == bt475.1) || (!(bt470.2.1 == bt475.2.1))) || (!(bt470.2.2.1 == bt475.2.2.1))) = true then (tenancylaw01_AddrPrefixes.j0 k true a0_0 a0_1 a0_2 a1_0 a1_1 a1_2 a2_0 a2_1) else (if (bt470.2.2.2 != bt475.2.2.2) = true then (tenancylaw01_AddrPrefixes.j0 k true a0_0 a0_1 a0_2 a1_0 a1_1 a1_2 a2_0 a2_1) else ((addr_Sound.f k a0_0 a0_1 a0_2).bind fun t480 => ((tenancyref01_Sound.f k a0_0 a0_1 a0_2).bind fun t481 => (if (t480 != t481) = true then (tenancylaw01_AddrPrefixes.j0 k true a0_0 a0_1 a0_2 a1_0 a1_1 a1_2 a2_0 a2_1) else ((addr_Span.f k a0_0 a0_1 a0_2).bind fun bt482 => ((tenancyref01_Span.f k a0_0 a0_1 a0_2).bind fun bt486 => (tenancylaw01_AddrPrefixes.j0 k ((!(bt482.1 == bt486.1) || (!(bt482.2.1 == bt486.2.1))) || ((!(bt482.2.2.1 == bt486.2.2.1) || (!(bt482.2.2.2 == bt486.2.2.2))))) a0_0 a0_1 a0_2 a1_0 a1_1 a1_2 a2_0 a2_1)))))))))) else (none))
theorem tenancylaw01_AddrPrefixes.mono_l : ∀ k, (∀ y0 y1 y2 y3 y4 y5 y6 y7 y8, LeO (tenancylaw01_AddrPrefixes.j0 k y0 y1 y2 y3 y4 y5 y6 y7 y8) (tenancylaw01_AddrPrefixes.j0 (k + 1) y0 y1 y2 y3 y4 y5 y6 y7 y8))
 | 0 => fun _ _ _ _ _ _ _ _ _ r h => by simp [tenancylaw01_AddrPrefixes.j0] at h
 | k + 1 => by
  have ih0 := tenancylaw01_AddrPrefixes.mono_l k
  ·intro y0 y1 y2 y3 y4 y5 y6 y7 y8
   unfold tenancylaw01_AddrPrefixes.j0
   repeat' first
   | (with_reducible exact ih0 _ _ _ _ _ _ _ _ _)
   | (with_reducible exact addr_Clip.mono _ _ _ _)
   | (with_reducible exact addr_Covers.mono _ _ _ _ _ _ _)
   | (with_reducible exact addr_Halves.mono _ _ _ _)
   | (with_reducible exact addr_Has.mono _ _ _ _ _ _)
   | (with_reducible exact addr_Meets.mono _ _ _ _ _ _ _)
   | (with_reducible exact addr_Sound.mono _ _ _ _)
   | (with_reducible exact addr_Span.mono _ _ _ _)
   | (with_reducible exact tenancylaw01_awake.mono _)
   | (with_reducible exact tenancyref01_Clip.mono _ _ _ _)
   | (with_reducible exact tenancyref01_Covers.mono _ _ _ _ _ _ _)
   | (with_reducible exact tenancyref01_Halves.mono _ _ _ _)
   | (with_reducible exact tenancyref01_Has.mono _ _ _ _ _ _)
   | (with_reducible exact tenancyref01_Meets.mono _ _ _ _ _ _ _)
   | (with_reducible exact tenancyref01_Sound.mono _ _ _ _)
   | (with_reducible exact tenancyref01_Span.mono _ _ _ _)
   | (with_reducible exact LeO.refl _)
   | (with_reducible exact LeO.none _)
   | (with_reducible refine LeO.ite ?_ ?_)
   | (with_reducible refine LeO.bind ?_ (fun _ => ?_))
   | exact ih0 _ _ _ _ _ _ _ _ _
   | exact addr_Clip.mono _ _ _ _
   | exact addr_Covers.mono _ _ _ _ _ _ _
   | exact addr_Halves.mono _ _ _ _
   | exact addr_Has.mono _ _ _ _ _ _
   | exact addr_Meets.mono _ _ _ _ _ _ _
   | exact addr_Sound.mono _ _ _ _
   | exact addr_Span.mono _ _ _ _
   | exact tenancylaw01_awake.mono _
   | exact tenancyref01_Clip.mono _ _ _ _
   | exact tenancyref01_Covers.mono _ _ _ _ _ _ _
   | exact tenancyref01_Halves.mono _ _ _ _
   | exact tenancyref01_Has.mono _ _ _ _ _ _
   | exact tenancyref01_Meets.mono _ _ _ _ _ _ _
   | exact tenancyref01_Sound.mono _ _ _ _
   | exact tenancyref01_Span.mono _ _ _ _
   | exact LeO.none _
   | refine LeO.ite ?_ ?_
   | refine LeO.bind ?_ (fun _ => ?_)
theorem tenancylaw01_AddrPrefixes.mono : ∀ a0 a1 a2 a3 a4 a5 a6 a7 k, LeO (tenancylaw01_AddrPrefixes.f k a0 a1 a2 a3 a4 a5 a6 a7) (tenancylaw01_AddrPrefixes.f (k + 1) a0 a1 a2 a3 a4 a5 a6 a7) := by
 intro a0 a1 a2 a3 a4 a5 a6 a7 k
 have ih0 := tenancylaw01_AddrPrefixes.mono_l k
 unfold tenancylaw01_AddrPrefixes.f
 repeat' first
   | (with_reducible exact ih0 _ _ _ _ _ _ _ _ _)
   | (with_reducible exact addr_Clip.mono _ _ _ _)
   | (with_reducible exact addr_Covers.mono _ _ _ _ _ _ _)
   | (with_reducible exact addr_Halves.mono _ _ _ _)
   | (with_reducible exact addr_Has.mono _ _ _ _ _ _)
   | (with_reducible exact addr_Meets.mono _ _ _ _ _ _ _)
   | (with_reducible exact addr_Sound.mono _ _ _ _)
   | (with_reducible exact addr_Span.mono _ _ _ _)
   | (with_reducible exact tenancylaw01_awake.mono _)
   | (with_reducible exact tenancyref01_Clip.mono _ _ _ _)
   | (with_reducible exact tenancyref01_Covers.mono _ _ _ _ _ _ _)
   | (with_reducible exact tenancyref01_Halves.mono _ _ _ _)
   | (with_reducible exact tenancyref01_Has.mono _ _ _ _ _ _)
   | (with_reducible exact tenancyref01_Meets.mono _ _ _ _ _ _ _)
   | (with_reducible exact tenancyref01_Sound.mono _ _ _ _)
   | (with_reducible exact tenancyref01_Span.mono _ _ _ _)
   | (with_reducible exact LeO.refl _)
   | (with_reducible exact LeO.none _)
   | (with_reducible refine LeO.ite ?_ ?_)
   | (with_reducible refine LeO.bind ?_ (fun _ => ?_))
   | exact ih0 _ _ _ _ _ _ _ _ _
   | exact addr_Clip.mono _ _ _ _
   | exact addr_Covers.mono _ _ _ _ _ _ _
   | exact addr_Halves.mono _ _ _ _
   | exact addr_Has.mono _ _ _ _ _ _
   | exact addr_Meets.mono _ _ _ _ _ _ _
   | exact addr_Sound.mono _ _ _ _
   | exact addr_Span.mono _ _ _ _
   | exact tenancylaw01_awake.mono _
   | exact tenancyref01_Clip.mono _ _ _ _
   | exact tenancyref01_Covers.mono _ _ _ _ _ _ _
   | exact tenancyref01_Halves.mono _ _ _ _
   | exact tenancyref01_Has.mono _ _ _ _ _ _
   | exact tenancyref01_Meets.mono _ _ _ _ _ _ _
   | exact tenancyref01_Sound.mono _ _ _ _
   | exact tenancyref01_Span.mono _ _ _ _
   | exact LeO.none _
   | refine LeO.ite ?_ ?_
   | refine LeO.bind ?_ (fun _ => ?_)
def tenancylaw01_AddrPrefixes.T5 : Bool × List (List Nat × List Nat) := (true, [([], []), ([], []), ([0, 1], [0, 1]), ([2], [2]), ([3], [3]), ([3], [3]), ([4, 5, 3], [3, 4, 5]), ([3, 6], [3, 6]), ([7, 3], [7]), ([8], [8]), ([9, 8, 8], [8, 9]), ([8], [8]), ([11, 10, 8], [8, 11]), ([10, 12, 8], [8, 10, 12]), ([8, 13], [8, 13]), ([14, 12], [14]), ([15], [15]), ([16, 15, 15], [15, 16]), ([15], [15]), ([18, 17, 15], [15, 18]), ([17, 19, 15], [15, 17, 19]), ([15, 20], [15, 20])])
def tenancylaw01_AddrPrefixes.B5 : List Nat := [0, 0, 3, 7, 15, 15, 63, 127, 255, 511, 1023, 511, 4095, 8191, 16383, 32767, 65535, 131071, 65535, 524287, 1048575, 2097151]
theorem tenancylaw01_AddrPrefixes.tab5 : rtab .any (opsOf Try.f8 5) = tenancylaw01_AddrPrefixes.T5 := by kernel_rfl
theorem tenancylaw01_AddrPrefixes.bits5 : waitsOk tenancylaw01_AddrPrefixes.T5.2 tenancylaw01_AddrPrefixes.B5 = true := by kernel_rfl
def tenancylaw01_AddrPrefixes.T9 : Bool × List (List Nat × List Nat) := (true, [([], []), ([], []), ([0, 1], [0, 1]), ([2], [2]), ([3], [3]), ([3], [3]), ([4, 5, 3], [3, 4, 5]), ([3, 6], [3, 6]), ([7, 3], [7]), ([8], [8]), ([8], [8]), ([9, 10, 8], [8, 9, 10]), ([8, 11], [8, 11]), ([12, 8], [12]), ([13], [13]), ([13], [13]), ([14, 15, 13, 13], [13, 14, 15]), ([13], [13]), ([13], [13]), ([17, 18, 16, 13], [13, 17, 18]), ([16, 19, 13], [13, 16, 19]), ([13, 20], [13, 20]), ([21, 19], [21]), ([22], [22]), ([22], [22]), ([23, 24, 22, 22], [22, 23, 24]), ([22], [22]), ([22], [22]), ([26, 27, 25, 22], [22, 26, 27]), ([25, 28, 22], [22, 25, 28]), ([22, 29], [22, 29]), ([30, 28], [30]), ([31], [31]), ([31], [31]), ([32, 33, 31, 31], [31, 32, 33]), ([31], [31]), ([31], [31]), ([35, 36, 34, 31], [31, 35, 36]), ([34, 37, 31], [31, 34, 37]), ([31, 38], [31, 38]), ([39, 37, 0, 1, 2, 3, 4, 5, 6, 7, 8, 9, 10, 11, 12, 13, 14, 15, 16, 17, 18, 19, 20, 21, 22, 23, 24, 25, 26, 27, 28, 29, 30, 31, 32, 33, 34, 35, 36, 37, 38, 39], [39])])
def tenancylaw01_AddrPrefixes.B9 : List Nat := [0, 0, 3, 7, 15, 15, 63, 127, 255, 511, 511, 2047, 4095, 8191, 16383, 16383, 65535, 16383, 16383, 524287, 1048575, 2097151, 4194303, 8388607, 8388607, 33554431, 8388607, 8388607, 268435455, 536870911, 1073741823, 2147483647, 4294967295, 4294967295, 17179869183, 4294967295, 4294967295, 137438953471, 274877906943, 549755813887, 1099511627775]
theorem tenancylaw01_AddrPrefixes.tab9 : rtab .any (opsOf Try.f8 9) = tenancylaw01_AddrPrefixes.T9 := by kernel_rfl
theorem tenancylaw01_AddrPrefixes.bits9 : waitsOk tenancylaw01_AddrPrefixes.T9.2 tenancylaw01_AddrPrefixes.B9 = true := by kernel_rfl
set_option maxHeartbeats 8000000 in
set_option maxRecDepth 100000 in
theorem tenancylaw01_AddrPrefixes.calls (k : Nat) (a0_0 : Int) (a0_1 : Int) (a0_2 : Int) (a1_0 : Int) (a1_1 : Int) (a1_2 : Int) (a2_0 : Int) (a2_1 : Int) (r : Bool) (w : World) (h : tenancylaw01_AddrPrefixes.f k a0_0 a0_1 a0_2 a1_0 a1_1 a1_2 a2_0 a2_1 = some r) :
  Calls Try.prog 8 #[.agg #[.int .u64 a0_0, .int .u64 a0_1, .int .i64 a0_2], .agg #[.int .u64 a1_0, .int .u64 a1_1, .int .i64 a1_2], .agg #[.int .u64 a2_0, .int .u64 a2_1]] w fun e w' => e = .returned (.bool r) ∧ Below w.heap.size w w' := by
 have hu33 := Try.underlying33
 have hu24 := Try.underlying24
 have HB := Aside0.mk (Below.refl w.heap.size w)
 have H : ((tenancylaw01_awake.f k).bind fun t469 => (if t469 = true then ((addr_Clip.f k a2_0 a2_1 a0_2).bind fun bt470 => ((tenancyref01_Clip.f k a2_0 a2_1 a0_2).bind fun bt475 => (if ((!(bt470.1 == bt475.1) || (!(bt470.2.1 == bt475.2.1))) || (!(bt470.2.2.1 == bt475.2.2.1))) = true then (tenancylaw01_AddrPrefixes.j0 k true a0_0 a0_1 a0_2 a1_0 a1_1 a1_2 a2_0 a2_1) else (if (bt470.2.2.2 != bt475.2.2.2) = true then (tenancylaw01_AddrPrefixes.j0 k true a0_0 a0_1 a0_2 a1_0 a1_1 a1_2 a2_0 a2_1) else ((addr_Sound.f k a0_0 a0_1 a0_2).bind fun t480 => ((tenancyref01_Sound.f k a0_0 a0_1 a0_2).bind fun t481 => (if (t480 != t481) = true then (tenancylaw01_AddrPrefixes.j0 k true a0_0 a0_1 a0_2 a1_0 a1_1 a1_2 a2_0 a2_1) else ((addr_Span.f k a0_0 a0_1 a0_2).bind fun bt482 => ((tenancyref01_Span.f k a0_0 a0_1 a0_2).bind fun bt486 => (tenancylaw01_AddrPrefixes.j0 k ((!(bt482.1 == bt486.1) || (!(bt482.2.1 == bt486.2.1))) || ((!(bt482.2.2.1 == bt486.2.2.1) || (!(bt482.2.2.2 == bt486.2.2.2))))) a0_0 a0_1 a0_2 a1_0 a1_1 a1_2 a2_0 a2_1)))))))))) else (none))) = some r := h
 clear h
 replace H := Option.bind_eq_some_iff.mp H
 obtain ⟨t469, A40, H⟩ := H
 replace H : (if t469 = true then ((addr_Clip.f k a2_0 a2_1 a0_2).bind fun bt470 => ((tenancyref01_Clip.f k a2_0 a2_1 a0_2).bind fun bt475 => (if ((!(bt470.1 == bt475.1) || (!(bt470.2.1 == bt475.2.1))) || (!(bt470.2.2.1 == bt475.2.2.1))) = true then (tenancylaw01_AddrPrefixes.j0 k true a0_0 a0_1 a0_2 a1_0 a1_1 a1_2 a2_0 a2_1) else (if (bt470.2.2.2 != bt475.2.2.2) = true then (tenancylaw01_AddrPrefixes.j0 k true a0_0 a0_1 a0_2 a1_0 a1_1 a1_2 a2_0 a2_1) else ((addr_Sound.f k a0_0 a0_1 a0_2).bind fun t480 => ((tenancyref01_Sound.f k a0_0 a0_1 a0_2).bind fun t481 => (if (t480 != t481) = true then (tenancylaw01_AddrPrefixes.j0 k true a0_0 a0_1 a0_2 a1_0 a1_1 a1_2 a2_0 a2_1) else ((addr_Span.f k a0_0 a0_1 a0_2).bind fun bt482 => ((tenancyref01_Span.f k a0_0 a0_1 a0_2).bind fun bt486 => (tenancylaw01_AddrPrefixes.j0 k ((!(bt482.1 == bt486.1) || (!(bt482.2.1 == bt486.2.1))) || ((!(bt482.2.2.1 == bt486.2.2.1) || (!(bt482.2.2.2 == bt486.2.2.2))))) a0_0 a0_1 a0_2 a1_0 a1_1 a1_2 a2_0 a2_1)))))))))) else (none)) = some r := H
 have A4 := Aside0.mk A40
 clear A40
 by_cases c5 : t469 = true
 ·subst c5
  have H1 : ((addr_Clip.f k a2_0 a2_1 a0_2).bind fun bt470 => ((tenancyref01_Clip.f k a2_0 a2_1 a0_2).bind fun bt475 => (if ((!(bt470.1 == bt475.1) || (!(bt470.2.1 == bt475.2.1))) || (!(bt470.2.2.1 == bt475.2.2.1))) = true then (tenancylaw01_AddrPrefixes.j0 k true a0_0 a0_1 a0_2 a1_0 a1_1 a1_2 a2_0 a2_1) else (if (bt470.2.2.2 != bt475.2.2.2) = true then (tenancylaw01_AddrPrefixes.j0 k true a0_0 a0_1 a0_2 a1_0 a1_1 a1_2 a2_0 a2_1) else ((addr_Sound.f k a0_0 a0_1 a0_2).bind fun t480 => ((tenancyref01_Sound.f k a0_0 a0_1 a0_2).bind fun t481 => (if (t480 != t481) = true then (tenancylaw01_AddrPrefixes.j0 k true a0_0 a0_1 a0_2 a1_0 a1_1 a1_2 a2_0 a2_1) else ((addr_Span.f k a0_0 a0_1 a0_2).bind fun bt482 => ((tenancyref01_Span.f k a0_0 a0_1 a0_2).bind fun bt486 => (tenancylaw01_AddrPrefixes.j0 k ((!(bt482.1 == bt486.1) || (!(bt482.2.1 == bt486.2.1))) || ((!(bt482.2.2.1 == bt486.2.2.1) || (!(bt482.2.2.2 == bt486.2.2.2))))) a0_0 a0_1 a0_2 a1_0 a1_1 a1_2 a2_0 a2_1)))))))))) = some r := by rw [if_pos rfl] at H; exact H
  clear H
  have H := H1
  clear H1
  replace H := Option.bind_eq_some_iff.mp H
  obtain ⟨⟨t470, t471, t472, t473⟩, A60, H⟩ := H
  replace H : ((tenancyref01_Clip.f k a2_0 a2_1 a0_2).bind fun bt475 => (if ((!(t470 == bt475.1) || (!(t471 == bt475.2.1))) || (!(t472 == bt475.2.2.1))) = true then (tenancylaw01_AddrPrefixes.j0 k true a0_0 a0_1 a0_2 a1_0 a1_1 a1_2 a2_0 a2_1) else (if (t473 != bt475.2.2.2) = true then (tenancylaw01_AddrPrefixes.j0 k true a0_0 a0_1 a0_2 a1_0 a1_1 a1_2 a2_0 a2_1) else ((addr_Sound.f k a0_0 a0_1 a0_2).bind fun t480 => ((tenancyref01_Sound.f k a0_0 a0_1 a0_2).bind fun t481 => (if (t480 != t481) = true then (tenancylaw01_AddrPrefixes.j0 k true a0_0 a0_1 a0_2 a1_0 a1_1 a1_2 a2_0 a2_1) else ((addr_Span.f k a0_0 a0_1 a0_2).bind fun bt482 => ((tenancyref01_Span.f k a0_0 a0_1 a0_2).bind fun bt486 => (tenancylaw01_AddrPrefixes.j0 k ((!(bt482.1 == bt486.1) || (!(bt482.2.1 == bt486.2.1))) || ((!(bt482.2.2.1 == bt486.2.2.1) || (!(bt482.2.2.2 == bt486.2.2.2))))) a0_0 a0_1 a0_2 a1_0 a1_1 a1_2 a2_0 a2_1))))))))) = some r := H
  have A6 := Aside0.mk A60
  clear A60
  replace H := Option.bind_eq_some_iff.mp H
  obtain ⟨⟨t475, t476, t477, t478⟩, A70, H⟩ := H
  replace H : (if ((!(t470 == t475) || (!(t471 == t476))) || (!(t472 == t477))) = true then (tenancylaw01_AddrPrefixes.j0 k true a0_0 a0_1 a0_2 a1_0 a1_1 a1_2 a2_0 a2_1) else (if (t473 != t478) = true then (tenancylaw01_AddrPrefixes.j0 k true a0_0 a0_1 a0_2 a1_0 a1_1 a1_2 a2_0 a2_1) else ((addr_Sound.f k a0_0 a0_1 a0_2).bind fun t480 => ((tenancyref01_Sound.f k a0_0 a0_1 a0_2).bind fun t481 => (if (t480 != t481) = true then (tenancylaw01_AddrPrefixes.j0 k true a0_0 a0_1 a0_2 a1_0 a1_1 a1_2 a2_0 a2_1) else ((addr_Span.f k a0_0 a0_1 a0_2).bind fun bt482 => ((tenancyref01_Span.f k a0_0 a0_1 a0_2).bind fun bt486 => (tenancylaw01_AddrPrefixes.j0 k ((!(bt482.1 == bt486.1) || (!(bt482.2.1 == bt486.2.1))) || ((!(bt482.2.2.1 == bt486.2.2.1) || (!(bt482.2.2.2 == bt486.2.2.2))))) a0_0 a0_1 a0_2 a1_0 a1_1 a1_2 a2_0 a2_1)))))))) = some r := H
  have A7 := Aside0.mk A70
  clear A70
  have HC8 := Aside0.mk H
  clear H
  go_enter Try.func8, Try.ntmps8
  go_upto_region 5 with (first | ((with_reducible refine gate_dst (N := 3) rfl ?_); refine box_event ?hg (N := 3) ?hd (cs := #[.int .u64 a0_0, .int .u64 a0_1, .int .i64 a0_2]) (t := 33) ?hr ?_; (case hd => rfl); (case hg => rfl); (case hr => first | (go_simp; done) | (go_simp; rfl)); intro gb466 hg w9 hbox hb; have n0_ := Aside0.mk (zbP (by repeat (first | (with_reducible first | exact HB.out | apply zbA | apply zbN | apply zb1) | exact HB.out)) hb); have n1_ := Aside0.mk (hbox); have n2_ := Aside0.mk ((by rw [hg]; exact (zbZ (by repeat (first | (with_reducible first | exact HB.out | apply zbA | apply zbN | apply zb1) | exact HB.out))) : w.heap.size ≤ gb466)); have n3_ := n2_; clear HB; have HB := n0_; have BK466 := n1_; have GW466 := n2_; have GE466 := n3_; clear n0_ n1_ n2_ n3_; clear hb hbox hg) | ((with_reducible refine gate_dst (N := 4) rfl ?_); refine box_event ?hg (N := 4) ?hd (cs := #[.int .u64 a1_0, .int .u64 a1_1, .int .i64 a1_2]) (t := 33) ?hr ?_; (case hd => rfl); (case hg => rfl); (case hr => first | (go_simp; done) | (go_simp; rfl)); intro gb467 hg w10 hbox hb; have n0_ := Aside0.mk (zkB (by (with_reducible repeat (first | refine zkN ?_ _ | refine zk1 ?_ | refine zkA ?_ _)); exact BK466.out) hb); have n1_ := Aside0.mk (zbP (by repeat (first | (with_reducible first | exact HB.out | apply zbA | apply zbN | apply zb1 | refine zbS ?_ GE466.out) | exact HB.out)) hb); have n2_ := Aside0.mk (hbox); have n3_ := Aside0.mk ((by rw [hg]; exact (zbZ (by repeat (first | (with_reducible first | exact HB.out | apply zbA | apply zbN | apply zb1 | refine zbS ?_ GE466.out) | exact HB.out))) : w.heap.size ≤ gb467)); have n4_ := n3_; have n5_ := Aside0.mk ((by rw [hg]; exact Nat.ne_of_lt (zkL (by (with_reducible repeat (first | refine zkN ?_ _ | refine zk1 ?_ | refine zkA ?_ _)); exact BK466.out)) : gb466 ≠ gb467)); have n6_ := Aside0.mk (Ne.symm n5_.out); clear BK466; clear HB; have BK466 := n0_; have HB := n1_; have BK467 := n2_; have GW467 := n3_; have GE467 := n4_; have NB466_467 := n5_; have NB467_466 := n6_; clear n0_ n1_ n2_ n3_ n4_ n5_ n6_; clear hb hbox hg) | ((with_reducible refine gate_dst (N := 5) rfl ?_); refine box_event ?hg (N := 5) ?hd (cs := #[.int .u64 a2_0, .int .u64 a2_1]) (t := 24) ?hr ?_; (case hd => rfl); (case hg => rfl); (case hr => first | (go_simp; done) | (go_simp; rfl)); intro gb468 hg w11 hbox hb; have n0_ := Aside0.mk (zkB (by (with_reducible repeat (first | refine zkN ?_ _ | refine zk1 ?_ | refine zkA ?_ _)); exact BK466.out) hb); have n1_ := Aside0.mk (zkB (by (with_reducible repeat (first | refine zkN ?_ _ | refine zk1 ?_ | refine zkA ?_ _)); exact BK467.out) hb); have n2_ := Aside0.mk (zbP (by repeat (first | (with_reducible first | exact HB.out | apply zbA | apply zbN | apply zb1 | refine zbS ?_ GE466.out | refine zbS ?_ GE467.out) | exact HB.out)) hb); have n3_ := Aside0.mk (hbox); have n4_ := Aside0.mk ((by rw [hg]; exact (zbZ (by repeat (first | (with_reducible first | exact HB.out | apply zbA | apply zbN | apply zb1 | refine zbS ?_ GE466.out | refine zbS ?_ GE467.out) | exact HB.out))) : w.heap.size ≤ gb468)); have n5_ := n4_; have n6_ := Aside0.mk ((by rw [hg]; exact Nat.ne_of_lt (zkL (by (with_reducible repeat (first | refine zkN ?_ _ | refine zk1 ?_ | refine zkA ?_ _)); exact BK466.out)) : gb466 ≠ gb468)); have n7_ := Aside0.mk (Ne.symm n6_.out); have n8_ := Aside0.mk ((by rw [hg]; exact Nat.ne_of_lt (zkL (by (with_reducible repeat (first | refine zkN ?_ _ | refine zk1 ?_ | refine zkA ?_ _)); exact BK467.out)) : gb467 ≠ gb468)); have n9_ := Aside0.mk (Ne.symm n8_.out); clear BK466; clear BK467; clear HB; have BK466 := n0_; have BK467 := n1_; have HB := n2_; have BK468 := n3_; have GW468 := n4_; have GE468 := n5_; have NB466_468 := n6_; have NB468_466 := n7_; have NB467_468 := n8_; have NB468_467 := n9_; clear n0_ n1_ n2_ n3_ n4_ n5_ n6_ n7_ n8_ n9_; clear hb hbox hg) | ((with_reducible refine gate_callee (f := 10) rfl ?_); refine goesL_ (some 15) rfl rfl Try.func10 (by kernel_rfl) rfl #[] rfl (by (try simp only [List.map_toArray, List.map_cons, List.map_nil]); first | done | rfl | (simp only [List.length_drop, List.length_take]; rfl)) ?_; (with_reducible refine (tenancylaw01_awake.calls k  true _ A4.out).mono ?_); rintro e w12 ⟨rfl, hb⟩; refine ⟨_, rfl, ?_⟩; have n0_ := Aside0.mk (zkB (by (with_reducible repeat (first | refine zkN ?_ _ | refine zk1 ?_ | refine zkA ?_ _)); exact BK466.out) hb); have n1_ := Aside0.mk (zkB (by (with_reducible repeat (first | refine zkN ?_ _ | refine zk1 ?_ | refine zkA ?_ _)); exact BK467.out) hb); have n2_ := Aside0.mk (zkB (by (with_reducible repeat (first | refine zkN ?_ _ | refine zk1 ?_ | refine zkA ?_ _)); exact BK468.out) hb); have n3_ := Aside0.mk (zbP (by repeat (first | (with_reducible first | exact HB.out | apply zbA | apply zbN | apply zb1 | refine zbS ?_ GE466.out | refine zbS ?_ GE467.out | refine zbS ?_ GE468.out) | exact HB.out)) hb); clear BK466; clear BK467; clear BK468; clear HB; have BK466 := n0_; have BK467 := n1_; have BK468 := n2_; have HB := n3_; clear n0_ n1_ n2_ n3_; (try clear hb); (try clear hb2); (try clear hk); (try clear hi); have hnb13 := NB468_466.out; have hnc13 := NB466_468.out; have hnb14 := NB468_467.out; have hnc14 := NB467_468.out; obtain ⟨hcz15_0, hcz15_1, hfz15_0, hfz15_1⟩ := zc2 BK468.out; have hnb16 := NB466_467.out; have hnc16 := NB467_466.out; obtain ⟨hcz17_0, hcz17_1, hcz17_2, hfz17_0, hfz17_1, hfz17_2⟩ := zc3 BK466.out) | ((with_reducible refine gate_callee (f := 17) rfl ?_); refine goesL_ (some 21) rfl rfl Try.func17 (by kernel_rfl) rfl #[.agg #[.int .u64 a2_0, .int .u64 a2_1], .int .i64 a0_2] rfl (by (try simp only [List.map_toArray, List.map_cons, List.map_nil]); first | done | rfl | (simp only [List.length_drop, List.length_take]; rfl)) ?_; (with_reducible refine (addr_Clip.calls k a2_0 a2_1 a0_2 t470 t471 t472 t473 _ A6.out).mono ?_); rintro e w18 ⟨rfl, hb⟩; refine ⟨_, rfl, ?_⟩; have n0_ := Aside0.mk (zkB (by (with_reducible repeat (first | refine zkN ?_ _ | refine zk1 ?_ | refine zkA ?_ _)); exact BK466.out) hb); have n1_ := Aside0.mk (zkB (by (with_reducible repeat (first | refine zkN ?_ _ | refine zk1 ?_ | refine zkA ?_ _)); exact BK467.out) hb); have n2_ := Aside0.mk (zkB (by (with_reducible repeat (first | refine zkN ?_ _ | refine zk1 ?_ | refine zkA ?_ _)); exact BK468.out) hb); have n3_ := Aside0.mk (zbP (by repeat (first | (with_reducible first | exact HB.out | apply zbA | apply zbN | apply zb1 | refine zbS ?_ GE466.out | refine zbS ?_ GE467.out | refine zbS ?_ GE468.out) | exact HB.out)) hb); clear BK466; clear BK467; clear BK468; clear HB; have BK466 := n0_; have BK467 := n1_; have BK468 := n2_; have HB := n3_; clear n0_ n1_ n2_ n3_; (try clear hb); (try clear hb2); (try clear hk); (try clear hi)) | ((with_reducible refine gate_dst (N := 7) rfl ?_); refine box_event ?hg (N := 7) ?hd (cs := #[.int .u64 0, .int .u64 0, .int .i64 0]) (t := 33) ?hr ?_; (case hd => rfl); (case hg => rfl); (case hr => first | (go_simp; done) | (go_simp; rfl)); intro gb474 hg w19 hbox hb; have n0_ := Aside0.mk (zkB (by (with_reducible repeat (first | refine zkN ?_ _ | refine zk1 ?_ | refine zkA ?_ _)); exact BK466.out) hb); have n1_ := Aside0.mk (zkB (by (with_reducible repeat (first | refine zkN ?_ _ | refine zk1 ?_ | refine zkA ?_ _)); exact BK467.out) hb); have n2_ := Aside0.mk (zkB (by (with_reducible repeat (first | refine zkN ?_ _ | refine zk1 ?_ | refine zkA ?_ _)); exact BK468.out) hb); have n3_ := Aside0.mk (zbP (by repeat (first | (with_reducible first | exact HB.out | apply zbA | apply zbN | apply zb1 | refine zbS ?_ GE466.out | refine zbS ?_ GE467.out | refine zbS ?_ GE468.out) | exact HB.out)) hb); have n4_ := Aside0.mk (hbox); have n5_ := Aside0.mk ((by rw [hg]; exact (zbZ (by repeat (first | (with_reducible first | exact HB.out | apply zbA | apply zbN | apply zb1 | refine zbS ?_ GE466.out | refine zbS ?_ GE467.out | refine zbS ?_ GE468.out) | exact HB.out))) : w.heap.size ≤ gb474)); have n6_ := n5_; have n7_ := Aside0.mk ((by rw [hg]; exact Nat.ne_of_lt (zkL (by (with_reducible repeat (first | refine zkN ?_ _ | refine zk1 ?_ | refine zkA ?_ _)); exact BK466.out)) : gb466 ≠ gb474)); have n8_ := Aside0.mk (Ne.symm n7_.out); have n9_ := Aside0.mk ((by rw [hg]; exact Nat.ne_of_lt (zkL (by (with_reducible repeat (first | refine zkN ?_ _ | refine zk1 ?_ | refine zkA ?_ _)); exact BK467.out)) : gb467 ≠ gb474)); have n10_ := Aside0.mk (Ne.symm n9_.out); have n11_ := Aside0.mk ((by rw [hg]; exact Nat.ne_of_lt (zkL (by (with_reducible repeat (first | refine zkN ?_ _ | refine zk1 ?_ | refine zkA ?_ _)); exact BK468.out)) : gb468 ≠ gb474)); have n12_ := Aside0.mk (Ne.symm n11_.out); clear BK466; clear BK467; clear BK468; clear HB; have BK466 := n0_; have BK467 := n1_; have BK468 := n2_; have HB := n3_; have BK474 := n4_; have GW474 := n5_; have GE474 := n6_; have NB466_474 := n7_; have NB474_466 := n8_; have NB467_474 := n9_; have NB474_467 := n10_; have NB468_474 := n11_; have NB474_468 := n12_; clear n0_ n1_ n2_ n3_ n4_ n5_ n6_ n7_ n8_ n9_ n10_ n11_ n12_; clear hb hbox hg; have hnb20 := NB474_466.out; have hnc20 := NB466_474.out; have hnb21 := NB474_467.out; have hnc21 := NB467_474.out; have hnb22 := NB474_468.out; have hnc22 := NB468_474.out; obtain ⟨hcz23_0, hcz23_1, hcz23_2, hfz23_0, hfz23_1, hfz23_2⟩ := zc3 BK474.out; obtain ⟨hcz24_0, hcz24_1, hfz24_0, hfz24_1⟩ := zc2 BK468.out; obtain ⟨hcz25_0, hcz25_1, hcz25_2, hfz25_0, hfz25_1, hfz25_2⟩ := zc3 BK466.out) | ((with_reducible refine gate_callee (f := 32) rfl ?_); refine goesL_ (some 28) rfl rfl Try.func32 (by kernel_rfl) rfl #[.agg #[.int .u64 a2_0, .int .u64 a2_1], .int .i64 a0_2] rfl (by (try simp only [List.map_toArray, List.map_cons, List.map_nil]); first | done | rfl | (simp only [List.length_drop, List.length_take]; rfl)) ?_; (with_reducible refine (tenancyref01_Clip.calls k a2_0 a2_1 a0_2 t475 t476 t477 t478 _ A7.out).mono ?_); rintro e w26 ⟨rfl, hb⟩; refine ⟨_, rfl, ?_⟩; have n0_ := Aside0.mk (zkB (g := gb466) (o := .cells #[.int .u64 a0_0, .int .u64 a0_1, .int .i64 a0_2] 33 (0, 0)) (by (with_reducible repeat (first | refine zkN ?_ _ | refine zk1 ?_ | refine zkA ?_ _)); refine blk_far ?_ NB466_474.out _; (with_reducible repeat (first | refine zkN ?_ _ | refine zk1 ?_ | refine zkA ?_ _)); refine blk_far ?_ NB466_474.out _; (with_reducible repeat (first | refine zkN ?_ _ | refine zk1 ?_ | refine zkA ?_ _)); refine blk_far ?_ NB466_474.out _; (with_reducible repeat (first | refine zkN ?_ _ | refine zk1 ?_ | refine zkA ?_ _)); exact BK466.out) hb); have n1_ := Aside0.mk (zkB (g := gb467) (o := .cells #[.int .u64 a1_0, .int .u64 a1_1, .int .i64 a1_2] 33 (0, 0)) (by (with_reducible repeat (first | refine zkN ?_ _ | refine zk1 ?_ | refine zkA ?_ _)); refine blk_far ?_ NB467_474.out _; (with_reducible repeat (first | refine zkN ?_ _ | refine zk1 ?_ | refine zkA ?_ _)); refine blk_far ?_ NB467_474.out _; (with_reducible repeat (first | refine zkN ?_ _ | refine zk1 ?_ | refine zkA ?_ _)); refine blk_far ?_ NB467_474.out _; (with_reducible repeat (first | refine zkN ?_ _ | refine zk1 ?_ | refine zkA ?_ _)); exact BK467.out) hb); have n2_ := Aside0.mk (zkB (g := gb468) (o := .cells #[.int .u64 a2_0, .int .u64 a2_1] 24 (0, 0)) (by (with_reducible repeat (first | refine zkN ?_ _ | refine zk1 ?_ | refine zkA ?_ _)); refine blk_far ?_ NB468_474.out _; (with_reducible repeat (first | refine zkN ?_ _ | refine zk1 ?_ | refine zkA ?_ _)); refine blk_far ?_ NB468_474.out _; (with_reducible repeat (first | refine zkN ?_ _ | refine zk1 ?_ | refine zkA ?_ _)); refine blk_far ?_ NB468_474.out _; (with_reducible repeat (first | refine zkN ?_ _ | refine zk1 ?_ | refine zkA ?_ _)); exact BK468.out) hb); have n3_ := Aside0.mk (zkB (g := gb474) (o := .cells #[.int .u64 t470, .int .u64 t471, .int .i64 t472] 33 (0, 0)) (by (with_reducible repeat (first | refine zkN ?_ _ | refine zk1 ?_ | refine zkA ?_ _)); refine zkP (cs := #[.int .u64 t470, .int .u64 t471, .int .i64 0]) ?_ 2 _ rfl; (with_reducible repeat (first | refine zkN ?_ _ | refine zk1 ?_ | refine zkA ?_ _)); refine zkP (cs := #[.int .u64 t470, .int .u64 0, .int .i64 0]) ?_ 1 _ rfl; (with_reducible repeat (first | refine zkN ?_ _ | refine zk1 ?_ | refine zkA ?_ _)); refine zkP (cs := #[.int .u64 0, .int .u64 0, .int .i64 0]) ?_ 0 _ rfl; (with_reducible repeat (first | refine zkN ?_ _ | refine zk1 ?_ | refine zkA ?_ _)); exact BK474.out) hb); have n4_ := Aside0.mk (zbP (by repeat (first | (with_reducible first | exact HB.out | apply zbA | apply zbN | apply zb1 | refine zbS ?_ GE466.out | refine zbS ?_ GE467.out | refine zbS ?_ GE468.out | refine zbS ?_ GE474.out) | exact HB.out)) hb); clear BK466; clear BK467; clear BK468; clear BK474; clear HB; have BK466 := n0_; have BK467 := n1_; have BK468 := n2_; have BK474 := n3_; have HB := n4_; clear n0_ n1_ n2_ n3_ n4_; (try clear hb); (try clear hb2); (try clear hk); (try clear hi)) | ((with_reducible refine gate_dst (N := 9) rfl ?_); refine box_event ?hg (N := 9) ?hd (cs := #[.int .u64 0, .int .u64 0, .int .i64 0]) (t := 33) ?hr ?_; (case hd => rfl); (case hg => rfl); (case hr => first | (go_simp; done) | (go_simp; rfl)); intro gb479 hg w27 hbox hb; have n0_ := Aside0.mk (zkB (by (with_reducible repeat (first | refine zkN ?_ _ | refine zk1 ?_ | refine zkA ?_ _)); exact BK466.out) hb); have n1_ := Aside0.mk (zkB (by (with_reducible repeat (first | refine zkN ?_ _ | refine zk1 ?_ | refine zkA ?_ _)); exact BK467.out) hb); have n2_ := Aside0.mk (zkB (by (with_reducible repeat (first | refine zkN ?_ _ | refine zk1 ?_ | refine zkA ?_ _)); exact BK468.out) hb); have n3_ := Aside0.mk (zkB (by (with_reducible repeat (first | refine zkN ?_ _ | refine zk1 ?_ | refine zkA ?_ _)); exact BK474.out) hb); have n4_ := Aside0.mk (zbP (by repeat (first | (with_reducible first | exact HB.out | apply zbA | apply zbN | apply zb1 | refine zbS ?_ GE466.out | refine zbS ?_ GE467.out | refine zbS ?_ GE468.out | refine zbS ?_ GE474.out) | exact HB.out)) hb); have n5_ := Aside0.mk (hbox); have n6_ := Aside0.mk ((by rw [hg]; exact (zbZ (by repeat (first | (with_reducible first | exact HB.out | apply zbA | apply zbN | apply zb1 | refine zbS ?_ GE466.out | refine zbS ?_ GE467.out | refine zbS ?_ GE468.out | refine zbS ?_ GE474.out) | exact HB.out))) : w.heap.size ≤ gb479)); have n7_ := n6_; have n8_ := Aside0.mk ((by rw [hg]; exact Nat.ne_of_lt (zkL (by (with_reducible repeat (first | refine zkN ?_ _ | refine zk1 ?_ | refine zkA ?_ _)); exact BK466.out)) : gb466 ≠ gb479)); have n9_ := Aside0.mk (Ne.symm n8_.out); have n10_ := Aside0.mk ((by rw [hg]; exact Nat.ne_of_lt (zkL (by (with_reducible repeat (first | refine zkN ?_ _ | refine zk1 ?_ | refine zkA ?_ _)); exact BK467.out)) : gb467 ≠ gb479)); have n11_ := Aside0.mk (Ne.symm n10_.out); have n12_ := Aside0.mk ((by rw [hg]; exact Nat.ne_of_lt (zkL (by (with_reducible repeat (first | refine zkN ?_ _ | refine zk1 ?_ | refine zkA ?_ _)); exact BK468.out)) : gb468 ≠ gb479)); have n13_ := Aside0.mk (Ne.symm n12_.out); have n14_ := Aside0.mk ((by rw [hg]; exact Nat.ne_of_lt (zkL (by (with_reducible repeat (first | refine zkN ?_ _ | refine zk1 ?_ | refine zkA ?_ _)); exact BK474.out)) : gb474 ≠ gb479)); have n15_ := Aside0.mk (Ne.symm n14_.out); clear BK466; clear BK467; clear BK468; clear BK474; clear HB; have BK466 := n0_; have BK467 := n1_; have BK468 := n2_; have BK474 := n3_; have HB := n4_; have BK479 := n5_; have GW479 := n6_; have GE479 := n7_; have NB466_479 := n8_; have NB479_466 := n9_; have NB467_479 := n10_; have NB479_467 := n11_; have NB468_479 := n12_; have NB479_468 := n13_; have NB474_479 := n14_; have NB479_474 := n15_; clear n0_ n1_ n2_ n3_ n4_ n5_ n6_ n7_ n8_ n9_ n10_ n11_ n12_ n13_ n14_ n15_; clear hb hbox hg; have hnb28 := NB479_466.out; have hnc28 := NB466_479.out; have hnb29 := NB479_467.out; have hnc29 := NB467_479.out; have hnb30 := NB479_468.out; have hnc30 := NB468_479.out; have hnb31 := NB479_474.out; have hnc31 := NB474_479.out; obtain ⟨hcz32_0, hcz32_1, hcz32_2, hfz32_0, hfz32_1, hfz32_2⟩ := zc3 BK479.out))
  (try simp only [Act.put, List.setIfInBounds_toArray, List.set_cons_zero, List.set_cons_succ])
  go_cut [52] (fun v52 wc => ∃ (kq : Nat) (x52_7 : Bool), v52 = .bool x52_7 ∧ Aside0 (tenancylaw01_AddrPrefixes.j0 kq x52_7 a0_0 a0_1 a0_2 a1_0 a1_1 a1_2 a2_0 a2_1 = some r) ∧ Aside0 (kq ≤ k) ∧ Aside0 (wc.heap[gb466]? = some (.cells #[.int .u64 a0_0, .int .u64 a0_1, .int .i64 a0_2] 33 (0, 0))) ∧ Aside0 (wc.heap[gb467]? = some (.cells #[.int .u64 a1_0, .int .u64 a1_1, .int .i64 a1_2] 33 (0, 0))) ∧ Aside0 (wc.heap[gb468]? = some (.cells #[.int .u64 a2_0, .int .u64 a2_1] 24 (0, 0))) ∧ Aside0 (wc.heap[gb474]? = some (.cells #[.int .u64 t470, .int .u64 t471, .int .i64 t472] 33 (0, 0))) ∧ Aside0 (wc.heap[gb479]? = some (.cells #[.int .u64 t475, .int .u64 t476, .int .i64 t477] 33 (0, 0))) ∧ Aside0 (Below w.heap.size w wc))
  case first =>
   have H := HC8.out
   clear HC8
   by_cases c33 : ((!(t470 == t475) || (!(t471 == t476))) || (!(t472 == t477))) = true
   ·rw [if_pos c33] at H
    have c33b0 : ((!(t470 == t475) || (!(t471 == t476))) || (!(t472 == t477))) = true := c33
    clear c33
    (first | rw [c33b0] | (simp only [i64_w, i32_w]; rw [c33b0]) | skip)
    have H' := Aside0.mk H
    clear H
    try go_wp2
    have n0_ : Aside0 ((((w27.setCell ⟨gb479, 0, none⟩ (.int .u64 t475)).setCell ⟨gb479, 1, none⟩ (.int .u64 t476)).setCell ⟨gb479, 2, none⟩ (.int .i64 t477)).heap[gb466]? = some (.cells #[.int .u64 a0_0, .int .u64 a0_1, .int .i64 a0_2] 33 (0, 0))) := ⟨by (with_reducible repeat (first | refine zkN ?_ _ | refine zk1 ?_ | refine zkA ?_ _)); refine blk_far ?_ NB466_479.out _; (with_reducible repeat (first | refine zkN ?_ _ | refine zk1 ?_ | refine zkA ?_ _)); refine blk_far ?_ NB466_479.out _; (with_reducible repeat (first | refine zkN ?_ _ | refine zk1 ?_ | refine zkA ?_ _)); refine blk_far ?_ NB466_479.out _; (with_reducible repeat (first | refine zkN ?_ _ | refine zk1 ?_ | refine zkA ?_ _)); exact BK466.out⟩
    have n1_ : Aside0 ((((w27.setCell ⟨gb479, 0, none⟩ (.int .u64 t475)).setCell ⟨gb479, 1, none⟩ (.int .u64 t476)).setCell ⟨gb479, 2, none⟩ (.int .i64 t477)).heap[gb467]? = some (.cells #[.int .u64 a1_0, .int .u64 a1_1, .int .i64 a1_2] 33 (0, 0))) := ⟨by (with_reducible repeat (first | refine zkN ?_ _ | refine zk1 ?_ | refine zkA ?_ _)); refine blk_far ?_ NB467_479.out _; (with_reducible repeat (first | refine zkN ?_ _ | refine zk1 ?_ | refine zkA ?_ _)); refine blk_far ?_ NB467_479.out _; (with_reducible repeat (first | refine zkN ?_ _ | refine zk1 ?_ | refine zkA ?_ _)); refine blk_far ?_ NB467_479.out _; (with_reducible repeat (first | refine zkN ?_ _ | refine zk1 ?_ | refine zkA ?_ _)); exact BK467.out⟩
    have n2_ : Aside0 ((((w27.setCell ⟨gb479, 0, none⟩ (.int .u64 t475)).setCell ⟨gb479, 1, none⟩ (.int .u64 t476)).setCell ⟨gb479, 2, none⟩ (.int .i64 t477)).heap[gb468]? = some (.cells #[.int .u64 a2_0, .int .u64 a2_1] 24 (0, 0))) := ⟨by (with_reducible repeat (first | refine zkN ?_ _ | refine zk1 ?_ | refine zkA ?_ _)); refine blk_far ?_ NB468_479.out _; (with_reducible repeat (first | refine zkN ?_ _ | refine zk1 ?_ | refine zkA ?_ _)); refine blk_far ?_ NB468_479.out _; (with_reducible repeat (first | refine zkN ?_ _ | refine zk1 ?_ | refine zkA ?_ _)); refine blk_far ?_ NB468_479.out _; (with_reducible repeat (first | refine zkN ?_ _ | refine zk1 ?_ | refine zkA ?_ _)); exact BK468.out⟩
    have n3_ : Aside0 ((((w27.setCell ⟨gb479, 0, none⟩ (.int .u64 t475)).setCell ⟨gb479, 1, none⟩ (.int .u64 t476)).setCell ⟨gb479, 2, none⟩ (.int .i64 t477)).heap[gb474]? = some (.cells #[.int .u64 t470, .int .u64 t471, .int .i64 t472] 33 (0, 0))) := ⟨by (with_reducible repeat (first | refine zkN ?_ _ | refine zk1 ?_ | refine zkA ?_ _)); refine blk_far ?_ NB474_479.out _; (with_reducible repeat (first | refine zkN ?_ _ | refine zk1 ?_ | refine zkA ?_ _)); refine blk_far ?_ NB474_479.out _; (with_reducible repeat (first | refine zkN ?_ _ | refine zk1 ?_ | refine zkA ?_ _)); refine blk_far ?_ NB474_479.out _; (with_reducible repeat (first | refine zkN ?_ _ | refine zk1 ?_ | refine zkA ?_ _)); exact BK474.out⟩
    have n4_ : Aside0 ((((w27.setCell ⟨gb479, 0, none⟩ (.int .u64 t475)).setCell ⟨gb479, 1, none⟩ (.int .u64 t476)).setCell ⟨gb479, 2, none⟩ (.int .i64 t477)).heap[gb479]? = some (.cells #[.int .u64 t475, .int .u64 t476, .int .i64 t477] 33 (0, 0))) := ⟨by (with_reducible repeat (first | refine zkN ?_ _ | refine zk1 ?_ | refine zkA ?_ _)); refine zkP (cs := #[.int .u64 t475, .int .u64 t476, .int .i64 0]) ?_ 2 _ rfl; (with_reducible repeat (first | refine zkN ?_ _ | refine zk1 ?_ | refine zkA ?_ _)); refine zkP (cs := #[.int .u64 t475, .int .u64 0, .int .i64 0]) ?_ 1 _ rfl; (with_reducible repeat (first | refine zkN ?_ _ | refine zk1 ?_ | refine zkA ?_ _)); refine zkP (cs := #[.int .u64 0, .int .u64 0, .int .i64 0]) ?_ 0 _ rfl; (with_reducible repeat (first | refine zkN ?_ _ | refine zk1 ?_ | refine zkA ?_ _)); exact BK479.out⟩
    have n5_ : Aside0 (Below w.heap.size w (((w27.setCell ⟨gb479, 0, none⟩ (.int .u64 t475)).setCell ⟨gb479, 1, none⟩ (.int .u64 t476)).setCell ⟨gb479, 2, none⟩ (.int .i64 t477))) := ⟨by repeat (first | (with_reducible first | exact HB.out | apply zbA | apply zbN | apply zb1 | refine zbS ?_ GE466.out | refine zbS ?_ GE467.out | refine zbS ?_ GE468.out | refine zbS ?_ GE474.out | refine zbS ?_ GE479.out) | exact HB.out)⟩
    (try clear BK466)
    (try clear BK467)
    (try clear BK468)
    (try clear BK474)
    (try clear BK479)
    (try clear HB)
    generalize (((w27.setCell ⟨gb479, 0, none⟩ (.int .u64 t475)).setCell ⟨gb479, 1, none⟩ (.int .u64 t476)).setCell ⟨gb479, 2, none⟩ (.int .i64 t477)) = w34 at n0_ n1_ n2_ n3_ n4_ n5_ ⊢
    have BK466 := n0_
    have BK467 := n1_
    have BK468 := n2_
    have BK474 := n3_
    have BK479 := n4_
    have HB := n5_
    clear n0_ n1_ n2_ n3_ n4_ n5_
    have n0_ := Aside0.mk (zk1 BK466.out)
    have n1_ := Aside0.mk (zk1 BK467.out)
    have n2_ := Aside0.mk (zk1 BK468.out)
    have n3_ := Aside0.mk (zk1 BK474.out)
    have n4_ := Aside0.mk (zk1 BK479.out)
    have n5_ := Aside0.mk (zb1 HB.out)
    clear BK466
    clear BK467
    clear BK468
    clear BK474
    clear BK479
    clear HB
    have BK466 := n0_
    have BK467 := n1_
    have BK468 := n2_
    have BK474 := n3_
    have BK479 := n4_
    have HB := n5_
    clear n0_ n1_ n2_ n3_ n4_ n5_
    refine start_ (n := 22) (S := fun w' => w'.cell? ⟨gb474, 0, none⟩ = some (.int .u64 t470) ∧ w'.cell? ⟨gb474, 1, none⟩ = some (.int .u64 t471) ∧ w'.cell? ⟨gb474, 2, none⟩ = some (.int .i64 t472) ∧ w'.cell? ⟨gb479, 0, none⟩ = some (.int .u64 t475) ∧ w'.cell? ⟨gb479, 1, none⟩ = some (.int .u64 t476) ∧ w'.cell? ⟨gb479, 2, none⟩ = some (.int .i64 t477)) (ds := []) #[false, false, false, false, false, false, false, false, false, false, false, false, false, false, false, false, false, false, false, false, false, false] (by kernel_rfl) rfl rfl ⟨(zkC BK474.out 0).trans rfl, (zkC BK474.out 1).trans rfl, (zkC BK474.out 2).trans rfl, (zkC BK479.out 0).trans rfl, (zkC BK479.out 1).trans rfl, (zkC BK479.out 2).trans rfl⟩ (fun hHeld => ?_); refine with_tabW tenancylaw01_AddrPrefixes.tab5 tenancylaw01_AddrPrefixes.bits5 (fun HT_ HW_ => ?_)
    generalize w34.drew = w35 at BK466 BK467 BK468 BK474 BK479 HB hHeld ⊢
    refine take_ (i := 0) (N := some 31) (v := ?_) (a' := ?_) #[true, false, false, false, false, false, false, false, false, false, false, false, false, false, false, false, false, false, false, false, false, false] rfl rfl (take_ofW HT_.out HW_.out (by kernel_rfl)) (fun _ _ _ h => h) (Or.inl ⟨by rfl, ?_⟩) hHeld ?_ ?_
    rotate_left
    ·rintro w' ⟨s0, s1, s2, s3, s4, s5⟩
     go_simp
     with_reducible rfl
    rotate_left
    ·simp only [Act.put, List.setIfInBounds_toArray, List.set_cons_zero, List.set_cons_succ, i64_w, i32_w]
     rfl
    refine take_ (i := 1) (N := some 32) (v := ?_) (a' := ?_) #[true, true, false, false, false, false, false, false, false, false, false, false, false, false, false, false, false, false, false, false, false, false] rfl rfl (take_ofW HT_.out HW_.out (by kernel_rfl)) (fun _ _ _ h => h) (Or.inl ⟨by rfl, ?_⟩) hHeld ?_ ?_
    rotate_left
    ·rintro w' ⟨s0, s1, s2, s3, s4, s5⟩
     go_simp
     with_reducible rfl
    rotate_left
    ·simp only [Act.put, List.setIfInBounds_toArray, List.set_cons_zero, List.set_cons_succ, i64_w, i32_w]
     rfl
    refine pure_ (i := 2) (N := some 33) (v := ?_) (a' := ?_) #[true, true, true, false, false, false, false, false, false, false, false, false, false, false, false, false, false, false, false, false, false, false] rfl rfl (any_of HT_.out (by kernel_rfl)) (fun _ _ _ h => h) (Or.inl ⟨by rfl, ?_⟩) ?_ ?_
    rotate_left
    ·intro w'
     go_simp
     with_reducible rfl
    rotate_left
    ·simp only [Act.put, List.setIfInBounds_toArray, List.set_cons_zero, List.set_cons_succ, i64_w, i32_w]
     rfl
    refine pure_ (i := 3) (N := some 34) (v := ?_) (a' := ?_) #[true, true, true, true, false, false, false, false, false, false, false, false, false, false, false, false, false, false, false, false, false, false] rfl rfl (any_of HT_.out (by kernel_rfl)) (fun _ _ _ h => h) (Or.inl ⟨by rfl, ?_⟩) ?_ ?_
    rotate_left
    ·intro w'
     go_simp
     with_reducible rfl
    rotate_left
    ·simp only [Act.put, List.setIfInBounds_toArray, List.set_cons_zero, List.set_cons_succ, i64_w, i32_w]
     rfl
    refine pure_ (i := 4) (N := some 35) (v := undef) (a' := ?_) #[true, true, true, true, true, false, false, false, false, false, false, false, false, false, false, false, false, false, false, false, false, false] rfl rfl (any_of HT_.out (by kernel_rfl)) (fun _ _ _ h => h) (Or.inr ⟨by rfl, rfl⟩) ?_ ?_
    rotate_left
    ·simp only [Act.put, List.setIfInBounds_toArray, List.set_cons_zero, List.set_cons_succ, i64_w, i32_w]
     rfl
    refine pure_ (i := 5) (N := some 36) (v := undef) (a' := ?_) #[true, true, true, true, true, true, false, false, false, false, false, false, false, false, false, false, false, false, false, false, false, false] rfl rfl (any_of HT_.out (by kernel_rfl)) (fun _ _ _ h => h) (Or.inr ⟨by rfl, rfl⟩) ?_ ?_
    rotate_left
    ·simp only [Act.put, List.setIfInBounds_toArray, List.set_cons_zero, List.set_cons_succ, i64_w, i32_w]
     rfl
    refine pure_ (i := 6) (N := some 37) (v := undef) (a' := ?_) #[true, true, true, true, true, true, true, false, false, false, false, false, false, false, false, false, false, false, false, false, false, false] rfl rfl (any_of HT_.out (by kernel_rfl)) (fun _ _ _ h => h) (Or.inr ⟨by rfl, rfl⟩) ?_ ?_
    rotate_left
    ·simp only [Act.put, List.setIfInBounds_toArray, List.set_cons_zero, List.set_cons_succ, i64_w, i32_w]
     rfl
    refine pure_ (i := 7) (N := some 38) (v := ?_) (a' := ?_) #[true, true, true, true, true, true, true, true, false, false, false, false, false, false, false, false, false, false, false, false, false, false] rfl rfl (any_of HT_.out (by kernel_rfl)) (fun _ _ _ h => h) (Or.inl ⟨by rfl, ?_⟩) ?_ ?_
    rotate_left
    ·intro w'
     go_simp
     with_reducible rfl
    rotate_left
    ·simp only [Act.put, List.setIfInBounds_toArray, List.set_cons_zero, List.set_cons_succ, i64_w, i32_w]
     rfl
    refine pure_ (i := 8) (N := some 39) (v := ?_) (a' := ?_) #[true, true, true, true, true, true, true, true, true, false, false, false, false, false, false, false, false, false, false, false, false, false] rfl rfl (any_of HT_.out (by kernel_rfl)) (fun _ _ _ h => h) (Or.inl ⟨by rfl, ?_⟩) ?_ ?_
    rotate_left
    ·intro w'
     go_simp
     with_reducible rfl
    rotate_left
    ·simp only [Act.put, List.setIfInBounds_toArray, List.set_cons_zero, List.set_cons_succ, i64_w, i32_w]
     rfl
    refine pure_ (i := 9) (N := some 40) (v := undef) (a' := ?_) #[true, true, true, true, true, true, true, true, true, true, false, false, false, false, false, false, false, false, false, false, false, false] rfl rfl (any_of HT_.out (by kernel_rfl)) (fun _ _ _ h => h) (Or.inr ⟨by rfl, rfl⟩) ?_ ?_
    rotate_left
    ·simp only [Act.put, List.setIfInBounds_toArray, List.set_cons_zero, List.set_cons_succ, i64_w, i32_w]
     rfl
    refine pure_ (i := 10) (N := some 41) (v := undef) (a' := ?_) #[true, true, true, true, true, true, true, true, true, true, true, false, false, false, false, false, false, false, false, false, false, false] rfl rfl (any_of HT_.out (by kernel_rfl)) (fun _ _ _ h => h) (Or.inr ⟨by rfl, rfl⟩) ?_ ?_
    rotate_left
    ·simp only [Act.put, List.setIfInBounds_toArray, List.set_cons_zero, List.set_cons_succ, i64_w, i32_w]
     rfl
    refine pure_ (i := 11) (N := some 42) (v := undef) (a' := ?_) #[true, true, true, true, true, true, true, true, true, true, true, true, false, false, false, false, false, false, false, false, false, false] rfl rfl (any_of HT_.out (by kernel_rfl)) (fun _ _ _ h => h) (Or.inr ⟨by rfl, rfl⟩) ?_ ?_
    rotate_left
    ·simp only [Act.put, List.setIfInBounds_toArray, List.set_cons_zero, List.set_cons_succ, i64_w, i32_w]
     rfl
    refine pure_ (i := 12) (N := some 43) (v := undef) (a' := ?_) #[true, true, true, true, true, true, true, true, true, true, true, true, true, false, false, false, false, false, false, false, false, false] rfl rfl (any_of HT_.out (by kernel_rfl)) (fun _ _ _ h => h) (Or.inr ⟨by rfl, rfl⟩) ?_ ?_
    rotate_left
    ·simp only [Act.put, List.setIfInBounds_toArray, List.set_cons_zero, List.set_cons_succ, i64_w, i32_w]
     rfl
    refine pure_ (i := 13) (N := some 44) (v := undef) (a' := ?_) #[true, true, true, true, true, true, true, true, true, true, true, true, true, true, false, false, false, false, false, false, false, false] rfl rfl (any_of HT_.out (by kernel_rfl)) (fun _ _ _ h => h) (Or.inr ⟨by rfl, rfl⟩) ?_ ?_
    rotate_left
    ·simp only [Act.put, List.setIfInBounds_toArray, List.set_cons_zero, List.set_cons_succ, i64_w, i32_w]
     rfl
    refine pure_ (i := 14) (N := some 45) (v := ?_) (a' := ?_) #[true, true, true, true, true, true, true, true, true, true, true, true, true, true, true, false, false, false, false, false, false, false] rfl rfl (any_of HT_.out (by kernel_rfl)) (fun _ _ _ h => h) (Or.inl ⟨by rfl, ?_⟩) ?_ ?_
    rotate_left
    ·intro w'
     go_simp
     with_reducible rfl
    rotate_left
    ·simp only [Act.put, List.setIfInBounds_toArray, List.set_cons_zero, List.set_cons_succ, i64_w, i32_w]
     rfl
    refine pure_ (i := 15) (N := some 46) (v := ?_) (a' := ?_) #[true, true, true, true, true, true, true, true, true, true, true, true, true, true, true, true, false, false, false, false, false, false] rfl rfl (any_of HT_.out (by kernel_rfl)) (fun _ _ _ h => h) (Or.inl ⟨by rfl, ?_⟩) ?_ ?_
    rotate_left
    ·intro w'
     go_simp
     with_reducible rfl
    rotate_left
    ·simp only [Act.put, List.setIfInBounds_toArray, List.set_cons_zero, List.set_cons_succ, i64_w, i32_w]
     rfl
    refine pure_ (i := 16) (N := some 47) (v := undef) (a' := ?_) #[true, true, true, true, true, true, true, true, true, true, true, true, true, true, true, true, true, false, false, false, false, false] rfl rfl (any_of HT_.out (by kernel_rfl)) (fun _ _ _ h => h) (Or.inr ⟨by rfl, rfl⟩) ?_ ?_
    rotate_left
    ·simp only [Act.put, List.setIfInBounds_toArray, List.set_cons_zero, List.set_cons_succ, i64_w, i32_w]
     rfl
    refine pure_ (i := 17) (N := some 48) (v := undef) (a' := ?_) #[true, true, true, true, true, true, true, true, true, true, true, true, true, true, true, true, true, true, false, false, false, false] rfl rfl (any_of HT_.out (by kernel_rfl)) (fun _ _ _ h => h) (Or.inr ⟨by rfl, rfl⟩) ?_ ?_
    rotate_left
    ·simp only [Act.put, List.setIfInBounds_toArray, List.set_cons_zero, List.set_cons_succ, i64_w, i32_w]
     rfl
    refine pure_ (i := 18) (N := some 49) (v := undef) (a' := ?_) #[true, true, true, true, true, true, true, true, true, true, true, true, true, true, true, true, true, true, true, false, false, false] rfl rfl (any_of HT_.out (by kernel_rfl)) (fun _ _ _ h => h) (Or.inr ⟨by rfl, rfl⟩) ?_ ?_
    rotate_left
    ·simp only [Act.put, List.setIfInBounds_toArray, List.set_cons_zero, List.set_cons_succ, i64_w, i32_w]
     rfl
    refine pure_ (i := 19) (N := some 50) (v := undef) (a' := ?_) #[true, true, true, true, true, true, true, true, true, true, true, true, true, true, true, true, true, true, true, true, false, false] rfl rfl (any_of HT_.out (by kernel_rfl)) (fun _ _ _ h => h) (Or.inr ⟨by rfl, rfl⟩) ?_ ?_
    rotate_left
    ·simp only [Act.put, List.setIfInBounds_toArray, List.set_cons_zero, List.set_cons_succ, i64_w, i32_w]
     rfl
    refine pure_ (i := 20) (N := some 51) (v := undef) (a' := ?_) #[true, true, true, true, true, true, true, true, true, true, true, true, true, true, true, true, true, true, true, true, true, false] rfl rfl (any_of HT_.out (by kernel_rfl)) (fun _ _ _ h => h) (Or.inr ⟨by rfl, rfl⟩) ?_ ?_
    rotate_left
    ·simp only [Act.put, List.setIfInBounds_toArray, List.set_cons_zero, List.set_cons_succ, i64_w, i32_w]
     rfl
    refine pure_ (i := 21) (N := some 52) (v := ?_) (a' := ?_) #[true, true, true, true, true, true, true, true, true, true, true, true, true, true, true, true, true, true, true, true, true, true] rfl rfl (any_of HT_.out (by kernel_rfl)) (fun _ _ _ h => h) (Or.inl ⟨by rfl, ?_⟩) ?_ ?_
    rotate_left
    ·intro w'
     go_simp
     with_reducible rfl
    rotate_left
    ·simp only [Act.put, List.setIfInBounds_toArray, List.set_cons_zero, List.set_cons_succ, i64_w, i32_w]
     rfl
    refine done_ (done_of HT_.out (by kernel_rfl)) ?_
    try go_wp2
    go_meet
    case rel => exact ⟨_, (true), (by first | rfl | (simp; done) | (simp [*]; done)), H', ⟨by first | omega | exact Nat.le_refl _⟩, ⟨by (with_reducible repeat (first | refine zkN ?_ _ | refine zk1 ?_ | refine zkA ?_ _)); exact BK466.out⟩, ⟨by (with_reducible repeat (first | refine zkN ?_ _ | refine zk1 ?_ | refine zkA ?_ _)); exact BK467.out⟩, ⟨by (with_reducible repeat (first | refine zkN ?_ _ | refine zk1 ?_ | refine zkA ?_ _)); exact BK468.out⟩, ⟨by (with_reducible repeat (first | refine zkN ?_ _ | refine zk1 ?_ | refine zkA ?_ _)); exact BK474.out⟩, ⟨by (with_reducible repeat (first | refine zkN ?_ _ | refine zk1 ?_ | refine zkA ?_ _)); exact BK479.out⟩, ⟨by repeat (first | (with_reducible first | exact HB.out | apply zbA | apply zbN | apply zb1 | refine zbS ?_ GE466.out | refine zbS ?_ GE467.out | refine zbS ?_ GE468.out | refine zbS ?_ GE474.out | refine zbS ?_ GE479.out) | exact HB.out)⟩⟩
   ·rw [if_neg c33] at H
    have c33b0 : ((!(t470 == t475) || (!(t471 == t476))) || (!(t472 == t477))) = false := by simpa using c33
    clear c33
    (first | rw [c33b0] | (simp only [i64_w, i32_w]; rw [c33b0]) | skip)
    by_cases c36 : (t473 != t478) = true
    ·rw [if_pos c36] at H
     have c36b0 : (t473 != t478) = true := c36
     (try (have c36b1 : decide (t473 = t478) = false := by simpa using c36))
     (try (have c36b2 : (t473 == t478) = false := by simpa using c36))
     (try (have c36b3 : ¬ (t473 = t478) := by simpa using c36))
     clear c36
     have H' := Aside0.mk H
     clear H
     try go_wp2
     have n0_ : Aside0 ((((w27.setCell ⟨gb479, 0, none⟩ (.int .u64 t475)).setCell ⟨gb479, 1, none⟩ (.int .u64 t476)).setCell ⟨gb479, 2, none⟩ (.int .i64 t477)).heap[gb466]? = some (.cells #[.int .u64 a0_0, .int .u64 a0_1, .int .i64 a0_2] 33 (0, 0))) := ⟨by (with_reducible repeat (first | refine zkN ?_ _ | refine zk1 ?_ | refine zkA ?_ _)); refine blk_far ?_ NB466_479.out _; (with_reducible repeat (first | refine zkN ?_ _ | refine zk1 ?_ | refine zkA ?_ _)); refine blk_far ?_ NB466_479.out _; (with_reducible repeat (first | refine zkN ?_ _ | refine zk1 ?_ | refine zkA ?_ _)); refine blk_far ?_ NB466_479.out _; (with_reducible repeat (first | refine zkN ?_ _ | refine zk1 ?_ | refine zkA ?_ _)); exact BK466.out⟩
     have n1_ : Aside0 ((((w27.setCell ⟨gb479, 0, none⟩ (.int .u64 t475)).setCell ⟨gb479, 1, none⟩ (.int .u64 t476)).setCell ⟨gb479, 2, none⟩ (.int .i64 t477)).heap[gb467]? = some (.cells #[.int .u64 a1_0, .int .u64 a1_1, .int .i64 a1_2] 33 (0, 0))) := ⟨by (with_reducible repeat (first | refine zkN ?_ _ | refine zk1 ?_ | refine zkA ?_ _)); refine blk_far ?_ NB467_479.out _; (with_reducible repeat (first | refine zkN ?_ _ | refine zk1 ?_ | refine zkA ?_ _)); refine blk_far ?_ NB467_479.out _; (with_reducible repeat (first | refine zkN ?_ _ | refine zk1 ?_ | refine zkA ?_ _)); refine blk_far ?_ NB467_479.out _; (with_reducible repeat (first | refine zkN ?_ _ | refine zk1 ?_ | refine zkA ?_ _)); exact BK467.out⟩
     have n2_ : Aside0 ((((w27.setCell ⟨gb479, 0, none⟩ (.int .u64 t475)).setCell ⟨gb479, 1, none⟩ (.int .u64 t476)).setCell ⟨gb479, 2, none⟩ (.int .i64 t477)).heap[gb468]? = some (.cells #[.int .u64 a2_0, .int .u64 a2_1] 24 (0, 0))) := ⟨by (with_reducible repeat (first | refine zkN ?_ _ | refine zk1 ?_ | refine zkA ?_ _)); refine blk_far ?_ NB468_479.out _; (with_reducible repeat (first | refine zkN ?_ _ | refine zk1 ?_ | refine zkA ?_ _)); refine blk_far ?_ NB468_479.out _; (with_reducible repeat (first | refine zkN ?_ _ | refine zk1 ?_ | refine zkA ?_ _)); refine blk_far ?_ NB468_479.out _; (with_reducible repeat (first | refine zkN ?_ _ | refine zk1 ?_ | refine zkA ?_ _)); exact BK468.out⟩
     have n3_ : Aside0 ((((w27.setCell ⟨gb479, 0, none⟩ (.int .u64 t475)).setCell ⟨gb479, 1, none⟩ (.int .u64 t476)).setCell ⟨gb479, 2, none⟩ (.int .i64 t477)).heap[gb474]? = some (.cells #[.int .u64 t470, .int .u64 t471, .int .i64 t472] 33 (0, 0))) := ⟨by (with_reducible repeat (first | refine zkN ?_ _ | refine zk1 ?_ | refine zkA ?_ _)); refine blk_far ?_ NB474_479.out _; (with_reducible repeat (first | refine zkN ?_ _ | refine zk1 ?_ | refine zkA ?_ _)); refine blk_far ?_ NB474_479.out _; (with_reducible repeat (first | refine zkN ?_ _ | refine zk1 ?_ | refine zkA ?_ _)); refine blk_far ?_ NB474_479.out _; (with_reducible repeat (first | refine zkN ?_ _ | refine zk1 ?_ | refine zkA ?_ _)); exact BK474.out⟩
     have n4_ : Aside0 ((((w27.setCell ⟨gb479, 0, none⟩ (.int .u64 t475)).setCell ⟨gb479, 1, none⟩ (.int .u64 t476)).setCell ⟨gb479, 2, none⟩ (.int .i64 t477)).heap[gb479]? = some (.cells #[.int .u64 t475, .int .u64 t476, .int .i64 t477] 33 (0, 0))) := ⟨by (with_reducible repeat (first | refine zkN ?_ _ | refine zk1 ?_ | refine zkA ?_ _)); refine zkP (cs := #[.int .u64 t475, .int .u64 t476, .int .i64 0]) ?_ 2 _ rfl; (with_reducible repeat (first | refine zkN ?_ _ | refine zk1 ?_ | refine zkA ?_ _)); refine zkP (cs := #[.int .u64 t475, .int .u64 0, .int .i64 0]) ?_ 1 _ rfl; (with_reducible repeat (first | refine zkN ?_ _ | refine zk1 ?_ | refine zkA ?_ _)); refine zkP (cs := #[.int .u64 0, .int .u64 0, .int .i64 0]) ?_ 0 _ rfl; (with_reducible repeat (first | refine zkN ?_ _ | refine zk1 ?_ | refine zkA ?_ _)); exact BK479.out⟩
     have n5_ : Aside0 (Below w.heap.size w (((w27.setCell ⟨gb479, 0, none⟩ (.int .u64 t475)).setCell ⟨gb479, 1, none⟩ (.int .u64 t476)).setCell ⟨gb479, 2, none⟩ (.int .i64 t477))) := ⟨by repeat (first | (with_reducible first | exact HB.out | apply zbA | apply zbN | apply zb1 | refine zbS ?_ GE466.out | refine zbS ?_ GE467.out | refine zbS ?_ GE468.out | refine zbS ?_ GE474.out | refine zbS ?_ GE479.out) | exact HB.out)⟩
     (try clear BK466)
     (try clear BK467)
     (try clear BK468)
     (try clear BK474)
     (try clear BK479)
     (try clear HB)
     generalize (((w27.setCell ⟨gb479, 0, none⟩ (.int .u64 t475)).setCell ⟨gb479, 1, none⟩ (.int .u64 t476)).setCell ⟨gb479, 2, none⟩ (.int .i64 t477)) = w37 at n0_ n1_ n2_ n3_ n4_ n5_ ⊢
     have BK466 := n0_
     have BK467 := n1_
     have BK468 := n2_
     have BK474 := n3_
     have BK479 := n4_
     have HB := n5_
     clear n0_ n1_ n2_ n3_ n4_ n5_
     have n0_ := Aside0.mk (zk1 BK466.out)
     have n1_ := Aside0.mk (zk1 BK467.out)
     have n2_ := Aside0.mk (zk1 BK468.out)
     have n3_ := Aside0.mk (zk1 BK474.out)
     have n4_ := Aside0.mk (zk1 BK479.out)
     have n5_ := Aside0.mk (zb1 HB.out)
     clear BK466
     clear BK467
     clear BK468
     clear BK474
     clear BK479
     clear HB
     have BK466 := n0_
     have BK467 := n1_
     have BK468 := n2_
     have BK474 := n3_
     have BK479 := n4_
     have HB := n5_
     clear n0_ n1_ n2_ n3_ n4_ n5_
     refine start_ (n := 22) (S := fun w' => w'.cell? ⟨gb474, 0, none⟩ = some (.int .u64 t470) ∧ w'.cell? ⟨gb474, 1, none⟩ = some (.int .u64 t471) ∧ w'.cell? ⟨gb474, 2, none⟩ = some (.int .i64 t472) ∧ w'.cell? ⟨gb479, 0, none⟩ = some (.int .u64 t475) ∧ w'.cell? ⟨gb479, 1, none⟩ = some (.int .u64 t476) ∧ w'.cell? ⟨gb479, 2, none⟩ = some (.int .i64 t477)) (ds := []) #[false, false, false, false, false, false, false, false, false, false, false, false, false, false, false, false, false, false, false, false, false, false] (by kernel_rfl) rfl rfl ⟨(zkC BK474.out 0).trans rfl, (zkC BK474.out 1).trans rfl, (zkC BK474.out 2).trans rfl, (zkC BK479.out 0).trans rfl, (zkC BK479.out 1).trans rfl, (zkC BK479.out 2).trans rfl⟩ (fun hHeld => ?_); refine with_tabW tenancylaw01_AddrPrefixes.tab5 tenancylaw01_AddrPrefixes.bits5 (fun HT_ HW_ => ?_)
     generalize w37.drew = w38 at BK466 BK467 BK468 BK474 BK479 HB hHeld ⊢
     refine take_ (i := 0) (N := some 31) (v := ?_) (a' := ?_) #[true, false, false, false, false, false, false, false, false, false, false, false, false, false, false, false, false, false, false, false, false, false] rfl rfl (take_ofW HT_.out HW_.out (by kernel_rfl)) (fun _ _ _ h => h) (Or.inl ⟨by rfl, ?_⟩) hHeld ?_ ?_
     rotate_left
     ·rintro w' ⟨s0, s1, s2, s3, s4, s5⟩
      go_simp
      with_reducible rfl
     rotate_left
     ·simp only [Act.put, List.setIfInBounds_toArray, List.set_cons_zero, List.set_cons_succ, i64_w, i32_w]
      rfl
     refine take_ (i := 1) (N := some 32) (v := ?_) (a' := ?_) #[true, true, false, false, false, false, false, false, false, false, false, false, false, false, false, false, false, false, false, false, false, false] rfl rfl (take_ofW HT_.out HW_.out (by kernel_rfl)) (fun _ _ _ h => h) (Or.inl ⟨by rfl, ?_⟩) hHeld ?_ ?_
     rotate_left
     ·rintro w' ⟨s0, s1, s2, s3, s4, s5⟩
      go_simp
      with_reducible rfl
     rotate_left
     ·simp only [Act.put, List.setIfInBounds_toArray, List.set_cons_zero, List.set_cons_succ, i64_w, i32_w]
      rfl
     refine pure_ (i := 2) (N := some 33) (v := ?_) (a' := ?_) #[true, true, true, false, false, false, false, false, false, false, false, false, false, false, false, false, false, false, false, false, false, false] rfl rfl (any_of HT_.out (by kernel_rfl)) (fun _ _ _ h => h) (Or.inl ⟨by rfl, ?_⟩) ?_ ?_
     rotate_left
     ·intro w'
      go_simp
      with_reducible rfl
     rotate_left
     ·simp only [Act.put, List.setIfInBounds_toArray, List.set_cons_zero, List.set_cons_succ, i64_w, i32_w]
      rfl
     refine pure_ (i := 3) (N := some 34) (v := ?_) (a' := ?_) #[true, true, true, true, false, false, false, false, false, false, false, false, false, false, false, false, false, false, false, false, false, false] rfl rfl (any_of HT_.out (by kernel_rfl)) (fun _ _ _ h => h) (Or.inl ⟨by rfl, ?_⟩) ?_ ?_
     rotate_left
     ·intro w'
      go_simp
      with_reducible rfl
     rotate_left
     ·simp only [Act.put, List.setIfInBounds_toArray, List.set_cons_zero, List.set_cons_succ, i64_w, i32_w]
      rfl
     refine pure_ (i := 4) (N := some 35) (v := ?_) (a' := ?_) #[true, true, true, true, true, false, false, false, false, false, false, false, false, false, false, false, false, false, false, false, false, false] rfl rfl (any_of HT_.out (by kernel_rfl)) (fun _ _ _ h => h) (Or.inl ⟨by rfl, ?_⟩) ?_ ?_
     rotate_left
     ·intro w'
      go_simp
      with_reducible rfl
     rotate_left
     ·simp only [Act.put, List.setIfInBounds_toArray, List.set_cons_zero, List.set_cons_succ, i64_w, i32_w]
      rfl
     refine pure_ (i := 5) (N := some 36) (v := ?_) (a' := ?_) #[true, true, true, true, true, true, false, false, false, false, false, false, false, false, false, false, false, false, false, false, false, false] rfl rfl (any_of HT_.out (by kernel_rfl)) (fun _ _ _ h => h) (Or.inl ⟨by rfl, ?_⟩) ?_ ?_
     rotate_left
     ·intro w'
      go_simp
      with_reducible rfl
     rotate_left
     ·simp only [Act.put, List.setIfInBounds_toArray, List.set_cons_zero, List.set_cons_succ, i64_w, i32_w]
      rfl
     refine pure_ (i := 6) (N := some 37) (v := ?_) (a' := ?_) #[true, true, true, true, true, true, true, false, false, false, false, false, false, false, false, false, false, false, false, false, false, false] rfl rfl (any_of HT_.out (by kernel_rfl)) (fun _ _ _ h => h) (Or.inl ⟨by rfl, ?_⟩) ?_ ?_
     rotate_left
     ·intro w'
      go_simp
      with_reducible rfl
     rotate_left
     ·simp only [Act.put, List.setIfInBounds_toArray, List.set_cons_zero, List.set_cons_succ, i64_w, i32_w]
      rfl
     refine pure_ (i := 7) (N := some 38) (v := ?_) (a' := ?_) #[true, true, true, true, true, true, true, true, false, false, false, false, false, false, false, false, false, false, false, false, false, false] rfl rfl (any_of HT_.out (by kernel_rfl)) (fun _ _ _ h => h) (Or.inl ⟨by rfl, ?_⟩) ?_ ?_
     rotate_left
     ·intro w'
      go_simp
      with_reducible rfl
     rotate_left
     ·simp only [Act.put, List.setIfInBounds_toArray, List.set_cons_zero, List.set_cons_succ, i64_w, i32_w]
      rfl
     refine pure_ (i := 8) (N := some 39) (v := ?_) (a' := ?_) #[true, true, true, true, true, true, true, true, true, false, false, false, false, false, false, false, false, false, false, false, false, false] rfl rfl (any_of HT_.out (by kernel_rfl)) (fun _ _ _ h => h) (Or.inl ⟨by rfl, ?_⟩) ?_ ?_
     rotate_left
     ·intro w'
      go_simp
      with_reducible rfl
     rotate_left
     ·simp only [Act.put, List.setIfInBounds_toArray, List.set_cons_zero, List.set_cons_succ, i64_w, i32_w]
      rfl
     refine pure_ (i := 9) (N := some 40) (v := undef) (a' := ?_) #[true, true, true, true, true, true, true, true, true, true, false, false, false, false, false, false, false, false, false, false, false, false] rfl rfl (any_of HT_.out (by kernel_rfl)) (fun _ _ _ h => h) (Or.inr ⟨by rfl, rfl⟩) ?_ ?_
     rotate_left
     ·simp only [Act.put, List.setIfInBounds_toArray, List.set_cons_zero, List.set_cons_succ, i64_w, i32_w]
      rfl
     refine pure_ (i := 10) (N := some 41) (v := undef) (a' := ?_) #[true, true, true, true, true, true, true, true, true, true, true, false, false, false, false, false, false, false, false, false, false, false] rfl rfl (any_of HT_.out (by kernel_rfl)) (fun _ _ _ h => h) (Or.inr ⟨by rfl, rfl⟩) ?_ ?_
     rotate_left
     ·simp only [Act.put, List.setIfInBounds_toArray, List.set_cons_zero, List.set_cons_succ, i64_w, i32_w]
      rfl
     refine pure_ (i := 11) (N := some 42) (v := undef) (a' := ?_) #[true, true, true, true, true, true, true, true, true, true, true, true, false, false, false, false, false, false, false, false, false, false] rfl rfl (any_of HT_.out (by kernel_rfl)) (fun _ _ _ h => h) (Or.inr ⟨by rfl, rfl⟩) ?_ ?_
     rotate_left
     ·simp only [Act.put, List.setIfInBounds_toArray, List.set_cons_zero, List.set_cons_succ, i64_w, i32_w]
      rfl
     refine pure_ (i := 12) (N := some 43) (v := undef) (a' := ?_) #[true, true, true, true, true, true, true, true, true, true, true, true, true, false, false, false, false, false, false, false, false, false] rfl rfl (any_of HT_.out (by kernel_rfl)) (fun _ _ _ h => h) (Or.inr ⟨by rfl, rfl⟩) ?_ ?_
     rotate_left
     ·simp only [Act.put, List.setIfInBounds_toArray, List.set_cons_zero, List.set_cons_succ, i64_w, i32_w]
      rfl
     refine pure_ (i := 13) (N := some 44) (v := undef) (a' := ?_) #[true, true, true, true, true, true, true, true, true, true, true, true, true, true, false, false, false, false, false, false, false, false] rfl rfl (any_of HT_.out (by kernel_rfl)) (fun _ _ _ h => h) (Or.inr ⟨by rfl, rfl⟩) ?_ ?_
     rotate_left
     ·simp only [Act.put, List.setIfInBounds_toArray, List.set_cons_zero, List.set_cons_succ, i64_w, i32_w]
      rfl
     refine pure_ (i := 14) (N := some 45) (v := ?_) (a' := ?_) #[true, true, true, true, true, true, true, true, true, true, true, true, true, true, true, false, false, false, false, false, false, false] rfl rfl (any_of HT_.out (by kernel_rfl)) (fun _ _ _ h => h) (Or.inl ⟨by rfl, ?_⟩) ?_ ?_
     rotate_left
     ·intro w'
      go_simp
      with_reducible rfl
     rotate_left
     ·simp only [Act.put, List.setIfInBounds_toArray, List.set_cons_zero, List.set_cons_succ, i64_w, i32_w]
      rfl
     refine pure_ (i := 15) (N := some 46) (v := ?_) (a' := ?_) #[true, true, true, true, true, true, true, true, true, true, true, true, true, true, true, true, false, false, false, false, false, false] rfl rfl (any_of HT_.out (by kernel_rfl)) (fun _ _ _ h => h) (Or.inl ⟨by rfl, ?_⟩) ?_ ?_
     rotate_left
     ·intro w'
      go_simp
      with_reducible rfl
     rotate_left
     ·simp only [Act.put, List.setIfInBounds_toArray, List.set_cons_zero, List.set_cons_succ, i64_w, i32_w]
      rfl
     refine pure_ (i := 16) (N := some 47) (v := undef) (a' := ?_) #[true, true, true, true, true, true, true, true, true, true, true, true, true, true, true, true, true, false, false, false, false, false] rfl rfl (any_of HT_.out (by kernel_rfl)) (fun _ _ _ h => h) (Or.inr ⟨by rfl, rfl⟩) ?_ ?_
     rotate_left
     ·simp only [Act.put, List.setIfInBounds_toArray, List.set_cons_zero, List.set_cons_succ, i64_w, i32_w]
      rfl
     refine pure_ (i := 17) (N := some 48) (v := undef) (a' := ?_) #[true, true, true, true, true, true, true, true, true, true, true, true, true, true, true, true, true, true, false, false, false, false] rfl rfl (any_of HT_.out (by kernel_rfl)) (fun _ _ _ h => h) (Or.inr ⟨by rfl, rfl⟩) ?_ ?_
     rotate_left
     ·simp only [Act.put, List.setIfInBounds_toArray, List.set_cons_zero, List.set_cons_succ, i64_w, i32_w]
      rfl
     refine pure_ (i := 18) (N := some 49) (v := undef) (a' := ?_) #[true, true, true, true, true, true, true, true, true, true, true, true, true, true, true, true, true, true, true, false, false, false] rfl rfl (any_of HT_.out (by kernel_rfl)) (fun _ _ _ h => h) (Or.inr ⟨by rfl, rfl⟩) ?_ ?_
     rotate_left
     ·simp only [Act.put, List.setIfInBounds_toArray, List.set_cons_zero, List.set_cons_succ, i64_w, i32_w]
      rfl
     refine pure_ (i := 19) (N := some 50) (v := undef) (a' := ?_) #[true, true, true, true, true, true, true, true, true, true, true, true, true, true, true, true, true, true, true, true, false, false] rfl rfl (any_of HT_.out (by kernel_rfl)) (fun _ _ _ h => h) (Or.inr ⟨by rfl, rfl⟩) ?_ ?_
     rotate_left
     ·simp only [Act.put, List.setIfInBounds_toArray, List.set_cons_zero, List.set_cons_succ, i64_w, i32_w]
      rfl
     refine pure_ (i := 20) (N := some 51) (v := undef) (a' := ?_) #[true, true, true, true, true, true, true, true, true, true, true, true, true, true, true, true, true, true, true, true, true, false] rfl rfl (any_of HT_.out (by kernel_rfl)) (fun _ _ _ h => h) (Or.inr ⟨by rfl, rfl⟩) ?_ ?_
     rotate_left
     ·simp only [Act.put, List.setIfInBounds_toArray, List.set_cons_zero, List.set_cons_succ, i64_w, i32_w]
      rfl
     refine pure_ (i := 21) (N := some 52) (v := ?_) (a' := ?_) #[true, true, true, true, true, true, true, true, true, true, true, true, true, true, true, true, true, true, true, true, true, true] rfl rfl (any_of HT_.out (by kernel_rfl)) (fun _ _ _ h => h) (Or.inl ⟨by rfl, ?_⟩) ?_ ?_
     rotate_left
     ·intro w'
      go_simp
      with_reducible rfl
     rotate_left
     ·simp only [Act.put, List.setIfInBounds_toArray, List.set_cons_zero, List.set_cons_succ, i64_w, i32_w]
      rfl
     refine done_ (done_of HT_.out (by kernel_rfl)) ?_
     try go_wp2
     go_meet
     case rel => exact ⟨_, (true), (by first | rfl | (simp; done) | (simp [*]; done)), H', ⟨by first | omega | exact Nat.le_refl _⟩, ⟨by (with_reducible repeat (first | refine zkN ?_ _ | refine zk1 ?_ | refine zkA ?_ _)); exact BK466.out⟩, ⟨by (with_reducible repeat (first | refine zkN ?_ _ | refine zk1 ?_ | refine zkA ?_ _)); exact BK467.out⟩, ⟨by (with_reducible repeat (first | refine zkN ?_ _ | refine zk1 ?_ | refine zkA ?_ _)); exact BK468.out⟩, ⟨by (with_reducible repeat (first | refine zkN ?_ _ | refine zk1 ?_ | refine zkA ?_ _)); exact BK474.out⟩, ⟨by (with_reducible repeat (first | refine zkN ?_ _ | refine zk1 ?_ | refine zkA ?_ _)); exact BK479.out⟩, ⟨by repeat (first | (with_reducible first | exact HB.out | apply zbA | apply zbN | apply zb1 | refine zbS ?_ GE466.out | refine zbS ?_ GE467.out | refine zbS ?_ GE468.out | refine zbS ?_ GE474.out | refine zbS ?_ GE479.out) | exact HB.out)⟩⟩
    ·rw [if_neg c36] at H
     have c36b0 : (t473 != t478) = false := by simpa using c36
     (try (have c36b1 : decide (t473 = t478) = true := by simpa using c36))
     (try (have c36b2 : (t473 == t478) = true := by simpa using c36))
     clear c36
     replace H := Option.bind_eq_some_iff.mp H
     obtain ⟨t480, A390, H⟩ := H
     replace H : ((tenancyref01_Sound.f k a0_0 a0_1 a0_2).bind fun t481 => (if (t480 != t481) = true then (tenancylaw01_AddrPrefixes.j0 k true a0_0 a0_1 a0_2 a1_0 a1_1 a1_2 a2_0 a2_1) else ((addr_Span.f k a0_0 a0_1 a0_2).bind fun bt482 => ((tenancyref01_Span.f k a0_0 a0_1 a0_2).bind fun bt486 => (tenancylaw01_AddrPrefixes.j0 k ((!(bt482.1 == bt486.1) || (!(bt482.2.1 == bt486.2.1))) || ((!(bt482.2.2.1 == bt486.2.2.1) || (!(bt482.2.2.2 == bt486.2.2.2))))) a0_0 a0_1 a0_2 a1_0 a1_1 a1_2 a2_0 a2_1))))) = some r := H
     have A39 := Aside0.mk A390
     clear A390
     replace H := Option.bind_eq_some_iff.mp H
     obtain ⟨t481, A400, H⟩ := H
     replace H : (if (t480 != t481) = true then (tenancylaw01_AddrPrefixes.j0 k true a0_0 a0_1 a0_2 a1_0 a1_1 a1_2 a2_0 a2_1) else ((addr_Span.f k a0_0 a0_1 a0_2).bind fun bt482 => ((tenancyref01_Span.f k a0_0 a0_1 a0_2).bind fun bt486 => (tenancylaw01_AddrPrefixes.j0 k ((!(bt482.1 == bt486.1) || (!(bt482.2.1 == bt486.2.1))) || ((!(bt482.2.2.1 == bt486.2.2.1) || (!(bt482.2.2.2 == bt486.2.2.2))))) a0_0 a0_1 a0_2 a1_0 a1_1 a1_2 a2_0 a2_1)))) = some r := H
     have A40 := Aside0.mk A400
     clear A400
     by_cases c41 : (t480 != t481) = true
     ·rw [if_pos c41] at H
      have c41b0 : (t480 != t481) = true := c41
      (try (have c41b1 : decide (t480 = t481) = false := by simpa using c41))
      (try (have c41b2 : (t480 == t481) = false := by simpa using c41))
      (try (have c41b3 : ¬ (t480 = t481) := by simpa using c41))
      clear c41
      have H' := Aside0.mk H
      clear H
      try go_wp2
      have n0_ : Aside0 ((((w27.setCell ⟨gb479, 0, none⟩ (.int .u64 t475)).setCell ⟨gb479, 1, none⟩ (.int .u64 t476)).setCell ⟨gb479, 2, none⟩ (.int .i64 t477)).heap[gb466]? = some (.cells #[.int .u64 a0_0, .int .u64 a0_1, .int .i64 a0_2] 33 (0, 0))) := ⟨by (with_reducible repeat (first | refine zkN ?_ _ | refine zk1 ?_ | refine zkA ?_ _)); refine blk_far ?_ NB466_479.out _; (with_reducible repeat (first | refine zkN ?_ _ | refine zk1 ?_ | refine zkA ?_ _)); refine blk_far ?_ NB466_479.out _; (with_reducible repeat (first | refine zkN ?_ _ | refine zk1 ?_ | refine zkA ?_ _)); refine blk_far ?_ NB466_479.out _; (with_reducible repeat (first | refine zkN ?_ _ | refine zk1 ?_ | refine zkA ?_ _)); exact BK466.out⟩
      have n1_ : Aside0 ((((w27.setCell ⟨gb479, 0, none⟩ (.int .u64 t475)).setCell ⟨gb479, 1, none⟩ (.int .u64 t476)).setCell ⟨gb479, 2, none⟩ (.int .i64 t477)).heap[gb467]? = some (.cells #[.int .u64 a1_0, .int .u64 a1_1, .int .i64 a1_2] 33 (0, 0))) := ⟨by (with_reducible repeat (first | refine zkN ?_ _ | refine zk1 ?_ | refine zkA ?_ _)); refine blk_far ?_ NB467_479.out _; (with_reducible repeat (first | refine zkN ?_ _ | refine zk1 ?_ | refine zkA ?_ _)); refine blk_far ?_ NB467_479.out _; (with_reducible repeat (first | refine zkN ?_ _ | refine zk1 ?_ | refine zkA ?_ _)); refine blk_far ?_ NB467_479.out _; (with_reducible repeat (first | refine zkN ?_ _ | refine zk1 ?_ | refine zkA ?_ _)); exact BK467.out⟩
      have n2_ : Aside0 ((((w27.setCell ⟨gb479, 0, none⟩ (.int .u64 t475)).setCell ⟨gb479, 1, none⟩ (.int .u64 t476)).setCell ⟨gb479, 2, none⟩ (.int .i64 t477)).heap[gb468]? = some (.cells #[.int .u64 a2_0, .int .u64 a2_1] 24 (0, 0))) := ⟨by (with_reducible repeat (first | refine zkN ?_ _ | refine zk1 ?_ | refine zkA ?_ _)); refine blk_far ?_ NB468_479.out _; (with_reducible repeat (first | refine zkN ?_ _ | refine zk1 ?_ | refine zkA ?_ _)); refine blk_far ?_ NB468_479.out _; (with_reducible repeat (first | refine zkN ?_ _ | refine zk1 ?_ | refine zkA ?_ _)); refine blk_far ?_ NB468_479.out _; (with_reducible repeat (first | refine zkN ?_ _ | refine zk1 ?_ | refine zkA ?_ _)); exact BK468.out⟩
      have n3_ : Aside0 ((((w27.setCell ⟨gb479, 0, none⟩ (.int .u64 t475)).setCell ⟨gb479, 1, none⟩ (.int .u64 t476)).setCell ⟨gb479, 2, none⟩ (.int .i64 t477)).heap[gb474]? = some (.cells #[.int .u64 t470, .int .u64 t471, .int .i64 t472] 33 (0, 0))) := ⟨by (with_reducible repeat (first | refine zkN ?_ _ | refine zk1 ?_ | refine zkA ?_ _)); refine blk_far ?_ NB474_479.out _; (with_reducible repeat (first | refine zkN ?_ _ | refine zk1 ?_ | refine zkA ?_ _)); refine blk_far ?_ NB474_479.out _; (with_reducible repeat (first | refine zkN ?_ _ | refine zk1 ?_ | refine zkA ?_ _)); refine blk_far ?_ NB474_479.out _; (with_reducible repeat (first | refine zkN ?_ _ | refine zk1 ?_ | refine zkA ?_ _)); exact BK474.out⟩
      have n4_ : Aside0 ((((w27.setCell ⟨gb479, 0, none⟩ (.int .u64 t475)).setCell ⟨gb479, 1, none⟩ (.int .u64 t476)).setCell ⟨gb479, 2, none⟩ (.int .i64 t477)).heap[gb479]? = some (.cells #[.int .u64 t475, .int .u64 t476, .int .i64 t477] 33 (0, 0))) := ⟨by (with_reducible repeat (first | refine zkN ?_ _ | refine zk1 ?_ | refine zkA ?_ _)); refine zkP (cs := #[.int .u64 t475, .int .u64 t476, .int .i64 0]) ?_ 2 _ rfl; (with_reducible repeat (first | refine zkN ?_ _ | refine zk1 ?_ | refine zkA ?_ _)); refine zkP (cs := #[.int .u64 t475, .int .u64 0, .int .i64 0]) ?_ 1 _ rfl; (with_reducible repeat (first | refine zkN ?_ _ | refine zk1 ?_ | refine zkA ?_ _)); refine zkP (cs := #[.int .u64 0, .int .u64 0, .int .i64 0]) ?_ 0 _ rfl; (with_reducible repeat (first | refine zkN ?_ _ | refine zk1 ?_ | refine zkA ?_ _)); exact BK479.out⟩
      have n5_ : Aside0 (Below w.heap.size w (((w27.setCell ⟨gb479, 0, none⟩ (.int .u64 t475)).setCell ⟨gb479, 1, none⟩ (.int .u64 t476)).setCell ⟨gb479, 2, none⟩ (.int .i64 t477))) := ⟨by repeat (first | (with_reducible first | exact HB.out | apply zbA | apply zbN | apply zb1 | refine zbS ?_ GE466.out | refine zbS ?_ GE467.out | refine zbS ?_ GE468.out | refine zbS ?_ GE474.out | refine zbS ?_ GE479.out) | exact HB.out)⟩
      (try clear BK466)
      (try clear BK467)
      (try clear BK468)
      (try clear BK474)
      (try clear BK479)
      (try clear HB)
      generalize (((w27.setCell ⟨gb479, 0, none⟩ (.int .u64 t475)).setCell ⟨gb479, 1, none⟩ (.int .u64 t476)).setCell ⟨gb479, 2, none⟩ (.int .i64 t477)) = w42 at n0_ n1_ n2_ n3_ n4_ n5_ ⊢
      have BK466 := n0_
      have BK467 := n1_
      have BK468 := n2_
      have BK474 := n3_
      have BK479 := n4_
      have HB := n5_
      clear n0_ n1_ n2_ n3_ n4_ n5_
      have n0_ := Aside0.mk (zk1 BK466.out)
      have n1_ := Aside0.mk (zk1 BK467.out)
      have n2_ := Aside0.mk (zk1 BK468.out)
      have n3_ := Aside0.mk (zk1 BK474.out)
      have n4_ := Aside0.mk (zk1 BK479.out)
      have n5_ := Aside0.mk (zb1 HB.out)
      clear BK466
      clear BK467
      clear BK468
      clear BK474
      clear BK479
      clear HB
      have BK466 := n0_
      have BK467 := n1_
      have BK468 := n2_
      have BK474 := n3_
      have BK479 := n4_
      have HB := n5_
      clear n0_ n1_ n2_ n3_ n4_ n5_
      refine start_ (n := 22) (S := fun w' => w'.cell? ⟨gb474, 0, none⟩ = some (.int .u64 t470) ∧ w'.cell? ⟨gb474, 1, none⟩ = some (.int .u64 t471) ∧ w'.cell? ⟨gb474, 2, none⟩ = some (.int .i64 t472) ∧ w'.cell? ⟨gb479, 0, none⟩ = some (.int .u64 t475) ∧ w'.cell? ⟨gb479, 1, none⟩ = some (.int .u64 t476) ∧ w'.cell? ⟨gb479, 2, none⟩ = some (.int .i64 t477) ∧ w'.cell? ⟨gb466, 0, none⟩ = some (.int .u64 a0_0) ∧ w'.cell? ⟨gb466, 1, none⟩ = some (.int .u64 a0_1) ∧ w'.cell? ⟨gb466, 2, none⟩ = some (.int .i64 a0_2)) (ds := []) #[false, false, false, false, false, false, false, false, false, false, false, false, false, false, false, false, false, false, false, false, false, false] (by kernel_rfl) rfl rfl ⟨(zkC BK474.out 0).trans rfl, (zkC BK474.out 1).trans rfl, (zkC BK474.out 2).trans rfl, (zkC BK479.out 0).trans rfl, (zkC BK479.out 1).trans rfl, (zkC BK479.out 2).trans rfl, (zkC BK466.out 0).trans rfl, (zkC BK466.out 1).trans rfl, (zkC BK466.out 2).trans rfl⟩ (fun hHeld => ?_); refine with_tabW tenancylaw01_AddrPrefixes.tab5 tenancylaw01_AddrPrefixes.bits5 (fun HT_ HW_ => ?_)
      generalize w42.drew = w43 at BK466 BK467 BK468 BK474 BK479 HB hHeld ⊢
      refine take_ (i := 0) (N := some 31) (v := ?_) (a' := ?_) #[true, false, false, false, false, false, false, false, false, false, false, false, false, false, false, false, false, false, false, false, false, false] rfl rfl (take_ofW HT_.out HW_.out (by kernel_rfl)) (fun _ _ _ h => h) (Or.inl ⟨by rfl, ?_⟩) hHeld ?_ ?_
      rotate_left
      ·rintro w' ⟨s0, s1, s2, s3, s4, s5, s6, s7, s8⟩
       go_simp
       with_reducible rfl
      rotate_left
      ·simp only [Act.put, List.setIfInBounds_toArray, List.set_cons_zero, List.set_cons_succ, i64_w, i32_w]
       rfl
      refine take_ (i := 1) (N := some 32) (v := ?_) (a' := ?_) #[true, true, false, false, false, false, false, false, false, false, false, false, false, false, false, false, false, false, false, false, false, false] rfl rfl (take_ofW HT_.out HW_.out (by kernel_rfl)) (fun _ _ _ h => h) (Or.inl ⟨by rfl, ?_⟩) hHeld ?_ ?_
      rotate_left
      ·rintro w' ⟨s0, s1, s2, s3, s4, s5, s6, s7, s8⟩
       go_simp
       with_reducible rfl
      rotate_left
      ·simp only [Act.put, List.setIfInBounds_toArray, List.set_cons_zero, List.set_cons_succ, i64_w, i32_w]
       rfl
      refine pure_ (i := 2) (N := some 33) (v := ?_) (a' := ?_) #[true, true, true, false, false, false, false, false, false, false, false, false, false, false, false, false, false, false, false, false, false, false] rfl rfl (any_of HT_.out (by kernel_rfl)) (fun _ _ _ h => h) (Or.inl ⟨by rfl, ?_⟩) ?_ ?_
      rotate_left
      ·intro w'
       go_simp
       with_reducible rfl
      rotate_left
      ·simp only [Act.put, List.setIfInBounds_toArray, List.set_cons_zero, List.set_cons_succ, i64_w, i32_w]
       rfl
      refine pure_ (i := 3) (N := some 34) (v := ?_) (a' := ?_) #[true, true, true, true, false, false, false, false, false, false, false, false, false, false, false, false, false, false, false, false, false, false] rfl rfl (any_of HT_.out (by kernel_rfl)) (fun _ _ _ h => h) (Or.inl ⟨by rfl, ?_⟩) ?_ ?_
      rotate_left
      ·intro w'
       go_simp
       with_reducible rfl
      rotate_left
      ·simp only [Act.put, List.setIfInBounds_toArray, List.set_cons_zero, List.set_cons_succ, i64_w, i32_w]
       rfl
      refine pure_ (i := 4) (N := some 35) (v := ?_) (a' := ?_) #[true, true, true, true, true, false, false, false, false, false, false, false, false, false, false, false, false, false, false, false, false, false] rfl rfl (any_of HT_.out (by kernel_rfl)) (fun _ _ _ h => h) (Or.inl ⟨by rfl, ?_⟩) ?_ ?_
      rotate_left
      ·intro w'
       go_simp
       with_reducible rfl
      rotate_left
      ·simp only [Act.put, List.setIfInBounds_toArray, List.set_cons_zero, List.set_cons_succ, i64_w, i32_w]
       rfl
      refine pure_ (i := 5) (N := some 36) (v := ?_) (a' := ?_) #[true, true, true, true, true, true, false, false, false, false, false, false, false, false, false, false, false, false, false, false, false, false] rfl rfl (any_of HT_.out (by kernel_rfl)) (fun _ _ _ h => h) (Or.inl ⟨by rfl, ?_⟩) ?_ ?_
      rotate_left
      ·intro w'
       go_simp
       with_reducible rfl
      rotate_left
      ·simp only [Act.put, List.setIfInBounds_toArray, List.set_cons_zero, List.set_cons_succ, i64_w, i32_w]
       rfl
      refine pure_ (i := 6) (N := some 37) (v := ?_) (a' := ?_) #[true, true, true, true, true, true, true, false, false, false, false, false, false, false, false, false, false, false, false, false, false, false] rfl rfl (any_of HT_.out (by kernel_rfl)) (fun _ _ _ h => h) (Or.inl ⟨by rfl, ?_⟩) ?_ ?_
      rotate_left
      ·intro w'
       go_simp
       with_reducible rfl
      rotate_left
      ·simp only [Act.put, List.setIfInBounds_toArray, List.set_cons_zero, List.set_cons_succ, i64_w, i32_w]
       rfl
      refine pure_ (i := 7) (N := some 38) (v := ?_) (a' := ?_) #[true, true, true, true, true, true, true, true, false, false, false, false, false, false, false, false, false, false, false, false, false, false] rfl rfl (any_of HT_.out (by kernel_rfl)) (fun _ _ _ h => h) (Or.inl ⟨by rfl, ?_⟩) ?_ ?_
      rotate_left
      ·intro w'
       go_simp
       with_reducible rfl
      rotate_left
      ·simp only [Act.put, List.setIfInBounds_toArray, List.set_cons_zero, List.set_cons_succ, i64_w, i32_w]
       rfl
      refine pure_ (i := 8) (N := some 39) (v := ?_) (a' := ?_) #[true, true, true, true, true, true, true, true, true, false, false, false, false, false, false, false, false, false, false, false, false, false] rfl rfl (any_of HT_.out (by kernel_rfl)) (fun _ _ _ h => h) (Or.inl ⟨by rfl, ?_⟩) ?_ ?_
      rotate_left
      ·intro w'
       go_simp
       with_reducible rfl
      rotate_left
      ·simp only [Act.put, List.setIfInBounds_toArray, List.set_cons_zero, List.set_cons_succ, i64_w, i32_w]
       rfl
      refine take_ (i := 9) (N := some 40) (v := ?_) (a' := ?_) #[true, true, true, true, true, true, true, true, true, true, false, false, false, false, false, false, false, false, false, false, false, false] rfl rfl (take_ofW HT_.out HW_.out (by kernel_rfl)) (fun _ _ _ h => h) (Or.inl ⟨by rfl, ?_⟩) hHeld ?_ ?_
      rotate_left
      ·rintro w' ⟨s0, s1, s2, s3, s4, s5, s6, s7, s8⟩
       go_simp
       with_reducible rfl
      rotate_left
      ·simp only [Act.put, List.setIfInBounds_toArray, List.set_cons_zero, List.set_cons_succ, i64_w, i32_w]
       rfl
      refine take_ (i := 11) (N := some 42) (v := ?_) (a' := ?_) #[true, true, true, true, true, true, true, true, true, true, false, true, false, false, false, false, false, false, false, false, false, false] rfl rfl (take_ofW HT_.out HW_.out (by kernel_rfl)) (fun _ _ _ h => h) (Or.inl ⟨by rfl, ?_⟩) hHeld ?_ ?_
      rotate_left
      ·rintro w' ⟨s0, s1, s2, s3, s4, s5, s6, s7, s8⟩
       go_simp
       with_reducible rfl
      rotate_left
      ·simp only [Act.put, List.setIfInBounds_toArray, List.set_cons_zero, List.set_cons_succ, i64_w, i32_w]
       rfl
      refine one_ (i := 10) (N := some 41) #[true, true, true, true, true, true, true, true, true, true, true, true, false, false, false, false, false, false, false, false, false, false] rfl rfl (one_of HT_.out (by kernel_rfl)) (by decide) (fun K hK => ?_)
      refine goes_ Try.func19 (by kernel_rfl) rfl #[.agg #[.int .u64 a0_0, .int .u64 a0_1, .int .i64 a0_2]] (by rfl) rfl rfl (by (try simp only [List.map_toArray, List.map_cons, List.map_nil]); first | done | rfl | (simp only [List.length_drop, List.length_take]; rfl)) ?_
      with_reducible refine (addr_Sound.calls k a0_0 a0_1 a0_2 t480 _ A39.out).mono ?_
      rintro e w44 ⟨rfl, hb⟩
      refine ⟨_, rfl, ?_⟩
      have n0_ := Aside0.mk (zkB (by (with_reducible repeat (first | refine zkN ?_ _ | refine zk1 ?_ | refine zkA ?_ _)); exact BK466.out) hb)
      have n1_ := Aside0.mk (zkB (by (with_reducible repeat (first | refine zkN ?_ _ | refine zk1 ?_ | refine zkA ?_ _)); exact BK467.out) hb)
      have n2_ := Aside0.mk (zkB (by (with_reducible repeat (first | refine zkN ?_ _ | refine zk1 ?_ | refine zkA ?_ _)); exact BK468.out) hb)
      have n3_ := Aside0.mk (zkB (by (with_reducible repeat (first | refine zkN ?_ _ | refine zk1 ?_ | refine zkA ?_ _)); exact BK474.out) hb)
      have n4_ := Aside0.mk (zkB (by (with_reducible repeat (first | refine zkN ?_ _ | refine zk1 ?_ | refine zkA ?_ _)); exact BK479.out) hb)
      have n5_ := Aside0.mk (zbP (by repeat (first | (with_reducible first | exact HB.out | apply zbA | apply zbN | apply zb1 | refine zbS ?_ GE466.out | refine zbS ?_ GE467.out | refine zbS ?_ GE468.out | refine zbS ?_ GE474.out | refine zbS ?_ GE479.out) | exact HB.out)) hb)
      clear BK466
      clear BK467
      clear BK468
      clear BK474
      clear BK479
      clear HB
      have BK466 := n0_
      have BK467 := n1_
      have BK468 := n2_
      have BK474 := n3_
      have BK479 := n4_
      have HB := n5_
      clear n0_ n1_ n2_ n3_ n4_ n5_
      (try clear hb)
      (try clear hb2)
      (try clear hk)
      (try clear hi)
      refine hK.out _ _ ⟨(zkC BK474.out 0).trans rfl, (zkC BK474.out 1).trans rfl, (zkC BK474.out 2).trans rfl, (zkC BK479.out 0).trans rfl, (zkC BK479.out 1).trans rfl, (zkC BK479.out 2).trans rfl, (zkC BK466.out 0).trans rfl, (zkC BK466.out 1).trans rfl, (zkC BK466.out 2).trans rfl⟩ (fun hHeld => ?_)
      clear hK K
      refine norm_ (a' := ?_) ?_ ?_
      rotate_left
      ·show Act.put _ (some 41) _ = _
       simp only [Act.put, List.setIfInBounds_toArray, List.set_cons_zero, List.set_cons_succ, i64_w, i32_w]
       rfl
      refine one_ (i := 12) (N := some 43) #[true, true, true, true, true, true, true, true, true, true, true, true, true, false, false, false, false, false, false, false, false, false] rfl rfl (one_of HT_.out (by kernel_rfl)) (by decide) (fun K hK => ?_)
      refine goes_ Try.func33 (by kernel_rfl) rfl #[.agg #[.int .u64 a0_0, .int .u64 a0_1, .int .i64 a0_2]] (by rfl) rfl rfl (by (try simp only [List.map_toArray, List.map_cons, List.map_nil]); first | done | rfl | (simp only [List.length_drop, List.length_take]; rfl)) ?_
      with_reducible refine (tenancyref01_Sound.calls k a0_0 a0_1 a0_2 t481 _ A40.out).mono ?_
      rintro e w45 ⟨rfl, hb⟩
      refine ⟨_, rfl, ?_⟩
      have n0_ := Aside0.mk (zkB (by (with_reducible repeat (first | refine zkN ?_ _ | refine zk1 ?_ | refine zkA ?_ _)); exact BK466.out) hb)
      have n1_ := Aside0.mk (zkB (by (with_reducible repeat (first | refine zkN ?_ _ | refine zk1 ?_ | refine zkA ?_ _)); exact BK467.out) hb)
      have n2_ := Aside0.mk (zkB (by (with_reducible repeat (first | refine zkN ?_ _ | refine zk1 ?_ | refine zkA ?_ _)); exact BK468.out) hb)
      have n3_ := Aside0.mk (zkB (by (with_reducible repeat (first | refine zkN ?_ _ | refine zk1 ?_ | refine zkA ?_ _)); exact BK474.out) hb)
      have n4_ := Aside0.mk (zkB (by (with_reducible repeat (first | refine zkN ?_ _ | refine zk1 ?_ | refine zkA ?_ _)); exact BK479.out) hb)
      have n5_ := Aside0.mk (zbP (by repeat (first | (with_reducible first | exact HB.out | apply zbA | apply zbN | apply zb1 | refine zbS ?_ GE466.out | refine zbS ?_ GE467.out | refine zbS ?_ GE468.out | refine zbS ?_ GE474.out | refine zbS ?_ GE479.out) | exact HB.out)) hb)
      clear BK466
      clear BK467
      clear BK468
      clear BK474
      clear BK479
      clear HB
      have BK466 := n0_
      have BK467 := n1_
      have BK468 := n2_
      have BK474 := n3_
      have BK479 := n4_
      have HB := n5_
      clear n0_ n1_ n2_ n3_ n4_ n5_
      (try clear hb)
      (try clear hb2)
      (try clear hk)
      (try clear hi)
      refine hK.out _ _ ⟨(zkC BK474.out 0).trans rfl, (zkC BK474.out 1).trans rfl, (zkC BK474.out 2).trans rfl, (zkC BK479.out 0).trans rfl, (zkC BK479.out 1).trans rfl, (zkC BK479.out 2).trans rfl, (zkC BK466.out 0).trans rfl, (zkC BK466.out 1).trans rfl, (zkC BK466.out 2).trans rfl⟩ (fun hHeld => ?_)
      clear hK K
      refine norm_ (a' := ?_) ?_ ?_
      rotate_left
      ·show Act.put _ (some 43) _ = _
       simp only [Act.put, List.setIfInBounds_toArray, List.set_cons_zero, List.set_cons_succ, i64_w, i32_w]
       rfl
      refine pure_ (i := 13) (N := some 44) (v := ?_) (a' := ?_) #[true, true, true, true, true, true, true, true, true, true, true, true, true, true, false, false, false, false, false, false, false, false] rfl rfl (any_of HT_.out (by kernel_rfl)) (fun _ _ _ h => h) (Or.inl ⟨by rfl, ?_⟩) ?_ ?_
      rotate_left
      ·intro w'
       go_simp
       with_reducible rfl
      rotate_left
      ·simp only [Act.put, List.setIfInBounds_toArray, List.set_cons_zero, List.set_cons_succ, i64_w, i32_w]
       rfl
      refine pure_ (i := 14) (N := some 45) (v := ?_) (a' := ?_) #[true, true, true, true, true, true, true, true, true, true, true, true, true, true, true, false, false, false, false, false, false, false] rfl rfl (any_of HT_.out (by kernel_rfl)) (fun _ _ _ h => h) (Or.inl ⟨by rfl, ?_⟩) ?_ ?_
      rotate_left
      ·intro w'
       go_simp
       with_reducible rfl
      rotate_left
      ·simp only [Act.put, List.setIfInBounds_toArray, List.set_cons_zero, List.set_cons_succ, i64_w, i32_w]
       rfl
      refine pure_ (i := 15) (N := some 46) (v := ?_) (a' := ?_) #[true, true, true, true, true, true, true, true, true, true, true, true, true, true, true, true, false, false, false, false, false, false] rfl rfl (any_of HT_.out (by kernel_rfl)) (fun _ _ _ h => h) (Or.inl ⟨by rfl, ?_⟩) ?_ ?_
      rotate_left
      ·intro w'
       go_simp
       with_reducible rfl
      rotate_left
      ·simp only [Act.put, List.setIfInBounds_toArray, List.set_cons_zero, List.set_cons_succ, i64_w, i32_w]
       rfl
      refine pure_ (i := 16) (N := some 47) (v := undef) (a' := ?_) #[true, true, true, true, true, true, true, true, true, true, true, true, true, true, true, true, true, false, false, false, false, false] rfl rfl (any_of HT_.out (by kernel_rfl)) (fun _ _ _ h => h) (Or.inr ⟨by rfl, rfl⟩) ?_ ?_
      rotate_left
      ·simp only [Act.put, List.setIfInBounds_toArray, List.set_cons_zero, List.set_cons_succ, i64_w, i32_w]
       rfl
      refine pure_ (i := 17) (N := some 48) (v := undef) (a' := ?_) #[true, true, true, true, true, true, true, true, true, true, true, true, true, true, true, true, true, true, false, false, false, false] rfl rfl (any_of HT_.out (by kernel_rfl)) (fun _ _ _ h => h) (Or.inr ⟨by rfl, rfl⟩) ?_ ?_
      rotate_left
      ·simp only [Act.put, List.setIfInBounds_toArray, List.set_cons_zero, List.set_cons_succ, i64_w, i32_w]
       rfl
      refine pure_ (i := 18) (N := some 49) (v := undef) (a' := ?_) #[true, true, true, true, true, true, true, true, true, true, true, true, true, true, true, true, true, true, true, false, false, false] rfl rfl (any_of HT_.out (by kernel_rfl)) (fun _ _ _ h => h) (Or.inr ⟨by rfl, rfl⟩) ?_ ?_
      rotate_left
      ·simp only [Act.put, List.setIfInBounds_toArray, List.set_cons_zero, List.set_cons_succ, i64_w, i32_w]
       rfl
      refine pure_ (i := 19) (N := some 50) (v := undef) (a' := ?_) #[true, true, true, true, true, true, true, true, true, true, true, true, true, true, true, true, true, true, true, true, false, false] rfl rfl (any_of HT_.out (by kernel_rfl)) (fun _ _ _ h => h) (Or.inr ⟨by rfl, rfl⟩) ?_ ?_
      rotate_left
      ·simp only [Act.put, List.setIfInBounds_toArray, List.set_cons_zero, List.set_cons_succ, i64_w, i32_w]
       rfl
      refine pure_ (i := 20) (N := some 51) (v := undef) (a' := ?_) #[true, true, true, true, true, true, true, true, true, true, true, true, true, true, true, true, true, true, true, true, true, false] rfl rfl (any_of HT_.out (by kernel_rfl)) (fun _ _ _ h => h) (Or.inr ⟨by rfl, rfl⟩) ?_ ?_
      rotate_left
      ·simp only [Act.put, List.setIfInBounds_toArray, List.set_cons_zero, List.set_cons_succ, i64_w, i32_w]
       rfl
      refine pure_ (i := 21) (N := some 52) (v := ?_) (a' := ?_) #[true, true, true, true, true, true, true, true, true, true, true, true, true, true, true, true, true, true, true, true, true, true] rfl rfl (any_of HT_.out (by kernel_rfl)) (fun _ _ _ h => h) (Or.inl ⟨by rfl, ?_⟩) ?_ ?_
      rotate_left
      ·intro w'
       go_simp
       with_reducible rfl
      rotate_left
      ·simp only [Act.put, List.setIfInBounds_toArray, List.set_cons_zero, List.set_cons_succ, i64_w, i32_w]
       rfl
      refine done_ (done_of HT_.out (by kernel_rfl)) ?_
      try go_wp2
      go_meet
      case rel => exact ⟨_, (true), (by first | rfl | (simp; done) | (simp [*]; done)), H', ⟨by first | omega | exact Nat.le_refl _⟩, ⟨by (with_reducible repeat (first | refine zkN ?_ _ | refine zk1 ?_ | refine zkA ?_ _)); exact BK466.out⟩, ⟨by (with_reducible repeat (first | refine zkN ?_ _ | refine zk1 ?_ | refine zkA ?_ _)); exact BK467.out⟩, ⟨by (with_reducible repeat (first | refine zkN ?_ _ | refine zk1 ?_ | refine zkA ?_ _)); exact BK468.out⟩, ⟨by (with_reducible repeat (first | refine zkN ?_ _ | refine zk1 ?_ | refine zkA ?_ _)); exact BK474.out⟩, ⟨by (with_reducible repeat (first | refine zkN ?_ _ | refine zk1 ?_ | refine zkA ?_ _)); exact BK479.out⟩, ⟨by repeat (first | (with_reducible first | exact HB.out | apply zbA | apply zbN | apply zb1 | refine zbS ?_ GE466.out | refine zbS ?_ GE467.out | refine zbS ?_ GE468.out | refine zbS ?_ GE474.out | refine zbS ?_ GE479.out) | exact HB.out)⟩⟩
     ·rw [if_neg c41] at H
      have c41b0 : (t480 != t481) = false := by simpa using c41
      (try (have c41b1 : decide (t480 = t481) = true := by simpa using c41))
      (try (have c41b2 : (t480 == t481) = true := by simpa using c41))
      clear c41
      replace H := Option.bind_eq_some_iff.mp H
      obtain ⟨⟨t482, t483, t484, t485⟩, A460, H⟩ := H
      replace H : ((tenancyref01_Span.f k a0_0 a0_1 a0_2).bind fun bt486 => (tenancylaw01_AddrPrefixes.j0 k ((!(t482 == bt486.1) || (!(t483 == bt486.2.1))) || ((!(t484 == bt486.2.2.1) || (!(t485 == bt486.2.2.2))))) a0_0 a0_1 a0_2 a1_0 a1_1 a1_2 a2_0 a2_1)) = some r := H
      have A46 := Aside0.mk A460
      clear A460
      replace H := Option.bind_eq_some_iff.mp H
      obtain ⟨⟨t486, t487, t488, t489⟩, A470, H⟩ := H
      replace H : (tenancylaw01_AddrPrefixes.j0 k ((!(t482 == t486) || (!(t483 == t487))) || ((!(t484 == t488) || (!(t485 == t489))))) a0_0 a0_1 a0_2 a1_0 a1_1 a1_2 a2_0 a2_1) = some r := H
      have A47 := Aside0.mk A470
      clear A470
      have H' := Aside0.mk H
      clear H
      try go_wp2
      have n0_ : Aside0 ((((w27.setCell ⟨gb479, 0, none⟩ (.int .u64 t475)).setCell ⟨gb479, 1, none⟩ (.int .u64 t476)).setCell ⟨gb479, 2, none⟩ (.int .i64 t477)).heap[gb466]? = some (.cells #[.int .u64 a0_0, .int .u64 a0_1, .int .i64 a0_2] 33 (0, 0))) := ⟨by (with_reducible repeat (first | refine zkN ?_ _ | refine zk1 ?_ | refine zkA ?_ _)); refine blk_far ?_ NB466_479.out _; (with_reducible repeat (first | refine zkN ?_ _ | refine zk1 ?_ | refine zkA ?_ _)); refine blk_far ?_ NB466_479.out _; (with_reducible repeat (first | refine zkN ?_ _ | refine zk1 ?_ | refine zkA ?_ _)); refine blk_far ?_ NB466_479.out _; (with_reducible repeat (first | refine zkN ?_ _ | refine zk1 ?_ | refine zkA ?_ _)); exact BK466.out⟩
      have n1_ : Aside0 ((((w27.setCell ⟨gb479, 0, none⟩ (.int .u64 t475)).setCell ⟨gb479, 1, none⟩ (.int .u64 t476)).setCell ⟨gb479, 2, none⟩ (.int .i64 t477)).heap[gb467]? = some (.cells #[.int .u64 a1_0, .int .u64 a1_1, .int .i64 a1_2] 33 (0, 0))) := ⟨by (with_reducible repeat (first | refine zkN ?_ _ | refine zk1 ?_ | refine zkA ?_ _)); refine blk_far ?_ NB467_479.out _; (with_reducible repeat (first | refine zkN ?_ _ | refine zk1 ?_ | refine zkA ?_ _)); refine blk_far ?_ NB467_479.out _; (with_reducible repeat (first | refine zkN ?_ _ | refine zk1 ?_ | refine zkA ?_ _)); refine blk_far ?_ NB467_479.out _; (with_reducible repeat (first | refine zkN ?_ _ | refine zk1 ?_ | refine zkA ?_ _)); exact BK467.out⟩
      have n2_ : Aside0 ((((w27.setCell ⟨gb479, 0, none⟩ (.int .u64 t475)).setCell ⟨gb479, 1, none⟩ (.int .u64 t476)).setCell ⟨gb479, 2, none⟩ (.int .i64 t477)).heap[gb468]? = some (.cells #[.int .u64 a2_0, .int .u64 a2_1] 24 (0, 0))) := ⟨by (with_reducible repeat (first | refine zkN ?_ _ | refine zk1 ?_ | refine zkA ?_ _)); refine blk_far ?_ NB468_479.out _; (with_reducible repeat (first | refine zkN ?_ _ | refine zk1 ?_ | refine zkA ?_ _)); refine blk_far ?_ NB468_479.out _; (with_reducible repeat (first | refine zkN ?_ _ | refine zk1 ?_ | refine zkA ?_ _)); refine blk_far ?_ NB468_479.out _; (with_reducible repeat (first | refine zkN ?_ _ | refine zk1 ?_ | refine zkA ?_ _)); exact BK468.out⟩
      have n3_ : Aside0 ((((w27.setCell ⟨gb479, 0, none⟩ (.int .u64 t475)).setCell ⟨gb479, 1, none⟩ (.int .u64 t476)).setCell ⟨gb479, 2, none⟩ (.int .i64 t477)).heap[gb474]? = some (.cells #[.int .u64 t470, .int .u64 t471, .int .i64 t472] 33 (0, 0))) := ⟨by (with_reducible repeat (first | refine zkN ?_ _ | refine zk1 ?_ | refine zkA ?_ _)); refine blk_far ?_ NB474_479.out _; (with_reducible repeat (first | refine zkN ?_ _ | refine zk1 ?_ | refine zkA ?_ _)); refine blk_far ?_ NB474_479.out _; (with_reducible repeat (first | refine zkN ?_ _ | refine zk1 ?_ | refine zkA ?_ _)); refine blk_far ?_ NB474_479.out _; (with_reducible repeat (first | refine zkN ?_ _ | refine zk1 ?_ | refine zkA ?_ _)); exact BK474.out⟩
      have n4_ : Aside0 ((((w27.setCell ⟨gb479, 0, none⟩ (.int .u64 t475)).setCell ⟨gb479, 1, none⟩ (.int .u64 t476)).setCell ⟨gb479, 2, none⟩ (.int .i64 t477)).heap[gb479]? = some (.cells #[.int .u64 t475, .int .u64 t476, .int .i64 t477] 33 (0, 0))) := ⟨by (with_reducible repeat (first | refine zkN ?_ _ | refine zk1 ?_ | refine zkA ?_ _)); refine zkP (cs := #[.int .u64 t475, .int .u64 t476, .int .i64 0]) ?_ 2 _ rfl; (with_reducible repeat (first | refine zkN ?_ _ | refine zk1 ?_ | refine zkA ?_ _)); refine zkP (cs := #[.int .u64 t475, .int .u64 0, .int .i64 0]) ?_ 1 _ rfl; (with_reducible repeat (first | refine zkN ?_ _ | refine zk1 ?_ | refine zkA ?_ _)); refine zkP (cs := #[.int .u64 0, .int .u64 0, .int .i64 0]) ?_ 0 _ rfl; (with_reducible repeat (first | refine zkN ?_ _ | refine zk1 ?_ | refine zkA ?_ _)); exact BK479.out⟩
      have n5_ : Aside0 (Below w.heap.size w (((w27.setCell ⟨gb479, 0, none⟩ (.int .u64 t475)).setCell ⟨gb479, 1, none⟩ (.int .u64 t476)).setCell ⟨gb479, 2, none⟩ (.int .i64 t477))) := ⟨by repeat (first | (with_reducible first | exact HB.out | apply zbA | apply zbN | apply zb1 | refine zbS ?_ GE466.out | refine zbS ?_ GE467.out | refine zbS ?_ GE468.out | refine zbS ?_ GE474.out | refine zbS ?_ GE479.out) | exact HB.out)⟩
      (try clear BK466)
      (try clear BK467)
      (try clear BK468)
      (try clear BK474)
      (try clear BK479)
      (try clear HB)
      generalize (((w27.setCell ⟨gb479, 0, none⟩ (.int .u64 t475)).setCell ⟨gb479, 1, none⟩ (.int .u64 t476)).setCell ⟨gb479, 2, none⟩ (.int .i64 t477)) = w48 at n0_ n1_ n2_ n3_ n4_ n5_ ⊢
      have BK466 := n0_
      have BK467 := n1_
      have BK468 := n2_
      have BK474 := n3_
      have BK479 := n4_
      have HB := n5_
      clear n0_ n1_ n2_ n3_ n4_ n5_
      have n0_ := Aside0.mk (zk1 BK466.out)
      have n1_ := Aside0.mk (zk1 BK467.out)
      have n2_ := Aside0.mk (zk1 BK468.out)
      have n3_ := Aside0.mk (zk1 BK474.out)
      have n4_ := Aside0.mk (zk1 BK479.out)
      have n5_ := Aside0.mk (zb1 HB.out)
      clear BK466
      clear BK467
      clear BK468
      clear BK474
      clear BK479
      clear HB
      have BK466 := n0_
      have BK467 := n1_
      have BK468 := n2_
      have BK474 := n3_
      have BK479 := n4_
      have HB := n5_
      clear n0_ n1_ n2_ n3_ n4_ n5_
      refine start_ (n := 22) (S := fun w' => w'.cell? ⟨gb474, 0, none⟩ = some (.int .u64 t470) ∧ w'.cell? ⟨gb474, 1, none⟩ = some (.int .u64 t471) ∧ w'.cell? ⟨gb474, 2, none⟩ = some (.int .i64 t472) ∧ w'.cell? ⟨gb479, 0, none⟩ = some (.int .u64 t475) ∧ w'.cell? ⟨gb479, 1, none⟩ = some (.int .u64 t476) ∧ w'.cell? ⟨gb479, 2, none⟩ = some (.int .i64 t477) ∧ w'.cell? ⟨gb466, 0, none⟩ = some (.int .u64 a0_0) ∧ w'.cell? ⟨gb466, 1, none⟩ = some (.int .u64 a0_1) ∧ w'.cell? ⟨gb466, 2, none⟩ = some (.int .i64 a0_2)) (ds := []) #[false, false, false, false, false, false, false, false, false, false, false, false, false, false, false, false, false, false, false, false, false, false] (by kernel_rfl) rfl rfl ⟨(zkC BK474.out 0).trans rfl, (zkC BK474.out 1).trans rfl, (zkC BK474.out 2).trans rfl, (zkC BK479.out 0).trans rfl, (zkC BK479.out 1).trans rfl, (zkC BK479.out 2).trans rfl, (zkC BK466.out 0).trans rfl, (zkC BK466.out 1).trans rfl, (zkC BK466.out 2).trans rfl⟩ (fun hHeld => ?_); refine with_tabW tenancylaw01_AddrPrefixes.tab5 tenancylaw01_AddrPrefixes.bits5 (fun HT_ HW_ => ?_)
      generalize w48.drew = w49 at BK466 BK467 BK468 BK474 BK479 HB hHeld ⊢
      refine take_ (i := 0) (N := some 31) (v := ?_) (a' := ?_) #[true, false, false, false, false, false, false, false, false, false, false, false, false, false, false, false, false, false, false, false, false, false] rfl rfl (take_ofW HT_.out HW_.out (by kernel_rfl)) (fun _ _ _ h => h) (Or.inl ⟨by rfl, ?_⟩) hHeld ?_ ?_
      rotate_left
      ·rintro w' ⟨s0, s1, s2, s3, s4, s5, s6, s7, s8⟩
       go_simp
       with_reducible rfl
      rotate_left
      ·simp only [Act.put, List.setIfInBounds_toArray, List.set_cons_zero, List.set_cons_succ, i64_w, i32_w]
       rfl
      refine take_ (i := 1) (N := some 32) (v := ?_) (a' := ?_) #[true, true, false, false, false, false, false, false, false, false, false, false, false, false, false, false, false, false, false, false, false, false] rfl rfl (take_ofW HT_.out HW_.out (by kernel_rfl)) (fun _ _ _ h => h) (Or.inl ⟨by rfl, ?_⟩) hHeld ?_ ?_
      rotate_left
      ·rintro w' ⟨s0, s1, s2, s3, s4, s5, s6, s7, s8⟩
       go_simp
       with_reducible rfl
      rotate_left
      ·simp only [Act.put, List.setIfInBounds_toArray, List.set_cons_zero, List.set_cons_succ, i64_w, i32_w]
       rfl
      refine pure_ (i := 2) (N := some 33) (v := ?_) (a' := ?_) #[true, true, true, false, false, false, false, false, false, false, false, false, false, false, false, false, false, false, false, false, false, false] rfl rfl (any_of HT_.out (by kernel_rfl)) (fun _ _ _ h => h) (Or.inl ⟨by rfl, ?_⟩) ?_ ?_
      rotate_left
      ·intro w'
       go_simp
       with_reducible rfl
      rotate_left
      ·simp only [Act.put, List.setIfInBounds_toArray, List.set_cons_zero, List.set_cons_succ, i64_w, i32_w]
       rfl
      refine pure_ (i := 3) (N := some 34) (v := ?_) (a' := ?_) #[true, true, true, true, false, false, false, false, false, false, false, false, false, false, false, false, false, false, false, false, false, false] rfl rfl (any_of HT_.out (by kernel_rfl)) (fun _ _ _ h => h) (Or.inl ⟨by rfl, ?_⟩) ?_ ?_
      rotate_left
      ·intro w'
       go_simp
       with_reducible rfl
      rotate_left
      ·simp only [Act.put, List.setIfInBounds_toArray, List.set_cons_zero, List.set_cons_succ, i64_w, i32_w]
       rfl
      refine pure_ (i := 4) (N := some 35) (v := ?_) (a' := ?_) #[true, true, true, true, true, false, false, false, false, false, false, false, false, false, false, false, false, false, false, false, false, false] rfl rfl (any_of HT_.out (by kernel_rfl)) (fun _ _ _ h => h) (Or.inl ⟨by rfl, ?_⟩) ?_ ?_
      rotate_left
      ·intro w'
       go_simp
       with_reducible rfl
      rotate_left
      ·simp only [Act.put, List.setIfInBounds_toArray, List.set_cons_zero, List.set_cons_succ, i64_w, i32_w]
       rfl
      refine pure_ (i := 5) (N := some 36) (v := ?_) (a' := ?_) #[true, true, true, true, true, true, false, false, false, false, false, false, false, false, false, false, false, false, false, false, false, false] rfl rfl (any_of HT_.out (by kernel_rfl)) (fun _ _ _ h => h) (Or.inl ⟨by rfl, ?_⟩) ?_ ?_
      rotate_left
      ·intro w'
       go_simp
       with_reducible rfl
      rotate_left
      ·simp only [Act.put, List.setIfInBounds_toArray, List.set_cons_zero, List.set_cons_succ, i64_w, i32_w]
       rfl
      refine pure_ (i := 6) (N := some 37) (v := ?_) (a' := ?_) #[true, true, true, true, true, true, true, false, false, false, false, false, false, false, false, false, false, false, false, false, false, false] rfl rfl (any_of HT_.out (by kernel_rfl)) (fun _ _ _ h => h) (Or.inl ⟨by rfl, ?_⟩) ?_ ?_
      rotate_left
      ·intro w'
       go_simp
       with_reducible rfl
      rotate_left
      ·simp only [Act.put, List.setIfInBounds_toArray, List.set_cons_zero, List.set_cons_succ, i64_w, i32_w]
       rfl
      refine pure_ (i := 7) (N := some 38) (v := ?_) (a' := ?_) #[true, true, true, true, true, true, true, true, false, false, false, false, false, false, false, false, false, false, false, false, false, false] rfl rfl (any_of HT_.out (by kernel_rfl)) (fun _ _ _ h => h) (Or.inl ⟨by rfl, ?_⟩) ?_ ?_
      rotate_left
      ·intro w'
       go_simp
       with_reducible rfl
      rotate_left
      ·simp only [Act.put, List.setIfInBounds_toArray, List.set_cons_zero, List.set_cons_succ, i64_w, i32_w]
       rfl
      refine pure_ (i := 8) (N := some 39) (v := ?_) (a' := ?_) #[true, true, true, true, true, true, true, true, true, false, false, false, false, false, false, false, false, false, false, false, false, false] rfl rfl (any_of HT_.out (by kernel_rfl)) (fun _ _ _ h => h) (Or.inl ⟨by rfl, ?_⟩) ?_ ?_
      rotate_left
      ·intro w'
       go_simp
       with_reducible rfl
      rotate_left
      ·simp only [Act.put, List.setIfInBounds_toArray, List.set_cons_zero, List.set_cons_succ, i64_w, i32_w]
       rfl
      refine take_ (i := 9) (N := some 40) (v := ?_) (a' := ?_) #[true, true, true, true, true, true, true, true, true, true, false, false, false, false, false, false, false, false, false, false, false, false] rfl rfl (take_ofW HT_.out HW_.out (by kernel_rfl)) (fun _ _ _ h => h) (Or.inl ⟨by rfl, ?_⟩) hHeld ?_ ?_
      rotate_left
      ·rintro w' ⟨s0, s1, s2, s3, s4, s5, s6, s7, s8⟩
       go_simp
       with_reducible rfl
      rotate_left
      ·simp only [Act.put, List.setIfInBounds_toArray, List.set_cons_zero, List.set_cons_succ, i64_w, i32_w]
       rfl
      refine take_ (i := 11) (N := some 42) (v := ?_) (a' := ?_) #[true, true, true, true, true, true, true, true, true, true, false, true, false, false, false, false, false, false, false, false, false, false] rfl rfl (take_ofW HT_.out HW_.out (by kernel_rfl)) (fun _ _ _ h => h) (Or.inl ⟨by rfl, ?_⟩) hHeld ?_ ?_
      rotate_left
      ·rintro w' ⟨s0, s1, s2, s3, s4, s5, s6, s7, s8⟩
       go_simp
       with_reducible rfl
      rotate_left
      ·simp only [Act.put, List.setIfInBounds_toArray, List.set_cons_zero, List.set_cons_succ, i64_w, i32_w]
       rfl
      refine one_ (i := 10) (N := some 41) #[true, true, true, true, true, true, true, true, true, true, true, true, false, false, false, false, false, false, false, false, false, false] rfl rfl (one_of HT_.out (by kernel_rfl)) (by decide) (fun K hK => ?_)
      refine goes_ Try.func19 (by kernel_rfl) rfl #[.agg #[.int .u64 a0_0, .int .u64 a0_1, .int .i64 a0_2]] (by rfl) rfl rfl (by (try simp only [List.map_toArray, List.map_cons, List.map_nil]); first | done | rfl | (simp only [List.length_drop, List.length_take]; rfl)) ?_
      with_reducible refine (addr_Sound.calls k a0_0 a0_1 a0_2 t480 _ A39.out).mono ?_
      rintro e w50 ⟨rfl, hb⟩
      refine ⟨_, rfl, ?_⟩
      have n0_ := Aside0.mk (zkB (by (with_reducible repeat (first | refine zkN ?_ _ | refine zk1 ?_ | refine zkA ?_ _)); exact BK466.out) hb)
      have n1_ := Aside0.mk (zkB (by (with_reducible repeat (first | refine zkN ?_ _ | refine zk1 ?_ | refine zkA ?_ _)); exact BK467.out) hb)
      have n2_ := Aside0.mk (zkB (by (with_reducible repeat (first | refine zkN ?_ _ | refine zk1 ?_ | refine zkA ?_ _)); exact BK468.out) hb)
      have n3_ := Aside0.mk (zkB (by (with_reducible repeat (first | refine zkN ?_ _ | refine zk1 ?_ | refine zkA ?_ _)); exact BK474.out) hb)
      have n4_ := Aside0.mk (zkB (by (with_reducible repeat (first | refine zkN ?_ _ | refine zk1 ?_ | refine zkA ?_ _)); exact BK479.out) hb)
      have n5_ := Aside0.mk (zbP (by repeat (first | (with_reducible first | exact HB.out | apply zbA | apply zbN | apply zb1 | refine zbS ?_ GE466.out | refine zbS ?_ GE467.out | refine zbS ?_ GE468.out | refine zbS ?_ GE474.out | refine zbS ?_ GE479.out) | exact HB.out)) hb)
      clear BK466
      clear BK467
      clear BK468
      clear BK474
      clear BK479
      clear HB
      have BK466 := n0_
      have BK467 := n1_
      have BK468 := n2_
      have BK474 := n3_
      have BK479 := n4_
      have HB := n5_
      clear n0_ n1_ n2_ n3_ n4_ n5_
      (try clear hb)
      (try clear hb2)
      (try clear hk)
      (try clear hi)
      refine hK.out _ _ ⟨(zkC BK474.out 0).trans rfl, (zkC BK474.out 1).trans rfl, (zkC BK474.out 2).trans rfl, (zkC BK479.out 0).trans rfl, (zkC BK479.out 1).trans rfl, (zkC BK479.out 2).trans rfl, (zkC BK466.out 0).trans rfl, (zkC BK466.out 1).trans rfl, (zkC BK466.out 2).trans rfl⟩ (fun hHeld => ?_)
      clear hK K
      refine norm_ (a' := ?_) ?_ ?_
      rotate_left
      ·show Act.put _ (some 41) _ = _
       simp only [Act.put, List.setIfInBounds_toArray, List.set_cons_zero, List.set_cons_succ, i64_w, i32_w]
       rfl
      refine one_ (i := 12) (N := some 43) #[true, true, true, true, true, true, true, true, true, true, true, true, true, false, false, false, false, false, false, false, false, false] rfl rfl (one_of HT_.out (by kernel_rfl)) (by decide) (fun K hK => ?_)
      refine goes_ Try.func33 (by kernel_rfl) rfl #[.agg #[.int .u64 a0_0, .int .u64 a0_1, .int .i64 a0_2]] (by rfl) rfl rfl (by (try simp only [List.map_toArray, List.map_cons, List.map_nil]); first | done | rfl | (simp only [List.length_drop, List.length_take]; rfl)) ?_
      with_reducible refine (tenancyref01_Sound.calls k a0_0 a0_1 a0_2 t481 _ A40.out).mono ?_
      rintro e w51 ⟨rfl, hb⟩
      refine ⟨_, rfl, ?_⟩
      have n0_ := Aside0.mk (zkB (by (with_reducible repeat (first | refine zkN ?_ _ | refine zk1 ?_ | refine zkA ?_ _)); exact BK466.out) hb)
      have n1_ := Aside0.mk (zkB (by (with_reducible repeat (first | refine zkN ?_ _ | refine zk1 ?_ | refine zkA ?_ _)); exact BK467.out) hb)
      have n2_ := Aside0.mk (zkB (by (with_reducible repeat (first | refine zkN ?_ _ | refine zk1 ?_ | refine zkA ?_ _)); exact BK468.out) hb)
      have n3_ := Aside0.mk (zkB (by (with_reducible repeat (first | refine zkN ?_ _ | refine zk1 ?_ | refine zkA ?_ _)); exact BK474.out) hb)
      have n4_ := Aside0.mk (zkB (by (with_reducible repeat (first | refine zkN ?_ _ | refine zk1 ?_ | refine zkA ?_ _)); exact BK479.out) hb)
      have n5_ := Aside0.mk (zbP (by repeat (first | (with_reducible first | exact HB.out | apply zbA | apply zbN | apply zb1 | refine zbS ?_ GE466.out | refine zbS ?_ GE467.out | refine zbS ?_ GE468.out | refine zbS ?_ GE474.out | refine zbS ?_ GE479.out) | exact HB.out)) hb)
      clear BK466
      clear BK467
      clear BK468
      clear BK474
      clear BK479
      clear HB
      have BK466 := n0_
      have BK467 := n1_
      have BK468 := n2_
      have BK474 := n3_
      have BK479 := n4_
      have HB := n5_
      clear n0_ n1_ n2_ n3_ n4_ n5_
      (try clear hb)
      (try clear hb2)
      (try clear hk)
      (try clear hi)
      refine hK.out _ _ ⟨(zkC BK474.out 0).trans rfl, (zkC BK474.out 1).trans rfl, (zkC BK474.out 2).trans rfl, (zkC BK479.out 0).trans rfl, (zkC BK479.out 1).trans rfl, (zkC BK479.out 2).trans rfl, (zkC BK466.out 0).trans rfl, (zkC BK466.out 1).trans rfl, (zkC BK466.out 2).trans rfl⟩ (fun hHeld => ?_)
      clear hK K
      refine norm_ (a' := ?_) ?_ ?_
      rotate_left
      ·show Act.put _ (some 43) _ = _
       simp only [Act.put, List.setIfInBounds_toArray, List.set_cons_zero, List.set_cons_succ, i64_w, i32_w]
       rfl
      refine pure_ (i := 13) (N := some 44) (v := ?_) (a' := ?_) #[true, true, true, true, true, true, true, true, true, true, true, true, true, true, false, false, false, false, false, false, false, false] rfl rfl (any_of HT_.out (by kernel_rfl)) (fun _ _ _ h => h) (Or.inl ⟨by rfl, ?_⟩) ?_ ?_
      rotate_left
      ·intro w'
       go_simp
       with_reducible rfl
      rotate_left
      ·simp only [Act.put, List.setIfInBounds_toArray, List.set_cons_zero, List.set_cons_succ, i64_w, i32_w]
       rfl
      refine pure_ (i := 14) (N := some 45) (v := ?_) (a' := ?_) #[true, true, true, true, true, true, true, true, true, true, true, true, true, true, true, false, false, false, false, false, false, false] rfl rfl (any_of HT_.out (by kernel_rfl)) (fun _ _ _ h => h) (Or.inl ⟨by rfl, ?_⟩) ?_ ?_
      rotate_left
      ·intro w'
       go_simp
       with_reducible rfl
      rotate_left
      ·simp only [Act.put, List.setIfInBounds_toArray, List.set_cons_zero, List.set_cons_succ, i64_w, i32_w]
       rfl
      refine pure_ (i := 15) (N := some 46) (v := ?_) (a' := ?_) #[true, true, true, true, true, true, true, true, true, true, true, true, true, true, true, true, false, false, false, false, false, false] rfl rfl (any_of HT_.out (by kernel_rfl)) (fun _ _ _ h => h) (Or.inl ⟨by rfl, ?_⟩) ?_ ?_
      rotate_left
      ·intro w'
       go_simp
       with_reducible rfl
      rotate_left
      ·simp only [Act.put, List.setIfInBounds_toArray, List.set_cons_zero, List.set_cons_succ, i64_w, i32_w]
       rfl
      refine take_ (i := 16) (N := some 47) (v := ?_) (a' := ?_) #[true, true, true, true, true, true, true, true, true, true, true, true, true, true, true, true, true, false, false, false, false, false] rfl rfl (take_ofW HT_.out HW_.out (by kernel_rfl)) (fun _ _ _ h => h) (Or.inl ⟨by rfl, ?_⟩) hHeld ?_ ?_
      rotate_left
      ·rintro w' ⟨s0, s1, s2, s3, s4, s5, s6, s7, s8⟩
       go_simp
       with_reducible rfl
      rotate_left
      ·simp only [Act.put, List.setIfInBounds_toArray, List.set_cons_zero, List.set_cons_succ, i64_w, i32_w]
       rfl
      refine take_ (i := 18) (N := some 49) (v := ?_) (a' := ?_) #[true, true, true, true, true, true, true, true, true, true, true, true, true, true, true, true, true, false, true, false, false, false] rfl rfl (take_ofW HT_.out HW_.out (by kernel_rfl)) (fun _ _ _ h => h) (Or.inl ⟨by rfl, ?_⟩) hHeld ?_ ?_
      rotate_left
      ·rintro w' ⟨s0, s1, s2, s3, s4, s5, s6, s7, s8⟩
       go_simp
       with_reducible rfl
      rotate_left
      ·simp only [Act.put, List.setIfInBounds_toArray, List.set_cons_zero, List.set_cons_succ, i64_w, i32_w]
       rfl
      refine one_ (i := 17) (N := some 48) #[true, true, true, true, true, true, true, true, true, true, true, true, true, true, true, true, true, true, true, false, false, false] rfl rfl (one_of HT_.out (by kernel_rfl)) (by decide) (fun K hK => ?_)
      refine goes_ Try.func18 (by kernel_rfl) rfl #[.agg #[.int .u64 a0_0, .int .u64 a0_1, .int .i64 a0_2]] (by rfl) rfl rfl (by (try simp only [List.map_toArray, List.map_cons, List.map_nil]); first | done | rfl | (simp only [List.length_drop, List.length_take]; rfl)) ?_
      with_reducible refine (addr_Span.calls k a0_0 a0_1 a0_2 t482 t483 t484 t485 _ A46.out).mono ?_
      rintro e w52 ⟨rfl, hb⟩
      refine ⟨_, rfl, ?_⟩
      have n0_ := Aside0.mk (zkB (by (with_reducible repeat (first | refine zkN ?_ _ | refine zk1 ?_ | refine zkA ?_ _)); exact BK466.out) hb)
      have n1_ := Aside0.mk (zkB (by (with_reducible repeat (first | refine zkN ?_ _ | refine zk1 ?_ | refine zkA ?_ _)); exact BK467.out) hb)
      have n2_ := Aside0.mk (zkB (by (with_reducible repeat (first | refine zkN ?_ _ | refine zk1 ?_ | refine zkA ?_ _)); exact BK468.out) hb)
      have n3_ := Aside0.mk (zkB (by (with_reducible repeat (first | refine zkN ?_ _ | refine zk1 ?_ | refine zkA ?_ _)); exact BK474.out) hb)
      have n4_ := Aside0.mk (zkB (by (with_reducible repeat (first | refine zkN ?_ _ | refine zk1 ?_ | refine zkA ?_ _)); exact BK479.out) hb)
      have n5_ := Aside0.mk (zbP (by repeat (first | (with_reducible first | exact HB.out | apply zbA | apply zbN | apply zb1 | refine zbS ?_ GE466.out | refine zbS ?_ GE467.out | refine zbS ?_ GE468.out | refine zbS ?_ GE474.out | refine zbS ?_ GE479.out) | exact HB.out)) hb)
      clear BK466
      clear BK467
      clear BK468
      clear BK474
      clear BK479
      clear HB
      have BK466 := n0_
      have BK467 := n1_
      have BK468 := n2_
      have BK474 := n3_
      have BK479 := n4_
      have HB := n5_
      clear n0_ n1_ n2_ n3_ n4_ n5_
      (try clear hb)
      (try clear hb2)
      (try clear hk)
      (try clear hi)
      refine hK.out _ _ ⟨(zkC BK474.out 0).trans rfl, (zkC BK474.out 1).trans rfl, (zkC BK474.out 2).trans rfl, (zkC BK479.out 0).trans rfl, (zkC BK479.out 1).trans rfl, (zkC BK479.out 2).trans rfl, (zkC BK466.out 0).trans rfl, (zkC BK466.out 1).trans rfl, (zkC BK466.out 2).trans rfl⟩ (fun hHeld => ?_)
      clear hK K
      refine norm_ (a' := ?_) ?_ ?_
      rotate_left
      ·show Act.put _ (some 48) _ = _
       simp only [Act.put, List.setIfInBounds_toArray, List.set_cons_zero, List.set_cons_succ, i64_w, i32_w]
       rfl
      refine one_ (i := 19) (N := some 50) #[true, true, true, true, true, true, true, true, true, true, true, true, true, true, true, true, true, true, true, true, false, false] rfl rfl (one_of HT_.out (by kernel_rfl)) (by decide) (fun K hK => ?_)
      refine goes_ Try.func34 (by kernel_rfl) rfl #[.agg #[.int .u64 a0_0, .int .u64 a0_1, .int .i64 a0_2]] (by rfl) rfl rfl (by (try simp only [List.map_toArray, List.map_cons, List.map_nil]); first | done | rfl | (simp only [List.length_drop, List.length_take]; rfl)) ?_
      with_reducible refine (tenancyref01_Span.calls k a0_0 a0_1 a0_2 t486 t487 t488 t489 _ A47.out).mono ?_
      rintro e w53 ⟨rfl, hb⟩
      refine ⟨_, rfl, ?_⟩
      have n0_ := Aside0.mk (zkB (by (with_reducible repeat (first | refine zkN ?_ _ | refine zk1 ?_ | refine zkA ?_ _)); exact BK466.out) hb)
      have n1_ := Aside0.mk (zkB (by (with_reducible repeat (first | refine zkN ?_ _ | refine zk1 ?_ | refine zkA ?_ _)); exact BK467.out) hb)
      have n2_ := Aside0.mk (zkB (by (with_reducible repeat (first | refine zkN ?_ _ | refine zk1 ?_ | refine zkA ?_ _)); exact BK468.out) hb)
      have n3_ := Aside0.mk (zkB (by (with_reducible repeat (first | refine zkN ?_ _ | refine zk1 ?_ | refine zkA ?_ _)); exact BK474.out) hb)
      have n4_ := Aside0.mk (zkB (by (with_reducible repeat (first | refine zkN ?_ _ | refine zk1 ?_ | refine zkA ?_ _)); exact BK479.out) hb)
      have n5_ := Aside0.mk (zbP (by repeat (first | (with_reducible first | exact HB.out | apply zbA | apply zbN | apply zb1 | refine zbS ?_ GE466.out | refine zbS ?_ GE467.out | refine zbS ?_ GE468.out | refine zbS ?_ GE474.out | refine zbS ?_ GE479.out) | exact HB.out)) hb)
      clear BK466
      clear BK467
      clear BK468
      clear BK474
      clear BK479
      clear HB
      have BK466 := n0_
      have BK467 := n1_
      have BK468 := n2_
      have BK474 := n3_
      have BK479 := n4_
      have HB := n5_
      clear n0_ n1_ n2_ n3_ n4_ n5_
      (try clear hb)
      (try clear hb2)
      (try clear hk)
      (try clear hi)
      refine hK.out _ _ ⟨(zkC BK474.out 0).trans rfl, (zkC BK474.out 1).trans rfl, (zkC BK474.out 2).trans rfl, (zkC BK479.out 0).trans rfl, (zkC BK479.out 1).trans rfl, (zkC BK479.out 2).trans rfl, (zkC BK466.out 0).trans rfl, (zkC BK466.out 1).trans rfl, (zkC BK466.out 2).trans rfl⟩ (fun hHeld => ?_)
      clear hK K
      refine norm_ (a' := ?_) ?_ ?_
      rotate_left
      ·show Act.put _ (some 50) _ = _
       simp only [Act.put, List.setIfInBounds_toArray, List.set_cons_zero, List.set_cons_succ, i64_w, i32_w]
       rfl
      refine pure_ (i := 20) (N := some 51) (v := ?_) (a' := ?_) #[true, true, true, true, true, true, true, true, true, true, true, true, true, true, true, true, true, true, true, true, true, false] rfl rfl (any_of HT_.out (by kernel_rfl)) (fun _ _ _ h => h) (Or.inl ⟨by rfl, ?_⟩) ?_ ?_
      rotate_left
      ·intro w'
       go_simp
       with_reducible rfl
      rotate_left
      ·simp only [Act.put, List.setIfInBounds_toArray, List.set_cons_zero, List.set_cons_succ, i64_w, i32_w]
       rfl
      refine pure_ (i := 21) (N := some 52) (v := ?_) (a' := ?_) #[true, true, true, true, true, true, true, true, true, true, true, true, true, true, true, true, true, true, true, true, true, true] rfl rfl (any_of HT_.out (by kernel_rfl)) (fun _ _ _ h => h) (Or.inl ⟨by rfl, ?_⟩) ?_ ?_
      rotate_left
      ·intro w'
       go_simp
       with_reducible rfl
      rotate_left
      ·simp only [Act.put, List.setIfInBounds_toArray, List.set_cons_zero, List.set_cons_succ, i64_w, i32_w]
       rfl
      refine done_ (done_of HT_.out (by kernel_rfl)) ?_
      try go_wp2
      go_meet
      case rel => exact ⟨_, (((!(t482 == t486) || (!(t483 == t487))) || ((!(t484 == t488) || (!(t485 == t489)))))), (by first | rfl | (simp; done) | (simp [*]; done)), H', ⟨by first | omega | exact Nat.le_refl _⟩, ⟨by (with_reducible repeat (first | refine zkN ?_ _ | refine zk1 ?_ | refine zkA ?_ _)); exact BK466.out⟩, ⟨by (with_reducible repeat (first | refine zkN ?_ _ | refine zk1 ?_ | refine zkA ?_ _)); exact BK467.out⟩, ⟨by (with_reducible repeat (first | refine zkN ?_ _ | refine zk1 ?_ | refine zkA ?_ _)); exact BK468.out⟩, ⟨by (with_reducible repeat (first | refine zkN ?_ _ | refine zk1 ?_ | refine zkA ?_ _)); exact BK474.out⟩, ⟨by (with_reducible repeat (first | refine zkN ?_ _ | refine zk1 ?_ | refine zkA ?_ _)); exact BK479.out⟩, ⟨by repeat (first | (with_reducible first | exact HB.out | apply zbA | apply zbN | apply zb1 | refine zbS ?_ GE466.out | refine zbS ?_ GE467.out | refine zbS ?_ GE468.out | refine zbS ?_ GE474.out | refine zbS ?_ GE479.out) | exact HB.out)⟩⟩
  case rest =>
   clear HC8
   (try clear c1); (try clear p2); (try clear c3); (try clear c4); (try clear c18); (try clear c19); (try clear c33); (try clear c34); (try clear c41); (try clear c41b0); (try clear c41b1); (try clear c41b2)
   obtain ⟨kq, x52_7, rfl, HA, HJ7, BK466, BK467, BK468, BK474, BK479, HB⟩ := hcut
   cases kq with
   | zero => exact absurd HA.out (by simp [tenancylaw01_AddrPrefixes.j0])
   | succ kj7 =>
    have H := HA.out
    clear HA
    simp only [tenancylaw01_AddrPrefixes.j0] at H
    by_cases c54 : x52_7 = true
    ·subst c54
     have H1 : (none) = some r := by rw [if_pos rfl] at H; exact H
     clear H
     have H := H1
     clear H1
     exact absurd H (by simp)
    ·replace c54 := Bool.eq_false_iff.mpr c54
     subst c54
     have H1 : ((addr_Halves.f kj7 a0_0 a0_1 a0_2).bind fun bt490 => ((tenancyref01_Halves.f kj7 a0_0 a0_1 a0_2).bind fun bt499 => (if ((bt490.1 == bt499.1 && (bt490.2.1 == bt499.2.1)) && (bt490.2.2.1 == bt499.2.2.1)) = true then (if ((bt490.2.2.2.1 == bt499.2.2.2.1 && (bt490.2.2.2.2.1 == bt499.2.2.2.2.1)) && (bt490.2.2.2.2.2.1 == bt499.2.2.2.2.2.1)) = true then (if (bt490.2.2.2.2.2.2 == bt499.2.2.2.2.2.2) = true then ((addr_Has.f kj7 a0_0 a0_1 a0_2 a2_0 a2_1).bind fun t508 => ((tenancyref01_Has.f kj7 a0_0 a0_1 a0_2 a2_0 a2_1).bind fun t509 => (if (t508 == t509) = true then ((addr_Covers.f kj7 a0_0 a0_1 a0_2 a1_0 a1_1 a1_2).bind fun t510 => ((tenancyref01_Covers.f kj7 a0_0 a0_1 a0_2 a1_0 a1_1 a1_2).bind fun t511 => (if (t510 == t511) = true then ((addr_Meets.f kj7 a0_0 a0_1 a0_2 a1_0 a1_1 a1_2).bind fun t512 => ((tenancyref01_Meets.f kj7 a0_0 a0_1 a0_2 a1_0 a1_1 a1_2).bind fun t513 => (some (t512 == t513)))) else (none)))) else (none)))) else (none)) else (none)) else (none)))) = some r := by rw [if_neg (show ¬ (false = true) by decide)] at H; exact H
     clear H
     have H := H1
     clear H1
     replace H := Option.bind_eq_some_iff.mp H
     obtain ⟨⟨t490, t491, t492, t493, t494, t495, t496⟩, A550, H⟩ := H
     replace H : ((tenancyref01_Halves.f kj7 a0_0 a0_1 a0_2).bind fun bt499 => (if ((t490 == bt499.1 && (t491 == bt499.2.1)) && (t492 == bt499.2.2.1)) = true then (if ((t493 == bt499.2.2.2.1 && (t494 == bt499.2.2.2.2.1)) && (t495 == bt499.2.2.2.2.2.1)) = true then (if (t496 == bt499.2.2.2.2.2.2) = true then ((addr_Has.f kj7 a0_0 a0_1 a0_2 a2_0 a2_1).bind fun t508 => ((tenancyref01_Has.f kj7 a0_0 a0_1 a0_2 a2_0 a2_1).bind fun t509 => (if (t508 == t509) = true then ((addr_Covers.f kj7 a0_0 a0_1 a0_2 a1_0 a1_1 a1_2).bind fun t510 => ((tenancyref01_Covers.f kj7 a0_0 a0_1 a0_2 a1_0 a1_1 a1_2).bind fun t511 => (if (t510 == t511) = true then ((addr_Meets.f kj7 a0_0 a0_1 a0_2 a1_0 a1_1 a1_2).bind fun t512 => ((tenancyref01_Meets.f kj7 a0_0 a0_1 a0_2 a1_0 a1_1 a1_2).bind fun t513 => (some (t512 == t513)))) else (none)))) else (none)))) else (none)) else (none)) else (none))) = some r := H
     have A55 := Aside0.mk A550
     clear A550
     replace H := Option.bind_eq_some_iff.mp H
     obtain ⟨⟨t499, t500, t501, t502, t503, t504, t505⟩, A560, H⟩ := H
     replace H : (if ((t490 == t499 && (t491 == t500)) && (t492 == t501)) = true then (if ((t493 == t502 && (t494 == t503)) && (t495 == t504)) = true then (if (t496 == t505) = true then ((addr_Has.f kj7 a0_0 a0_1 a0_2 a2_0 a2_1).bind fun t508 => ((tenancyref01_Has.f kj7 a0_0 a0_1 a0_2 a2_0 a2_1).bind fun t509 => (if (t508 == t509) = true then ((addr_Covers.f kj7 a0_0 a0_1 a0_2 a1_0 a1_1 a1_2).bind fun t510 => ((tenancyref01_Covers.f kj7 a0_0 a0_1 a0_2 a1_0 a1_1 a1_2).bind fun t511 => (if (t510 == t511) = true then ((addr_Meets.f kj7 a0_0 a0_1 a0_2 a1_0 a1_1 a1_2).bind fun t512 => ((tenancyref01_Meets.f kj7 a0_0 a0_1 a0_2 a1_0 a1_1 a1_2).bind fun t513 => (some (t512 == t513)))) else (none)))) else (none)))) else (none)) else (none)) else (none)) = some r := H
     have A56 := Aside0.mk A560
     clear A560
     by_cases c57 : ((t490 == t499 && (t491 == t500)) && (t492 == t501)) = true
     ·rw [if_pos c57] at H
      have c57b0 : ((t490 == t499 && (t491 == t500)) && (t492 == t501)) = true := c57
      clear c57
      by_cases c58 : ((t493 == t502 && (t494 == t503)) && (t495 == t504)) = true
      ·rw [if_pos c58] at H
       have c58b0 : ((t493 == t502 && (t494 == t503)) && (t495 == t504)) = true := c58
       clear c58
       by_cases c59 : (t496 == t505) = true
       ·rw [if_pos c59] at H
        have c59b0 : (t496 == t505) = true := c59
        (try (have c59b1 : decide (t496 = t505) = true := by simpa using c59))
        (try (have c59b2 : (t496 == t505) = true := by simpa using c59))
        clear c59
        replace H := Option.bind_eq_some_iff.mp H
        obtain ⟨t508, A600, H⟩ := H
        replace H : ((tenancyref01_Has.f kj7 a0_0 a0_1 a0_2 a2_0 a2_1).bind fun t509 => (if (t508 == t509) = true then ((addr_Covers.f kj7 a0_0 a0_1 a0_2 a1_0 a1_1 a1_2).bind fun t510 => ((tenancyref01_Covers.f kj7 a0_0 a0_1 a0_2 a1_0 a1_1 a1_2).bind fun t511 => (if (t510 == t511) = true then ((addr_Meets.f kj7 a0_0 a0_1 a0_2 a1_0 a1_1 a1_2).bind fun t512 => ((tenancyref01_Meets.f kj7 a0_0 a0_1 a0_2 a1_0 a1_1 a1_2).bind fun t513 => (some (t512 == t513)))) else (none)))) else (none))) = some r := H
        have A60 := Aside0.mk A600
        clear A600
        replace H := Option.bind_eq_some_iff.mp H
        obtain ⟨t509, A610, H⟩ := H
        replace H : (if (t508 == t509) = true then ((addr_Covers.f kj7 a0_0 a0_1 a0_2 a1_0 a1_1 a1_2).bind fun t510 => ((tenancyref01_Covers.f kj7 a0_0 a0_1 a0_2 a1_0 a1_1 a1_2).bind fun t511 => (if (t510 == t511) = true then ((addr_Meets.f kj7 a0_0 a0_1 a0_2 a1_0 a1_1 a1_2).bind fun t512 => ((tenancyref01_Meets.f kj7 a0_0 a0_1 a0_2 a1_0 a1_1 a1_2).bind fun t513 => (some (t512 == t513)))) else (none)))) else (none)) = some r := H
        have A61 := Aside0.mk A610
        clear A610
        by_cases c62 : (t508 == t509) = true
        ·rw [if_pos c62] at H
         have c62b0 : (t508 == t509) = true := c62
         (try (have c62b1 : decide (t508 = t509) = true := by simpa using c62))
         (try (have c62b2 : (t508 == t509) = true := by simpa using c62))
         clear c62
         replace H := Option.bind_eq_some_iff.mp H
         obtain ⟨t510, A630, H⟩ := H
         replace H : ((tenancyref01_Covers.f kj7 a0_0 a0_1 a0_2 a1_0 a1_1 a1_2).bind fun t511 => (if (t510 == t511) = true then ((addr_Meets.f kj7 a0_0 a0_1 a0_2 a1_0 a1_1 a1_2).bind fun t512 => ((tenancyref01_Meets.f kj7 a0_0 a0_1 a0_2 a1_0 a1_1 a1_2).bind fun t513 => (some (t512 == t513)))) else (none))) = some r := H
         have A63 := Aside0.mk A630
         clear A630
         replace H := Option.bind_eq_some_iff.mp H
         obtain ⟨t511, A640, H⟩ := H
         replace H : (if (t510 == t511) = true then ((addr_Meets.f kj7 a0_0 a0_1 a0_2 a1_0 a1_1 a1_2).bind fun t512 => ((tenancyref01_Meets.f kj7 a0_0 a0_1 a0_2 a1_0 a1_1 a1_2).bind fun t513 => (some (t512 == t513)))) else (none)) = some r := H
         have A64 := Aside0.mk A640
         clear A640
         by_cases c65 : (t510 == t511) = true
         ·rw [if_pos c65] at H
          have c65b0 : (t510 == t511) = true := c65
          (try (have c65b1 : decide (t510 = t511) = true := by simpa using c65))
          (try (have c65b2 : (t510 == t511) = true := by simpa using c65))
          clear c65
          replace H := Option.bind_eq_some_iff.mp H
          obtain ⟨t512, A660, H⟩ := H
          replace H : ((tenancyref01_Meets.f kj7 a0_0 a0_1 a0_2 a1_0 a1_1 a1_2).bind fun t513 => (some (t512 == t513))) = some r := H
          have A66 := Aside0.mk A660
          clear A660
          replace H := Option.bind_eq_some_iff.mp H
          obtain ⟨t513, A670, H⟩ := H
          replace H : (some (t512 == t513)) = some r := H
          have A67 := Aside0.mk A670
          clear A670
          obtain rfl := Option.some.inj H
          have hnb68 := NB466_467.out
          have hnc68 := NB467_466.out
          have hnb69 := NB466_468.out
          have hnc69 := NB468_466.out
          have hnb70 := NB466_474.out
          have hnc70 := NB474_466.out
          have hnb71 := NB466_479.out
          have hnc71 := NB479_466.out
          obtain ⟨hcz72_0, hcz72_1, hcz72_2, hfz72_0, hfz72_1, hfz72_2⟩ := zc3 BK466.out
          try go_wp2_with (first | ((with_reducible refine gate_callee (f := 35) rfl ?_); refine goesL_ (some 55) rfl rfl Try.func35 (by kernel_rfl) rfl #[.agg #[.int .u64 a0_0, .int .u64 a0_1, .int .i64 a0_2]] rfl (by (try simp only [List.map_toArray, List.map_cons, List.map_nil]); first | done | rfl | (simp only [List.length_drop, List.length_take]; rfl)) ?_; (with_reducible refine (addr_Halves.calls kj7 a0_0 a0_1 a0_2 t490 t491 t492 t493 t494 t495 t496 _ A55.out).mono ?_); rintro e w73 ⟨rfl, hb⟩; refine ⟨_, rfl, ?_⟩; have n0_ := Aside0.mk (zkB (by (with_reducible repeat (first | refine zkN ?_ _ | refine zk1 ?_ | refine zkA ?_ _)); exact BK466.out) hb); have n1_ := Aside0.mk (zkB (by (with_reducible repeat (first | refine zkN ?_ _ | refine zk1 ?_ | refine zkA ?_ _)); exact BK467.out) hb); have n2_ := Aside0.mk (zkB (by (with_reducible repeat (first | refine zkN ?_ _ | refine zk1 ?_ | refine zkA ?_ _)); exact BK468.out) hb); have n3_ := Aside0.mk (zkB (by (with_reducible repeat (first | refine zkN ?_ _ | refine zk1 ?_ | refine zkA ?_ _)); exact BK474.out) hb); have n4_ := Aside0.mk (zkB (by (with_reducible repeat (first | refine zkN ?_ _ | refine zk1 ?_ | refine zkA ?_ _)); exact BK479.out) hb); have n5_ := Aside0.mk (zbP (by repeat (first | (with_reducible first | exact HB.out | apply zbA | apply zbN | apply zb1 | refine zbS ?_ GE466.out | refine zbS ?_ GE467.out | refine zbS ?_ GE468.out | refine zbS ?_ GE474.out | refine zbS ?_ GE479.out) | exact HB.out)) hb); clear BK466; clear BK467; clear BK468; clear BK474; clear BK479; clear HB; have BK466 := n0_; have BK467 := n1_; have BK468 := n2_; have BK474 := n3_; have BK479 := n4_; have HB := n5_; clear n0_ n1_ n2_ n3_ n4_ n5_; (try clear hb); (try clear hb2); (try clear hk); (try clear hi)) | ((with_reducible refine gate_dst (N := 11) rfl ?_); refine box_event ?hg (N := 11) ?hd (cs := #[.int .u64 0, .int .u64 0, .int .i64 0]) (t := 33) ?hr ?_; (case hd => rfl); (case hg => rfl); (case hr => first | (go_simp; done) | (go_simp; rfl)); intro gb497 hg w74 hbox hb; have n0_ := Aside0.mk (zkB (by (with_reducible repeat (first | refine zkN ?_ _ | refine zk1 ?_ | refine zkA ?_ _)); exact BK466.out) hb); have n1_ := Aside0.mk (zkB (by (with_reducible repeat (first | refine zkN ?_ _ | refine zk1 ?_ | refine zkA ?_ _)); exact BK467.out) hb); have n2_ := Aside0.mk (zkB (by (with_reducible repeat (first | refine zkN ?_ _ | refine zk1 ?_ | refine zkA ?_ _)); exact BK468.out) hb); have n3_ := Aside0.mk (zkB (by (with_reducible repeat (first | refine zkN ?_ _ | refine zk1 ?_ | refine zkA ?_ _)); exact BK474.out) hb); have n4_ := Aside0.mk (zkB (by (with_reducible repeat (first | refine zkN ?_ _ | refine zk1 ?_ | refine zkA ?_ _)); exact BK479.out) hb); have n5_ := Aside0.mk (zbP (by repeat (first | (with_reducible first | exact HB.out | apply zbA | apply zbN | apply zb1 | refine zbS ?_ GE466.out | refine zbS ?_ GE467.out | refine zbS ?_ GE468.out | refine zbS ?_ GE474.out | refine zbS ?_ GE479.out) | exact HB.out)) hb); have n6_ := Aside0.mk (hbox); have n7_ := Aside0.mk ((by rw [hg]; exact (zbZ (by repeat (first | (with_reducible first | exact HB.out | apply zbA | apply zbN | apply zb1 | refine zbS ?_ GE466.out | refine zbS ?_ GE467.out | refine zbS ?_ GE468.out | refine zbS ?_ GE474.out | refine zbS ?_ GE479.out) | exact HB.out))) : w.heap.size ≤ gb497)); have n8_ := n7_; have n9_ := Aside0.mk ((by rw [hg]; exact Nat.ne_of_lt (zkL (by (with_reducible repeat (first | refine zkN ?_ _ | refine zk1 ?_ | refine zkA ?_ _)); exact BK466.out)) : gb466 ≠ gb497)); have n10_ := Aside0.mk (Ne.symm n9_.out); have n11_ := Aside0.mk ((by rw [hg]; exact Nat.ne_of_lt (zkL (by (with_reducible repeat (first | refine zkN ?_ _ | refine zk1 ?_ | refine zkA ?_ _)); exact BK467.out)) : gb467 ≠ gb497)); have n12_ := Aside0.mk (Ne.symm n11_.out); have n13_ := Aside0.mk ((by rw [hg]; exact Nat.ne_of_lt (zkL (by (with_reducible repeat (first | refine zkN ?_ _ | refine zk1 ?_ | refine zkA ?_ _)); exact BK468.out)) : gb468 ≠ gb497)); have n14_ := Aside0.mk (Ne.symm n13_.out); have n15_ := Aside0.mk ((by rw [hg]; exact Nat.ne_of_lt (zkL (by (with_reducible repeat (first | refine zkN ?_ _ | refine zk1 ?_ | refine zkA ?_ _)); exact BK474.out)) : gb474 ≠ gb497)); have n16_ := Aside0.mk (Ne.symm n15_.out); have n17_ := Aside0.mk ((by rw [hg]; exact Nat.ne_of_lt (zkL (by (with_reducible repeat (first | refine zkN ?_ _ | refine zk1 ?_ | refine zkA ?_ _)); exact BK479.out)) : gb479 ≠ gb497)); have n18_ := Aside0.mk (Ne.symm n17_.out); clear BK466; clear BK467; clear BK468; clear BK474; clear BK479; clear HB; have BK466 := n0_; have BK467 := n1_; have BK468 := n2_; have BK474 := n3_; have BK479 := n4_; have HB := n5_; have BK497 := n6_; have GW497 := n7_; have GE497 := n8_; have NB466_497 := n9_; have NB497_466 := n10_; have NB467_497 := n11_; have NB497_467 := n12_; have NB468_497 := n13_; have NB497_468 := n14_; have NB474_497 := n15_; have NB497_474 := n16_; have NB479_497 := n17_; have NB497_479 := n18_; clear n0_ n1_ n2_ n3_ n4_ n5_ n6_ n7_ n8_ n9_ n10_ n11_ n12_ n13_ n14_ n15_ n16_ n17_ n18_; clear hb hbox hg) | ((with_reducible refine gate_dst (N := 12) rfl ?_); refine box_event ?hg (N := 12) ?hd (cs := #[.int .u64 0, .int .u64 0, .int .i64 0]) (t := 33) ?hr ?_; (case hd => rfl); (case hg => rfl); (case hr => first | (go_simp; done) | (go_simp; rfl)); intro gb498 hg w75 hbox hb; have n0_ := Aside0.mk (zkB (by (with_reducible repeat (first | refine zkN ?_ _ | refine zk1 ?_ | refine zkA ?_ _)); exact BK466.out) hb); have n1_ := Aside0.mk (zkB (by (with_reducible repeat (first | refine zkN ?_ _ | refine zk1 ?_ | refine zkA ?_ _)); exact BK467.out) hb); have n2_ := Aside0.mk (zkB (by (with_reducible repeat (first | refine zkN ?_ _ | refine zk1 ?_ | refine zkA ?_ _)); exact BK468.out) hb); have n3_ := Aside0.mk (zkB (by (with_reducible repeat (first | refine zkN ?_ _ | refine zk1 ?_ | refine zkA ?_ _)); exact BK474.out) hb); have n4_ := Aside0.mk (zkB (by (with_reducible repeat (first | refine zkN ?_ _ | refine zk1 ?_ | refine zkA ?_ _)); exact BK479.out) hb); have n5_ := Aside0.mk (zkB (by (with_reducible repeat (first | refine zkN ?_ _ | refine zk1 ?_ | refine zkA ?_ _)); exact BK497.out) hb); have n6_ := Aside0.mk (zbP (by repeat (first | (with_reducible first | exact HB.out | apply zbA | apply zbN | apply zb1 | refine zbS ?_ GE466.out | refine zbS ?_ GE467.out | refine zbS ?_ GE468.out | refine zbS ?_ GE474.out | refine zbS ?_ GE479.out | refine zbS ?_ GE497.out) | exact HB.out)) hb); have n7_ := Aside0.mk (hbox); have n8_ := Aside0.mk ((by rw [hg]; exact (zbZ (by repeat (first | (with_reducible first | exact HB.out | apply zbA | apply zbN | apply zb1 | refine zbS ?_ GE466.out | refine zbS ?_ GE467.out | refine zbS ?_ GE468.out | refine zbS ?_ GE474.out | refine zbS ?_ GE479.out | refine zbS ?_ GE497.out) | exact HB.out))) : w.heap.size ≤ gb498)); have n9_ := n8_; have n10_ := Aside0.mk ((by rw [hg]; exact Nat.ne_of_lt (zkL (by (with_reducible repeat (first | refine zkN ?_ _ | refine zk1 ?_ | refine zkA ?_ _)); exact BK466.out)) : gb466 ≠ gb498)); have n11_ := Aside0.mk (Ne.symm n10_.out); have n12_ := Aside0.mk ((by rw [hg]; exact Nat.ne_of_lt (zkL (by (with_reducible repeat (first | refine zkN ?_ _ | refine zk1 ?_ | refine zkA ?_ _)); exact BK467.out)) : gb467 ≠ gb498)); have n13_ := Aside0.mk (Ne.symm n12_.out); have n14_ := Aside0.mk ((by rw [hg]; exact Nat.ne_of_lt (zkL (by (with_reducible repeat (first | refine zkN ?_ _ | refine zk1 ?_ | refine zkA ?_ _)); exact BK468.out)) : gb468 ≠ gb498)); have n15_ := Aside0.mk (Ne.symm n14_.out); have n16_ := Aside0.mk ((by rw [hg]; exact Nat.ne_of_lt (zkL (by (with_reducible repeat (first | refine zkN ?_ _ | refine zk1 ?_ | refine zkA ?_ _)); exact BK474.out)) : gb474 ≠ gb498)); have n17_ := Aside0.mk (Ne.symm n16_.out); have n18_ := Aside0.mk ((by rw [hg]; exact Nat.ne_of_lt (zkL (by (with_reducible repeat (first | refine zkN ?_ _ | refine zk1 ?_ | refine zkA ?_ _)); exact BK479.out)) : gb479 ≠ gb498)); have n19_ := Aside0.mk (Ne.symm n18_.out); have n20_ := Aside0.mk ((by rw [hg]; exact Nat.ne_of_lt (zkL (by (with_reducible repeat (first | refine zkN ?_ _ | refine zk1 ?_ | refine zkA ?_ _)); exact BK497.out)) : gb497 ≠ gb498)); have n21_ := Aside0.mk (Ne.symm n20_.out); clear BK466; clear BK467; clear BK468; clear BK474; clear BK479; clear BK497; clear HB; have BK466 := n0_; have BK467 := n1_; have BK468 := n2_; have BK474 := n3_; have BK479 := n4_; have BK497 := n5_; have HB := n6_; have BK498 := n7_; have GW498 := n8_; have GE498 := n9_; have NB466_498 := n10_; have NB498_466 := n11_; have NB467_498 := n12_; have NB498_467 := n13_; have NB468_498 := n14_; have NB498_468 := n15_; have NB474_498 := n16_; have NB498_474 := n17_; have NB479_498 := n18_; have NB498_479 := n19_; have NB497_498 := n20_; have NB498_497 := n21_; clear n0_ n1_ n2_ n3_ n4_ n5_ n6_ n7_ n8_ n9_ n10_ n11_ n12_ n13_ n14_ n15_ n16_ n17_ n18_ n19_ n20_ n21_; clear hb hbox hg; have hnb76 := NB497_466.out; have hnc76 := NB466_497.out; have hnb77 := NB497_467.out; have hnc77 := NB467_497.out; have hnb78 := NB497_468.out; have hnc78 := NB468_497.out; have hnb79 := NB497_474.out; have hnc79 := NB474_497.out; have hnb80 := NB497_479.out; have hnc80 := NB479_497.out; have hnb81 := NB497_498.out; have hnc81 := NB498_497.out; obtain ⟨hcz82_0, hcz82_1, hcz82_2, hfz82_0, hfz82_1, hfz82_2⟩ := zc3 BK497.out; have hnb83 := NB498_466.out; have hnc83 := NB466_498.out; have hnb84 := NB498_467.out; have hnc84 := NB467_498.out; have hnb85 := NB498_468.out; have hnc85 := NB468_498.out; have hnb86 := NB498_474.out; have hnc86 := NB474_498.out; have hnb87 := NB498_479.out; have hnc87 := NB479_498.out; obtain ⟨hcz88_0, hcz88_1, hcz88_2, hfz88_0, hfz88_1, hfz88_2⟩ := zc3 BK498.out; obtain ⟨hcz89_0, hcz89_1, hcz89_2, hfz89_0, hfz89_1, hfz89_2⟩ := zc3 BK466.out) | ((with_reducible refine gate_callee (f := 36) rfl ?_); refine goesL_ (some 61) rfl rfl Try.func36 (by kernel_rfl) rfl #[.agg #[.int .u64 a0_0, .int .u64 a0_1, .int .i64 a0_2]] rfl (by (try simp only [List.map_toArray, List.map_cons, List.map_nil]); first | done | rfl | (simp only [List.length_drop, List.length_take]; rfl)) ?_; (with_reducible refine (tenancyref01_Halves.calls kj7 a0_0 a0_1 a0_2 t499 t500 t501 t502 t503 t504 t505 _ A56.out).mono ?_); rintro e w90 ⟨rfl, hb⟩; refine ⟨_, rfl, ?_⟩; have n0_ := Aside0.mk (zkB (g := gb466) (o := .cells #[.int .u64 a0_0, .int .u64 a0_1, .int .i64 a0_2] 33 (0, 0)) (by (with_reducible repeat (first | refine zkN ?_ _ | refine zk1 ?_ | refine zkA ?_ _)); refine blk_far ?_ NB466_498.out _; (with_reducible repeat (first | refine zkN ?_ _ | refine zk1 ?_ | refine zkA ?_ _)); refine blk_far ?_ NB466_498.out _; (with_reducible repeat (first | refine zkN ?_ _ | refine zk1 ?_ | refine zkA ?_ _)); refine blk_far ?_ NB466_498.out _; (with_reducible repeat (first | refine zkN ?_ _ | refine zk1 ?_ | refine zkA ?_ _)); refine blk_far ?_ NB466_497.out _; (with_reducible repeat (first | refine zkN ?_ _ | refine zk1 ?_ | refine zkA ?_ _)); refine blk_far ?_ NB466_497.out _; (with_reducible repeat (first | refine zkN ?_ _ | refine zk1 ?_ | refine zkA ?_ _)); refine blk_far ?_ NB466_497.out _; (with_reducible repeat (first | refine zkN ?_ _ | refine zk1 ?_ | refine zkA ?_ _)); exact BK466.out) hb); have n1_ := Aside0.mk (zkB (g := gb467) (o := .cells #[.int .u64 a1_0, .int .u64 a1_1, .int .i64 a1_2] 33 (0, 0)) (by (with_reducible repeat (first | refine zkN ?_ _ | refine zk1 ?_ | refine zkA ?_ _)); refine blk_far ?_ NB467_498.out _; (with_reducible repeat (first | refine zkN ?_ _ | refine zk1 ?_ | refine zkA ?_ _)); refine blk_far ?_ NB467_498.out _; (with_reducible repeat (first | refine zkN ?_ _ | refine zk1 ?_ | refine zkA ?_ _)); refine blk_far ?_ NB467_498.out _; (with_reducible repeat (first | refine zkN ?_ _ | refine zk1 ?_ | refine zkA ?_ _)); refine blk_far ?_ NB467_497.out _; (with_reducible repeat (first | refine zkN ?_ _ | refine zk1 ?_ | refine zkA ?_ _)); refine blk_far ?_ NB467_497.out _; (with_reducible repeat (first | refine zkN ?_ _ | refine zk1 ?_ | refine zkA ?_ _)); refine blk_far ?_ NB467_497.out _; (with_reducible repeat (first | refine zkN ?_ _ | refine zk1 ?_ | refine zkA ?_ _)); exact BK467.out) hb); have n2_ := Aside0.mk (zkB (g := gb468) (o := .cells #[.int .u64 a2_0, .int .u64 a2_1] 24 (0, 0)) (by (with_reducible repeat (first | refine zkN ?_ _ | refine zk1 ?_ | refine zkA ?_ _)); refine blk_far ?_ NB468_498.out _; (with_reducible repeat (first | refine zkN ?_ _ | refine zk1 ?_ | refine zkA ?_ _)); refine blk_far ?_ NB468_498.out _; (with_reducible repeat (first | refine zkN ?_ _ | refine zk1 ?_ | refine zkA ?_ _)); refine blk_far ?_ NB468_498.out _; (with_reducible repeat (first | refine zkN ?_ _ | refine zk1 ?_ | refine zkA ?_ _)); refine blk_far ?_ NB468_497.out _; (with_reducible repeat (first | refine zkN ?_ _ | refine zk1 ?_ | refine zkA ?_ _)); refine blk_far ?_ NB468_497.out _; (with_reducible repeat (first | refine zkN ?_ _ | refine zk1 ?_ | refine zkA ?_ _)); refine blk_far ?_ NB468_497.out _; (with_reducible repeat (first | refine zkN ?_ _ | refine zk1 ?_ | refine zkA ?_ _)); exact BK468.out) hb); have n3_ := Aside0.mk (zkB (g := gb474) (o := .cells #[.int .u64 t470, .int .u64 t471, .int .i64 t472] 33 (0, 0)) (by (with_reducible repeat (first | refine zkN ?_ _ | refine zk1 ?_ | refine zkA ?_ _)); refine blk_far ?_ NB474_498.out _; (with_reducible repeat (first | refine zkN ?_ _ | refine zk1 ?_ | refine zkA ?_ _)); refine blk_far ?_ NB474_498.out _; (with_reducible repeat (first | refine zkN ?_ _ | refine zk1 ?_ | refine zkA ?_ _)); refine blk_far ?_ NB474_498.out _; (with_reducible repeat (first | refine zkN ?_ _ | refine zk1 ?_ | refine zkA ?_ _)); refine blk_far ?_ NB474_497.out _; (with_reducible repeat (first | refine zkN ?_ _ | refine zk1 ?_ | refine zkA ?_ _)); refine blk_far ?_ NB474_497.out _; (with_reducible repeat (first | refine zkN ?_ _ | refine zk1 ?_ | refine zkA ?_ _)); refine blk_far ?_ NB474_497.out _; (with_reducible repeat (first | refine zkN ?_ _ | refine zk1 ?_ | refine zkA ?_ _)); exact BK474.out) hb); have n4_ := Aside0.mk (zkB (g := gb479) (o := .cells #[.int .u64 t475, .int .u64 t476, .int .i64 t477] 33 (0, 0)) (by (with_reducible repeat (first | refine zkN ?_ _ | refine zk1 ?_ | refine zkA ?_ _)); refine blk_far ?_ NB479_498.out _; (with_reducible repeat (first | refine zkN ?_ _ | refine zk1 ?_ | refine zkA ?_ _)); refine blk_far ?_ NB479_498.out _; (with_reducible repeat (first | refine zkN ?_ _ | refine zk1 ?_ | refine zkA ?_ _)); refine blk_far ?_ NB479_498.out _; (with_reducible repeat (first | refine zkN ?_ _ | refine zk1 ?_ | refine zkA ?_ _)); refine blk_far ?_ NB479_497.out _; (with_reducible repeat (first | refine zkN ?_ _ | refine zk1 ?_ | refine zkA ?_ _)); refine blk_far ?_ NB479_497.out _; (with_reducible repeat (first | refine zkN ?_ _ | refine zk1 ?_ | refine zkA ?_ _)); refine blk_far ?_ NB479_497.out _; (with_reducible repeat (first | refine zkN ?_ _ | refine zk1 ?_ | refine zkA ?_ _)); exact BK479.out) hb); have n5_ := Aside0.mk (zkB (g := gb497) (o := .cells #[.int .u64 t490, .int .u64 t491, .int .i64 t492] 33 (0, 0)) (by (with_reducible repeat (first | refine zkN ?_ _ | refine zk1 ?_ | refine zkA ?_ _)); refine blk_far ?_ NB497_498.out _; (with_reducible repeat (first | refine zkN ?_ _ | refine zk1 ?_ | refine zkA ?_ _)); refine blk_far ?_ NB497_498.out _; (with_reducible repeat (first | refine zkN ?_ _ | refine zk1 ?_ | refine zkA ?_ _)); refine blk_far ?_ NB497_498.out _; (with_reducible repeat (first | refine zkN ?_ _ | refine zk1 ?_ | refine zkA ?_ _)); refine zkP (cs := #[.int .u64 t490, .int .u64 t491, .int .i64 0]) ?_ 2 _ rfl; (with_reducible repeat (first | refine zkN ?_ _ | refine zk1 ?_ | refine zkA ?_ _)); refine zkP (cs := #[.int .u64 t490, .int .u64 0, .int .i64 0]) ?_ 1 _ rfl; (with_reducible repeat (first | refine zkN ?_ _ | refine zk1 ?_ | refine zkA ?_ _)); refine zkP (cs := #[.int .u64 0, .int .u64 0, .int .i64 0]) ?_ 0 _ rfl; (with_reducible repeat (first | refine zkN ?_ _ | refine zk1 ?_ | refine zkA ?_ _)); exact BK497.out) hb); have n6_ := Aside0.mk (zkB (g := gb498) (o := .cells #[.int .u64 t493, .int .u64 t494, .int .i64 t495] 33 (0, 0)) (by (with_reducible repeat (first | refine zkN ?_ _ | refine zk1 ?_ | refine zkA ?_ _)); refine zkP (cs := #[.int .u64 t493, .int .u64 t494, .int .i64 0]) ?_ 2 _ rfl; (with_reducible repeat (first | refine zkN ?_ _ | refine zk1 ?_ | refine zkA ?_ _)); refine zkP (cs := #[.int .u64 t493, .int .u64 0, .int .i64 0]) ?_ 1 _ rfl; (with_reducible repeat (first | refine zkN ?_ _ | refine zk1 ?_ | refine zkA ?_ _)); refine zkP (cs := #[.int .u64 0, .int .u64 0, .int .i64 0]) ?_ 0 _ rfl; (with_reducible repeat (first | refine zkN ?_ _ | refine zk1 ?_ | refine zkA ?_ _)); refine blk_far ?_ NB498_497.out _; (with_reducible repeat (first | refine zkN ?_ _ | refine zk1 ?_ | refine zkA ?_ _)); refine blk_far ?_ NB498_497.out _; (with_reducible repeat (first | refine zkN ?_ _ | refine zk1 ?_ | refine zkA ?_ _)); refine blk_far ?_ NB498_497.out _; (with_reducible repeat (first | refine zkN ?_ _ | refine zk1 ?_ | refine zkA ?_ _)); exact BK498.out) hb); have n7_ := Aside0.mk (zbP (by repeat (first | (with_reducible first | exact HB.out | apply zbA | apply zbN | apply zb1 | refine zbS ?_ GE466.out | refine zbS ?_ GE467.out | refine zbS ?_ GE468.out | refine zbS ?_ GE474.out | refine zbS ?_ GE479.out | refine zbS ?_ GE497.out | refine zbS ?_ GE498.out) | exact HB.out)) hb); clear BK466; clear BK467; clear BK468; clear BK474; clear BK479; clear BK497; clear BK498; clear HB; have BK466 := n0_; have BK467 := n1_; have BK468 := n2_; have BK474 := n3_; have BK479 := n4_; have BK497 := n5_; have BK498 := n6_; have HB := n7_; clear n0_ n1_ n2_ n3_ n4_ n5_ n6_ n7_; (try clear hb); (try clear hb2); (try clear hk); (try clear hi)) | ((with_reducible refine gate_dst (N := 13) rfl ?_); refine box_event ?hg (N := 13) ?hd (cs := #[.int .u64 0, .int .u64 0, .int .i64 0]) (t := 33) ?hr ?_; (case hd => rfl); (case hg => rfl); (case hr => first | (go_simp; done) | (go_simp; rfl)); intro gb506 hg w91 hbox hb; have n0_ := Aside0.mk (zkB (by (with_reducible repeat (first | refine zkN ?_ _ | refine zk1 ?_ | refine zkA ?_ _)); exact BK466.out) hb); have n1_ := Aside0.mk (zkB (by (with_reducible repeat (first | refine zkN ?_ _ | refine zk1 ?_ | refine zkA ?_ _)); exact BK467.out) hb); have n2_ := Aside0.mk (zkB (by (with_reducible repeat (first | refine zkN ?_ _ | refine zk1 ?_ | refine zkA ?_ _)); exact BK468.out) hb); have n3_ := Aside0.mk (zkB (by (with_reducible repeat (first | refine zkN ?_ _ | refine zk1 ?_ | refine zkA ?_ _)); exact BK474.out) hb); have n4_ := Aside0.mk (zkB (by (with_reducible repeat (first | refine zkN ?_ _ | refine zk1 ?_ | refine zkA ?_ _)); exact BK479.out) hb); have n5_ := Aside0.mk (zkB (by (with_reducible repeat (first | refine zkN ?_ _ | refine zk1 ?_ | refine zkA ?_ _)); exact BK497.out) hb); have n6_ := Aside0.mk (zkB (by (with_reducible repeat (first | refine zkN ?_ _ | refine zk1 ?_ | refine zkA ?_ _)); exact BK498.out) hb); have n7_ := Aside0.mk (zbP (by repeat (first | (with_reducible first | exact HB.out | apply zbA | apply zbN | apply zb1 | refine zbS ?_ GE466.out | refine zbS ?_ GE467.out | refine zbS ?_ GE468.out | refine zbS ?_ GE474.out | refine zbS ?_ GE479.out | refine zbS ?_ GE497.out | refine zbS ?_ GE498.out) | exact HB.out)) hb); have n8_ := Aside0.mk (hbox); have n9_ := Aside0.mk ((by rw [hg]; exact (zbZ (by repeat (first | (with_reducible first | exact HB.out | apply zbA | apply zbN | apply zb1 | refine zbS ?_ GE466.out | refine zbS ?_ GE467.out | refine zbS ?_ GE468.out | refine zbS ?_ GE474.out | refine zbS ?_ GE479.out | refine zbS ?_ GE497.out | refine zbS ?_ GE498.out) | exact HB.out))) : w.heap.size ≤ gb506)); have n10_ := n9_; have n11_ := Aside0.mk ((by rw [hg]; exact Nat.ne_of_lt (zkL (by (with_reducible repeat (first | refine zkN ?_ _ | refine zk1 ?_ | refine zkA ?_ _)); exact BK466.out)) : gb466 ≠ gb506)); have n12_ := Aside0.mk (Ne.symm n11_.out); have n13_ := Aside0.mk ((by rw [hg]; exact Nat.ne_of_lt (zkL (by (with_reducible repeat (first | refine zkN ?_ _ | refine zk1 ?_ | refine zkA ?_ _)); exact BK467.out)) : gb467 ≠ gb506)); have n14_ := Aside0.mk (Ne.symm n13_.out); have n15_ := Aside0.mk ((by rw [hg]; exact Nat.ne_of_lt (zkL (by (with_reducible repeat (first | refine zkN ?_ _ | refine zk1 ?_ | refine zkA ?_ _)); exact BK468.out)) : gb468 ≠ gb506)); have n16_ := Aside0.mk (Ne.symm n15_.out); have n17_ := Aside0.mk ((by rw [hg]; exact Nat.ne_of_lt (zkL (by (with_reducible repeat (first | refine zkN ?_ _ | refine zk1 ?_ | refine zkA ?_ _)); exact BK474.out)) : gb474 ≠ gb506)); have n18_ := Aside0.mk (Ne.symm n17_.out); have n19_ := Aside0.mk ((by rw [hg]; exact Nat.ne_of_lt (zkL (by (with_reducible repeat (first | refine zkN ?_ _ | refine zk1 ?_ | refine zkA ?_ _)); exact BK479.out)) : gb479 ≠ gb506)); have n20_ := Aside0.mk (Ne.symm n19_.out); have n21_ := Aside0.mk ((by rw [hg]; exact Nat.ne_of_lt (zkL (by (with_reducible repeat (first | refine zkN ?_ _ | refine zk1 ?_ | refine zkA ?_ _)); exact BK497.out)) : gb497 ≠ gb506)); have n22_ := Aside0.mk (Ne.symm n21_.out); have n23_ := Aside0.mk ((by rw [hg]; exact Nat.ne_of_lt (zkL (by (with_reducible repeat (first | refine zkN ?_ _ | refine zk1 ?_ | refine zkA ?_ _)); exact BK498.out)) : gb498 ≠ gb506)); have n24_ := Aside0.mk (Ne.symm n23_.out); clear BK466; clear BK467; clear BK468; clear BK474; clear BK479; clear BK497; clear BK498; clear HB; have BK466 := n0_; have BK467 := n1_; have BK468 := n2_; have BK474 := n3_; have BK479 := n4_; have BK497 := n5_; have BK498 := n6_; have HB := n7_; have BK506 := n8_; have GW506 := n9_; have GE506 := n10_; have NB466_506 := n11_; have NB506_466 := n12_; have NB467_506 := n13_; have NB506_467 := n14_; have NB468_506 := n15_; have NB506_468 := n16_; have NB474_506 := n17_; have NB506_474 := n18_; have NB479_506 := n19_; have NB506_479 := n20_; have NB497_506 := n21_; have NB506_497 := n22_; have NB498_506 := n23_; have NB506_498 := n24_; clear n0_ n1_ n2_ n3_ n4_ n5_ n6_ n7_ n8_ n9_ n10_ n11_ n12_ n13_ n14_ n15_ n16_ n17_ n18_ n19_ n20_ n21_ n22_ n23_ n24_; clear hb hbox hg) | ((with_reducible refine gate_dst (N := 14) rfl ?_); refine box_event ?hg (N := 14) ?hd (cs := #[.int .u64 0, .int .u64 0, .int .i64 0]) (t := 33) ?hr ?_; (case hd => rfl); (case hg => rfl); (case hr => first | (go_simp; done) | (go_simp; rfl)); intro gb507 hg w92 hbox hb; have n0_ := Aside0.mk (zkB (by (with_reducible repeat (first | refine zkN ?_ _ | refine zk1 ?_ | refine zkA ?_ _)); exact BK466.out) hb); have n1_ := Aside0.mk (zkB (by (with_reducible repeat (first | refine zkN ?_ _ | refine zk1 ?_ | refine zkA ?_ _)); exact BK467.out) hb); have n2_ := Aside0.mk (zkB (by (with_reducible repeat (first | refine zkN ?_ _ | refine zk1 ?_ | refine zkA ?_ _)); exact BK468.out) hb); have n3_ := Aside0.mk (zkB (by (with_reducible repeat (first | refine zkN ?_ _ | refine zk1 ?_ | refine zkA ?_ _)); exact BK474.out) hb); have n4_ := Aside0.mk (zkB (by (with_reducible repeat (first | refine zkN ?_ _ | refine zk1 ?_ | refine zkA ?_ _)); exact BK479.out) hb); have n5_ := Aside0.mk (zkB (by (with_reducible repeat (first | refine zkN ?_ _ | refine zk1 ?_ | refine zkA ?_ _)); exact BK497.out) hb); have n6_ := Aside0.mk (zkB (by (with_reducible repeat (first | refine zkN ?_ _ | refine zk1 ?_ | refine zkA ?_ _)); exact BK498.out) hb); have n7_ := Aside0.mk (zkB (by (with_reducible repeat (first | refine zkN ?_ _ | refine zk1 ?_ | refine zkA ?_ _)); exact BK506.out) hb); have n8_ := Aside0.mk (zbP (by repeat (first | (with_reducible first | exact HB.out | apply zbA | apply zbN | apply zb1 | refine zbS ?_ GE466.out | refine zbS ?_ GE467.out | refine zbS ?_ GE468.out | refine zbS ?_ GE474.out | refine zbS ?_ GE479.out | refine zbS ?_ GE497.out | refine zbS ?_ GE498.out | refine zbS ?_ GE506.out) | exact HB.out)) hb); have n9_ := Aside0.mk (hbox); have n10_ := Aside0.mk ((by rw [hg]; exact (zbZ (by repeat (first | (with_reducible first | exact HB.out | apply zbA | apply zbN | apply zb1 | refine zbS ?_ GE466.out | refine zbS ?_ GE467.out | refine zbS ?_ GE468.out | refine zbS ?_ GE474.out | refine zbS ?_ GE479.out | refine zbS ?_ GE497.out | refine zbS ?_ GE498.out | refine zbS ?_ GE506.out) | exact HB.out))) : w.heap.size ≤ gb507)); have n11_ := n10_; have n12_ := Aside0.mk ((by rw [hg]; exact Nat.ne_of_lt (zkL (by (with_reducible repeat (first | refine zkN ?_ _ | refine zk1 ?_ | refine zkA ?_ _)); exact BK466.out)) : gb466 ≠ gb507)); have n13_ := Aside0.mk (Ne.symm n12_.out); have n14_ := Aside0.mk ((by rw [hg]; exact Nat.ne_of_lt (zkL (by (with_reducible repeat (first | refine zkN ?_ _ | refine zk1 ?_ | refine zkA ?_ _)); exact BK467.out)) : gb467 ≠ gb507)); have n15_ := Aside0.mk (Ne.symm n14_.out); have n16_ := Aside0.mk ((by rw [hg]; exact Nat.ne_of_lt (zkL (by (with_reducible repeat (first | refine zkN ?_ _ | refine zk1 ?_ | refine zkA ?_ _)); exact BK468.out)) : gb468 ≠ gb507)); have n17_ := Aside0.mk (Ne.symm n16_.out); have n18_ := Aside0.mk ((by rw [hg]; exact Nat.ne_of_lt (zkL (by (with_reducible repeat (first | refine zkN ?_ _ | refine zk1 ?_ | refine zkA ?_ _)); exact BK474.out)) : gb474 ≠ gb507)); have n19_ := Aside0.mk (Ne.symm n18_.out); have n20_ := Aside0.mk ((by rw [hg]; exact Nat.ne_of_lt (zkL (by (with_reducible repeat (first | refine zkN ?_ _ | refine zk1 ?_ | refine zkA ?_ _)); exact BK479.out)) : gb479 ≠ gb507)); have n21_ := Aside0.mk (Ne.symm n20_.out); have n22_ := Aside0.mk ((by rw [hg]; exact Nat.ne_of_lt (zkL (by (with_reducible repeat (first | refine zkN ?_ _ | refine zk1 ?_ | refine zkA ?_ _)); exact BK497.out)) : gb497 ≠ gb507)); have n23_ := Aside0.mk (Ne.symm n22_.out); have n24_ := Aside0.mk ((by rw [hg]; exact Nat.ne_of_lt (zkL (by (with_reducible repeat (first | refine zkN ?_ _ | refine zk1 ?_ | refine zkA ?_ _)); exact BK498.out)) : gb498 ≠ gb507)); have n25_ := Aside0.mk (Ne.symm n24_.out); have n26_ := Aside0.mk ((by rw [hg]; exact Nat.ne_of_lt (zkL (by (with_reducible repeat (first | refine zkN ?_ _ | refine zk1 ?_ | refine zkA ?_ _)); exact BK506.out)) : gb506 ≠ gb507)); have n27_ := Aside0.mk (Ne.symm n26_.out); clear BK466; clear BK467; clear BK468; clear BK474; clear BK479; clear BK497; clear BK498; clear BK506; clear HB; have BK466 := n0_; have BK467 := n1_; have BK468 := n2_; have BK474 := n3_; have BK479 := n4_; have BK497 := n5_; have BK498 := n6_; have BK506 := n7_; have HB := n8_; have BK507 := n9_; have GW507 := n10_; have GE507 := n11_; have NB466_507 := n12_; have NB507_466 := n13_; have NB467_507 := n14_; have NB507_467 := n15_; have NB468_507 := n16_; have NB507_468 := n17_; have NB474_507 := n18_; have NB507_474 := n19_; have NB479_507 := n20_; have NB507_479 := n21_; have NB497_507 := n22_; have NB507_497 := n23_; have NB498_507 := n24_; have NB507_498 := n25_; have NB506_507 := n26_; have NB507_506 := n27_; clear n0_ n1_ n2_ n3_ n4_ n5_ n6_ n7_ n8_ n9_ n10_ n11_ n12_ n13_ n14_ n15_ n16_ n17_ n18_ n19_ n20_ n21_ n22_ n23_ n24_ n25_ n26_ n27_; clear hb hbox hg; have hnb93 := NB506_466.out; have hnc93 := NB466_506.out; have hnb94 := NB506_467.out; have hnc94 := NB467_506.out; have hnb95 := NB506_468.out; have hnc95 := NB468_506.out; have hnb96 := NB506_474.out; have hnc96 := NB474_506.out; have hnb97 := NB506_479.out; have hnc97 := NB479_506.out; have hnb98 := NB506_497.out; have hnc98 := NB497_506.out; have hnb99 := NB506_498.out; have hnc99 := NB498_506.out; have hnb100 := NB506_507.out; have hnc100 := NB507_506.out; obtain ⟨hcz101_0, hcz101_1, hcz101_2, hfz101_0, hfz101_1, hfz101_2⟩ := zc3 BK506.out; have hnb102 := NB507_466.out; have hnc102 := NB466_507.out; have hnb103 := NB507_467.out; have hnc103 := NB467_507.out; have hnb104 := NB507_468.out; have hnc104 := NB468_507.out; have hnb105 := NB507_474.out; have hnc105 := NB474_507.out; have hnb106 := NB507_479.out; have hnc106 := NB479_507.out; have hnb107 := NB507_497.out; have hnc107 := NB497_507.out; have hnb108 := NB507_498.out; have hnc108 := NB498_507.out; obtain ⟨hcz109_0, hcz109_1, hcz109_2, hfz109_0, hfz109_1, hfz109_2⟩ := zc3 BK507.out))
          have n0_ : Aside0 (((((((w92.setCell ⟨gb506, 0, none⟩ (.int .u64 t499)).setCell ⟨gb506, 1, none⟩ (.int .u64 t500)).setCell ⟨gb506, 2, none⟩ (.int .i64 t501)).setCell ⟨gb507, 0, none⟩ (.int .u64 t502)).setCell ⟨gb507, 1, none⟩ (.int .u64 t503)).setCell ⟨gb507, 2, none⟩ (.int .i64 t504)).heap[gb466]? = some (.cells #[.int .u64 a0_0, .int .u64 a0_1, .int .i64 a0_2] 33 (0, 0))) := ⟨by (with_reducible repeat (first | refine zkN ?_ _ | refine zk1 ?_ | refine zkA ?_ _)); refine blk_far ?_ NB466_507.out _; (with_reducible repeat (first | refine zkN ?_ _ | refine zk1 ?_ | refine zkA ?_ _)); refine blk_far ?_ NB466_507.out _; (with_reducible repeat (first | refine zkN ?_ _ | refine zk1 ?_ | refine zkA ?_ _)); refine blk_far ?_ NB466_507.out _; (with_reducible repeat (first | refine zkN ?_ _ | refine zk1 ?_ | refine zkA ?_ _)); refine blk_far ?_ NB466_506.out _; (with_reducible repeat (first | refine zkN ?_ _ | refine zk1 ?_ | refine zkA ?_ _)); refine blk_far ?_ NB466_506.out _; (with_reducible repeat (first | refine zkN ?_ _ | refine zk1 ?_ | refine zkA ?_ _)); refine blk_far ?_ NB466_506.out _; (with_reducible repeat (first | refine zkN ?_ _ | refine zk1 ?_ | refine zkA ?_ _)); exact BK466.out⟩
          have n1_ : Aside0 (((((((w92.setCell ⟨gb506, 0, none⟩ (.int .u64 t499)).setCell ⟨gb506, 1, none⟩ (.int .u64 t500)).setCell ⟨gb506, 2, none⟩ (.int .i64 t501)).setCell ⟨gb507, 0, none⟩ (.int .u64 t502)).setCell ⟨gb507, 1, none⟩ (.int .u64 t503)).setCell ⟨gb507, 2, none⟩ (.int .i64 t504)).heap[gb467]? = some (.cells #[.int .u64 a1_0, .int .u64 a1_1, .int .i64 a1_2] 33 (0, 0))) := ⟨by (with_reducible repeat (first | refine zkN ?_ _ | refine zk1 ?_ | refine zkA ?_ _)); refine blk_far ?_ NB467_507.out _; (with_reducible repeat (first | refine zkN ?_ _ | refine zk1 ?_ | refine zkA ?_ _)); refine blk_far ?_ NB467_507.out _; (with_reducible repeat (first | refine zkN ?_ _ | refine zk1 ?_ | refine zkA ?_ _)); refine blk_far ?_ NB467_507.out _; (with_reducible repeat (first | refine zkN ?_ _ | refine zk1 ?_ | refine zkA ?_ _)); refine blk_far ?_ NB467_506.out _; (with_reducible repeat (first | refine zkN ?_ _ | refine zk1 ?_ | refine zkA ?_ _)); refine blk_far ?_ NB467_506.out _; (with_reducible repeat (first | refine zkN ?_ _ | refine zk1 ?_ | refine zkA ?_ _)); refine blk_far ?_ NB467_506.out _; (with_reducible repeat (first | refine zkN ?_ _ | refine zk1 ?_ | refine zkA ?_ _)); exact BK467.out⟩
          have n2_ : Aside0 (((((((w92.setCell ⟨gb506, 0, none⟩ (.int .u64 t499)).setCell ⟨gb506, 1, none⟩ (.int .u64 t500)).setCell ⟨gb506, 2, none⟩ (.int .i64 t501)).setCell ⟨gb507, 0, none⟩ (.int .u64 t502)).setCell ⟨gb507, 1, none⟩ (.int .u64 t503)).setCell ⟨gb507, 2, none⟩ (.int .i64 t504)).heap[gb468]? = some (.cells #[.int .u64 a2_0, .int .u64 a2_1] 24 (0, 0))) := ⟨by (with_reducible repeat (first | refine zkN ?_ _ | refine zk1 ?_ | refine zkA ?_ _)); refine blk_far ?_ NB468_507.out _; (with_reducible repeat (first | refine zkN ?_ _ | refine zk1 ?_ | refine zkA ?_ _)); refine blk_far ?_ NB468_507.out _; (with_reducible repeat (first | refine zkN ?_ _ | refine zk1 ?_ | refine zkA ?_ _)); refine blk_far ?_ NB468_507.out _; (with_reducible repeat (first | refine zkN ?_ _ | refine zk1 ?_ | refine zkA ?_ _)); refine blk_far ?_ NB468_506.out _; (with_reducible repeat (first | refine zkN ?_ _ | refine zk1 ?_ | refine zkA ?_ _)); refine blk_far ?_ NB468_506.out _; (with_reducible repeat (first | refine zkN ?_ _ | refine zk1 ?_ | refine zkA ?_ _)); refine blk_far ?_ NB468_506.out _; (with_reducible repeat (first | refine zkN ?_ _ | refine zk1 ?_ | refine zkA ?_ _)); exact BK468.out⟩
          have n3_ : Aside0 (((((((w92.setCell ⟨gb506, 0, none⟩ (.int .u64 t499)).setCell ⟨gb506, 1, none⟩ (.int .u64 t500)).setCell ⟨gb506, 2, none⟩ (.int .i64 t501)).setCell ⟨gb507, 0, none⟩ (.int .u64 t502)).setCell ⟨gb507, 1, none⟩ (.int .u64 t503)).setCell ⟨gb507, 2, none⟩ (.int .i64 t504)).heap[gb474]? = some (.cells #[.int .u64 t470, .int .u64 t471, .int .i64 t472] 33 (0, 0))) := ⟨by (with_reducible repeat (first | refine zkN ?_ _ | refine zk1 ?_ | refine zkA ?_ _)); refine blk_far ?_ NB474_507.out _; (with_reducible repeat (first | refine zkN ?_ _ | refine zk1 ?_ | refine zkA ?_ _)); refine blk_far ?_ NB474_507.out _; (with_reducible repeat (first | refine zkN ?_ _ | refine zk1 ?_ | refine zkA ?_ _)); refine blk_far ?_ NB474_507.out _; (with_reducible repeat (first | refine zkN ?_ _ | refine zk1 ?_ | refine zkA ?_ _)); refine blk_far ?_ NB474_506.out _; (with_reducible repeat (first | refine zkN ?_ _ | refine zk1 ?_ | refine zkA ?_ _)); refine blk_far ?_ NB474_506.out _; (with_reducible repeat (first | refine zkN ?_ _ | refine zk1 ?_ | refine zkA ?_ _)); refine blk_far ?_ NB474_506.out _; (with_reducible repeat (first | refine zkN ?_ _ | refine zk1 ?_ | refine zkA ?_ _)); exact BK474.out⟩
          have n4_ : Aside0 (((((((w92.setCell ⟨gb506, 0, none⟩ (.int .u64 t499)).setCell ⟨gb506, 1, none⟩ (.int .u64 t500)).setCell ⟨gb506, 2, none⟩ (.int .i64 t501)).setCell ⟨gb507, 0, none⟩ (.int .u64 t502)).setCell ⟨gb507, 1, none⟩ (.int .u64 t503)).setCell ⟨gb507, 2, none⟩ (.int .i64 t504)).heap[gb479]? = some (.cells #[.int .u64 t475, .int .u64 t476, .int .i64 t477] 33 (0, 0))) := ⟨by (with_reducible repeat (first | refine zkN ?_ _ | refine zk1 ?_ | refine zkA ?_ _)); refine blk_far ?_ NB479_507.out _; (with_reducible repeat (first | refine zkN ?_ _ | refine zk1 ?_ | refine zkA ?_ _)); refine blk_far ?_ NB479_507.out _; (with_reducible repeat (first | refine zkN ?_ _ | refine zk1 ?_ | refine zkA ?_ _)); refine blk_far ?_ NB479_507.out _; (with_reducible repeat (first | refine zkN ?_ _ | refine zk1 ?_ | refine zkA ?_ _)); refine blk_far ?_ NB479_506.out _; (with_reducible repeat (first | refine zkN ?_ _ | refine zk1 ?_ | refine zkA ?_ _)); refine blk_far ?_ NB479_506.out _; (with_reducible repeat (first | refine zkN ?_ _ | refine zk1 ?_ | refine zkA ?_ _)); refine blk_far ?_ NB479_506.out _; (with_reducible repeat (first | refine zkN ?_ _ | refine zk1 ?_ | refine zkA ?_ _)); exact BK479.out⟩
          have n5_ : Aside0 (((((((w92.setCell ⟨gb506, 0, none⟩ (.int .u64 t499)).setCell ⟨gb506, 1, none⟩ (.int .u64 t500)).setCell ⟨gb506, 2, none⟩ (.int .i64 t501)).setCell ⟨gb507, 0, none⟩ (.int .u64 t502)).setCell ⟨gb507, 1, none⟩ (.int .u64 t503)).setCell ⟨gb507, 2, none⟩ (.int .i64 t504)).heap[gb497]? = some (.cells #[.int .u64 t490, .int .u64 t491, .int .i64 t492] 33 (0, 0))) := ⟨by (with_reducible repeat (first | refine zkN ?_ _ | refine zk1 ?_ | refine zkA ?_ _)); refine blk_far ?_ NB497_507.out _; (with_reducible repeat (first | refine zkN ?_ _ | refine zk1 ?_ | refine zkA ?_ _)); refine blk_far ?_ NB497_507.out _; (with_reducible repeat (first | refine zkN ?_ _ | refine zk1 ?_ | refine zkA ?_ _)); refine blk_far ?_ NB497_507.out _; (with_reducible repeat (first | refine zkN ?_ _ | refine zk1 ?_ | refine zkA ?_ _)); refine blk_far ?_ NB497_506.out _; (with_reducible repeat (first | refine zkN ?_ _ | refine zk1 ?_ | refine zkA ?_ _)); refine blk_far ?_ NB497_506.out _; (with_reducible repeat (first | refine zkN ?_ _ | refine zk1 ?_ | refine zkA ?_ _)); refine blk_far ?_ NB497_506.out _; (with_reducible repeat (first | refine zkN ?_ _ | refine zk1 ?_ | refine zkA ?_ _)); exact BK497.out⟩
          have n6_ : Aside0 (((((((w92.setCell ⟨gb506, 0, none⟩ (.int .u64 t499)).setCell ⟨gb506, 1, none⟩ (.int .u64 t500)).setCell ⟨gb506, 2, none⟩ (.int .i64 t501)).setCell ⟨gb507, 0, none⟩ (.int .u64 t502)).setCell ⟨gb507, 1, none⟩ (.int .u64 t503)).setCell ⟨gb507, 2, none⟩ (.int .i64 t504)).heap[gb498]? = some (.cells #[.int .u64 t493, .int .u64 t494, .int .i64 t495] 33 (0, 0))) := ⟨by (with_reducible repeat (first | refine zkN ?_ _ | refine zk1 ?_ | refine zkA ?_ _)); refine blk_far ?_ NB498_507.out _; (with_reducible repeat (first | refine zkN ?_ _ | refine zk1 ?_ | refine zkA ?_ _)); refine blk_far ?_ NB498_507.out _; (with_reducible repeat (first | refine zkN ?_ _ | refine zk1 ?_ | refine zkA ?_ _)); refine blk_far ?_ NB498_507.out _; (with_reducible repeat (first | refine zkN ?_ _ | refine zk1 ?_ | refine zkA ?_ _)); refine blk_far ?_ NB498_506.out _; (with_reducible repeat (first | refine zkN ?_ _ | refine zk1 ?_ | refine zkA ?_ _)); refine blk_far ?_ NB498_506.out _; (with_reducible repeat (first | refine zkN ?_ _ | refine zk1 ?_ | refine zkA ?_ _)); refine blk_far ?_ NB498_506.out _; (with_reducible repeat (first | refine zkN ?_ _ | refine zk1 ?_ | refine zkA ?_ _)); exact BK498.out⟩
          have n7_ : Aside0 (((((((w92.setCell ⟨gb506, 0, none⟩ (.int .u64 t499)).setCell ⟨gb506, 1, none⟩ (.int .u64 t500)).setCell ⟨gb506, 2, none⟩ (.int .i64 t501)).setCell ⟨gb507, 0, none⟩ (.int .u64 t502)).setCell ⟨gb507, 1, none⟩ (.int .u64 t503)).setCell ⟨gb507, 2, none⟩ (.int .i64 t504)).heap[gb506]? = some (.cells #[.int .u64 t499, .int .u64 t500, .int .i64 t501] 33 (0, 0))) := ⟨by (with_reducible repeat (first | refine zkN ?_ _ | refine zk1 ?_ | refine zkA ?_ _)); refine blk_far ?_ NB506_507.out _; (with_reducible repeat (first | refine zkN ?_ _ | refine zk1 ?_ | refine zkA ?_ _)); refine blk_far ?_ NB506_507.out _; (with_reducible repeat (first | refine zkN ?_ _ | refine zk1 ?_ | refine zkA ?_ _)); refine blk_far ?_ NB506_507.out _; (with_reducible repeat (first | refine zkN ?_ _ | refine zk1 ?_ | refine zkA ?_ _)); refine zkP (cs := #[.int .u64 t499, .int .u64 t500, .int .i64 0]) ?_ 2 _ rfl; (with_reducible repeat (first | refine zkN ?_ _ | refine zk1 ?_ | refine zkA ?_ _)); refine zkP (cs := #[.int .u64 t499, .int .u64 0, .int .i64 0]) ?_ 1 _ rfl; (with_reducible repeat (first | refine zkN ?_ _ | refine zk1 ?_ | refine zkA ?_ _)); refine zkP (cs := #[.int .u64 0, .int .u64 0, .int .i64 0]) ?_ 0 _ rfl; (with_reducible repeat (first | refine zkN ?_ _ | refine zk1 ?_ | refine zkA ?_ _)); exact BK506.out⟩
          have n8_ : Aside0 (((((((w92.setCell ⟨gb506, 0, none⟩ (.int .u64 t499)).setCell ⟨gb506, 1, none⟩ (.int .u64 t500)).setCell ⟨gb506, 2, none⟩ (.int .i64 t501)).setCell ⟨gb507, 0, none⟩ (.int .u64 t502)).setCell ⟨gb507, 1, none⟩ (.int .u64 t503)).setCell ⟨gb507, 2, none⟩ (.int .i64 t504)).heap[gb507]? = some (.cells #[.int .u64 t502, .int .u64 t503, .int .i64 t504] 33 (0, 0))) := ⟨by (with_reducible repeat (first | refine zkN ?_ _ | refine zk1 ?_ | refine zkA ?_ _)); refine zkP (cs := #[.int .u64 t502, .int .u64 t503, .int .i64 0]) ?_ 2 _ rfl; (with_reducible repeat (first | refine zkN ?_ _ | refine zk1 ?_ | refine zkA ?_ _)); refine zkP (cs := #[.int .u64 t502, .int .u64 0, .int .i64 0]) ?_ 1 _ rfl; (with_reducible repeat (first | refine zkN ?_ _ | refine zk1 ?_ | refine zkA ?_ _)); refine zkP (cs := #[.int .u64 0, .int .u64 0, .int .i64 0]) ?_ 0 _ rfl; (with_reducible repeat (first | refine zkN ?_ _ | refine zk1 ?_ | refine zkA ?_ _)); refine blk_far ?_ NB507_506.out _; (with_reducible repeat (first | refine zkN ?_ _ | refine zk1 ?_ | refine zkA ?_ _)); refine blk_far ?_ NB507_506.out _; (with_reducible repeat (first | refine zkN ?_ _ | refine zk1 ?_ | refine zkA ?_ _)); refine blk_far ?_ NB507_506.out _; (with_reducible repeat (first | refine zkN ?_ _ | refine zk1 ?_ | refine zkA ?_ _)); exact BK507.out⟩
          have n9_ : Aside0 (Below w.heap.size w ((((((w92.setCell ⟨gb506, 0, none⟩ (.int .u64 t499)).setCell ⟨gb506, 1, none⟩ (.int .u64 t500)).setCell ⟨gb506, 2, none⟩ (.int .i64 t501)).setCell ⟨gb507, 0, none⟩ (.int .u64 t502)).setCell ⟨gb507, 1, none⟩ (.int .u64 t503)).setCell ⟨gb507, 2, none⟩ (.int .i64 t504))) := ⟨by repeat (first | (with_reducible first | exact HB.out | apply zbA | apply zbN | apply zb1 | refine zbS ?_ GE466.out | refine zbS ?_ GE467.out | refine zbS ?_ GE468.out | refine zbS ?_ GE474.out | refine zbS ?_ GE479.out | refine zbS ?_ GE497.out | refine zbS ?_ GE498.out | refine zbS ?_ GE506.out | refine zbS ?_ GE507.out) | exact HB.out)⟩
          (try clear BK466)
          (try clear BK467)
          (try clear BK468)
          (try clear BK474)
          (try clear BK479)
          (try clear BK497)
          (try clear BK498)
          (try clear BK506)
          (try clear BK507)
          (try clear HB)
          generalize ((((((w92.setCell ⟨gb506, 0, none⟩ (.int .u64 t499)).setCell ⟨gb506, 1, none⟩ (.int .u64 t500)).setCell ⟨gb506, 2, none⟩ (.int .i64 t501)).setCell ⟨gb507, 0, none⟩ (.int .u64 t502)).setCell ⟨gb507, 1, none⟩ (.int .u64 t503)).setCell ⟨gb507, 2, none⟩ (.int .i64 t504)) = w110 at n0_ n1_ n2_ n3_ n4_ n5_ n6_ n7_ n8_ n9_ ⊢
          have BK466 := n0_
          have BK467 := n1_
          have BK468 := n2_
          have BK474 := n3_
          have BK479 := n4_
          have BK497 := n5_
          have BK498 := n6_
          have BK506 := n7_
          have BK507 := n8_
          have HB := n9_
          clear n0_ n1_ n2_ n3_ n4_ n5_ n6_ n7_ n8_ n9_
          have n0_ := Aside0.mk (zk1 BK466.out)
          have n1_ := Aside0.mk (zk1 BK467.out)
          have n2_ := Aside0.mk (zk1 BK468.out)
          have n3_ := Aside0.mk (zk1 BK474.out)
          have n4_ := Aside0.mk (zk1 BK479.out)
          have n5_ := Aside0.mk (zk1 BK497.out)
          have n6_ := Aside0.mk (zk1 BK498.out)
          have n7_ := Aside0.mk (zk1 BK506.out)
          have n8_ := Aside0.mk (zk1 BK507.out)
          have n9_ := Aside0.mk (zb1 HB.out)
          clear BK466
          clear BK467
          clear BK468
          clear BK474
          clear BK479
          clear BK497
          clear BK498
          clear BK506
          clear BK507
          clear HB
          have BK466 := n0_
          have BK467 := n1_
          have BK468 := n2_
          have BK474 := n3_
          have BK479 := n4_
          have BK497 := n5_
          have BK498 := n6_
          have BK506 := n7_
          have BK507 := n8_
          have HB := n9_
          clear n0_ n1_ n2_ n3_ n4_ n5_ n6_ n7_ n8_ n9_
          refine start_ (n := 41) (S := fun w' => w'.cell? ⟨gb497, 0, none⟩ = some (.int .u64 t490) ∧ w'.cell? ⟨gb497, 1, none⟩ = some (.int .u64 t491) ∧ w'.cell? ⟨gb497, 2, none⟩ = some (.int .i64 t492) ∧ w'.cell? ⟨gb506, 0, none⟩ = some (.int .u64 t499) ∧ w'.cell? ⟨gb506, 1, none⟩ = some (.int .u64 t500) ∧ w'.cell? ⟨gb506, 2, none⟩ = some (.int .i64 t501) ∧ w'.cell? ⟨gb498, 0, none⟩ = some (.int .u64 t493) ∧ w'.cell? ⟨gb498, 1, none⟩ = some (.int .u64 t494) ∧ w'.cell? ⟨gb498, 2, none⟩ = some (.int .i64 t495) ∧ w'.cell? ⟨gb507, 0, none⟩ = some (.int .u64 t502) ∧ w'.cell? ⟨gb507, 1, none⟩ = some (.int .u64 t503) ∧ w'.cell? ⟨gb507, 2, none⟩ = some (.int .i64 t504) ∧ w'.cell? ⟨gb466, 0, none⟩ = some (.int .u64 a0_0) ∧ w'.cell? ⟨gb466, 1, none⟩ = some (.int .u64 a0_1) ∧ w'.cell? ⟨gb466, 2, none⟩ = some (.int .i64 a0_2) ∧ w'.cell? ⟨gb468, 0, none⟩ = some (.int .u64 a2_0) ∧ w'.cell? ⟨gb468, 1, none⟩ = some (.int .u64 a2_1) ∧ w'.cell? ⟨gb467, 0, none⟩ = some (.int .u64 a1_0) ∧ w'.cell? ⟨gb467, 1, none⟩ = some (.int .u64 a1_1) ∧ w'.cell? ⟨gb467, 2, none⟩ = some (.int .i64 a1_2)) (ds := []) #[false, false, false, false, false, false, false, false, false, false, false, false, false, false, false, false, false, false, false, false, false, false, false, false, false, false, false, false, false, false, false, false, false, false, false, false, false, false, false, false, false] (by kernel_rfl) rfl rfl ⟨(zkC BK497.out 0).trans rfl, (zkC BK497.out 1).trans rfl, (zkC BK497.out 2).trans rfl, (zkC BK506.out 0).trans rfl, (zkC BK506.out 1).trans rfl, (zkC BK506.out 2).trans rfl, (zkC BK498.out 0).trans rfl, (zkC BK498.out 1).trans rfl, (zkC BK498.out 2).trans rfl, (zkC BK507.out 0).trans rfl, (zkC BK507.out 1).trans rfl, (zkC BK507.out 2).trans rfl, (zkC BK466.out 0).trans rfl, (zkC BK466.out 1).trans rfl, (zkC BK466.out 2).trans rfl, (zkC BK468.out 0).trans rfl, (zkC BK468.out 1).trans rfl, (zkC BK467.out 0).trans rfl, (zkC BK467.out 1).trans rfl, (zkC BK467.out 2).trans rfl⟩ (fun hHeld => ?_); refine with_tabW tenancylaw01_AddrPrefixes.tab9 tenancylaw01_AddrPrefixes.bits9 (fun HT_ HW_ => ?_)
          generalize w110.drew = w111 at BK466 BK467 BK468 BK474 BK479 BK497 BK498 BK506 BK507 HB hHeld ⊢
          refine take_ (i := 0) (N := some 65) (v := ?_) (a' := ?_) #[true, false, false, false, false, false, false, false, false, false, false, false, false, false, false, false, false, false, false, false, false, false, false, false, false, false, false, false, false, false, false, false, false, false, false, false, false, false, false, false, false] rfl rfl (take_ofW HT_.out HW_.out (by kernel_rfl)) (fun _ _ _ h => h) (Or.inl ⟨by rfl, ?_⟩) hHeld ?_ ?_
          rotate_left
          ·rintro w' ⟨s0, s1, s2, s3, s4, s5, s6, s7, s8, s9, s10, s11, s12, s13, s14, s15, s16, s17, s18, s19⟩
           go_simp
           with_reducible rfl
          rotate_left
          ·simp only [Act.put, List.setIfInBounds_toArray, List.set_cons_zero, List.set_cons_succ, i64_w, i32_w]
           rfl
          refine take_ (i := 1) (N := some 66) (v := ?_) (a' := ?_) #[true, true, false, false, false, false, false, false, false, false, false, false, false, false, false, false, false, false, false, false, false, false, false, false, false, false, false, false, false, false, false, false, false, false, false, false, false, false, false, false, false] rfl rfl (take_ofW HT_.out HW_.out (by kernel_rfl)) (fun _ _ _ h => h) (Or.inl ⟨by rfl, ?_⟩) hHeld ?_ ?_
          rotate_left
          ·rintro w' ⟨s0, s1, s2, s3, s4, s5, s6, s7, s8, s9, s10, s11, s12, s13, s14, s15, s16, s17, s18, s19⟩
           go_simp
           with_reducible rfl
          rotate_left
          ·simp only [Act.put, List.setIfInBounds_toArray, List.set_cons_zero, List.set_cons_succ, i64_w, i32_w]
           rfl
          refine pure_ (i := 2) (N := some 67) (v := ?_) (a' := ?_) #[true, true, true, false, false, false, false, false, false, false, false, false, false, false, false, false, false, false, false, false, false, false, false, false, false, false, false, false, false, false, false, false, false, false, false, false, false, false, false, false, false] rfl rfl (any_of HT_.out (by kernel_rfl)) (fun _ _ _ h => h) (Or.inl ⟨by rfl, ?_⟩) ?_ ?_
          rotate_left
          ·intro w'
           go_simp
           with_reducible rfl
          rotate_left
          ·simp only [Act.put, List.setIfInBounds_toArray, List.set_cons_zero, List.set_cons_succ, i64_w, i32_w]
           rfl
          refine pure_ (i := 3) (N := some 68) (v := ?_) (a' := ?_) #[true, true, true, true, false, false, false, false, false, false, false, false, false, false, false, false, false, false, false, false, false, false, false, false, false, false, false, false, false, false, false, false, false, false, false, false, false, false, false, false, false] rfl rfl (any_of HT_.out (by kernel_rfl)) (fun _ _ _ h => h) (Or.inl ⟨by rfl, ?_⟩) ?_ ?_
          rotate_left
          ·intro w'
           go_simp
           with_reducible rfl
          rotate_left
          ·simp only [Act.put, List.setIfInBounds_toArray, List.set_cons_zero, List.set_cons_succ, i64_w, i32_w]
           rfl
          refine take_ (i := 4) (N := some 69) (v := ?_) (a' := ?_) #[true, true, true, true, true, false, false, false, false, false, false, false, false, false, false, false, false, false, false, false, false, false, false, false, false, false, false, false, false, false, false, false, false, false, false, false, false, false, false, false, false] rfl rfl (take_ofW HT_.out HW_.out (by kernel_rfl)) (fun _ _ _ h => h) (Or.inl ⟨by rfl, ?_⟩) hHeld ?_ ?_
          rotate_left
          ·rintro w' ⟨s0, s1, s2, s3, s4, s5, s6, s7, s8, s9, s10, s11, s12, s13, s14, s15, s16, s17, s18, s19⟩
           go_simp
           with_reducible rfl
          rotate_left
          ·simp only [Act.put, List.setIfInBounds_toArray, List.set_cons_zero, List.set_cons_succ, i64_w, i32_w]
           rfl
          refine take_ (i := 5) (N := some 70) (v := ?_) (a' := ?_) #[true, true, true, true, true, true, false, false, false, false, false, false, false, false, false, false, false, false, false, false, false, false, false, false, false, false, false, false, false, false, false, false, false, false, false, false, false, false, false, false, false] rfl rfl (take_ofW HT_.out HW_.out (by kernel_rfl)) (fun _ _ _ h => h) (Or.inl ⟨by rfl, ?_⟩) hHeld ?_ ?_
          rotate_left
          ·rintro w' ⟨s0, s1, s2, s3, s4, s5, s6, s7, s8, s9, s10, s11, s12, s13, s14, s15, s16, s17, s18, s19⟩
           go_simp
           with_reducible rfl
          rotate_left
          ·simp only [Act.put, List.setIfInBounds_toArray, List.set_cons_zero, List.set_cons_succ, i64_w, i32_w]
           rfl
          refine pure_ (i := 6) (N := some 71) (v := ?_) (a' := ?_) #[true, true, true, true, true, true, true, false, false, false, false, false, false, false, false, false, false, false, false, false, false, false, false, false, false, false, false, false, false, false, false, false, false, false, false, false, false, false, false, false, false] rfl rfl (any_of HT_.out (by kernel_rfl)) (fun _ _ _ h => h) (Or.inl ⟨by rfl, ?_⟩) ?_ ?_
          rotate_left
          ·intro w'
           go_simp
           with_reducible rfl
          rotate_left
          ·simp only [Act.put, List.setIfInBounds_toArray, List.set_cons_zero, List.set_cons_succ, i64_w, i32_w]
           rfl
          refine pure_ (i := 7) (N := some 72) (v := ?_) (a' := ?_) #[true, true, true, true, true, true, true, true, false, false, false, false, false, false, false, false, false, false, false, false, false, false, false, false, false, false, false, false, false, false, false, false, false, false, false, false, false, false, false, false, false] rfl rfl (any_of HT_.out (by kernel_rfl)) (fun _ _ _ h => h) (Or.inl ⟨by rfl, ?_⟩) ?_ ?_
          rotate_left
          ·intro w'
           go_simp
           with_reducible rfl
          rotate_left
          ·simp only [Act.put, List.setIfInBounds_toArray, List.set_cons_zero, List.set_cons_succ, i64_w, i32_w]
           rfl
          refine pure_ (i := 8) (N := some 73) (v := ?_) (a' := ?_) #[true, true, true, true, true, true, true, true, true, false, false, false, false, false, false, false, false, false, false, false, false, false, false, false, false, false, false, false, false, false, false, false, false, false, false, false, false, false, false, false, false] rfl rfl (any_of HT_.out (by kernel_rfl)) (fun _ _ _ h => h) (Or.inl ⟨by rfl, ?_⟩) ?_ ?_
          rotate_left
          ·intro w'
           go_simp
           with_reducible rfl
          rotate_left
          ·simp only [Act.put, List.setIfInBounds_toArray, List.set_cons_zero, List.set_cons_succ, i64_w, i32_w]
           rfl
          refine pure_ (i := 9) (N := some 74) (v := ?_) (a' := ?_) #[true, true, true, true, true, true, true, true, true, true, false, false, false, false, false, false, false, false, false, false, false, false, false, false, false, false, false, false, false, false, false, false, false, false, false, false, false, false, false, false, false] rfl rfl (any_of HT_.out (by kernel_rfl)) (fun _ _ _ h => h) (Or.inl ⟨by rfl, ?_⟩) ?_ ?_
          rotate_left
          ·intro w'
           go_simp
           with_reducible rfl
          rotate_left
          ·simp only [Act.put, List.setIfInBounds_toArray, List.set_cons_zero, List.set_cons_succ, i64_w, i32_w]
           rfl
          refine pure_ (i := 10) (N := some 75) (v := ?_) (a' := ?_) #[true, true, true, true, true, true, true, true, true, true, true, false, false, false, false, false, false, false, false, false, false, false, false, false, false, false, false, false, false, false, false, false, false, false, false, false, false, false, false, false, false] rfl rfl (any_of HT_.out (by kernel_rfl)) (fun _ _ _ h => h) (Or.inl ⟨by rfl, ?_⟩) ?_ ?_
          rotate_left
          ·intro w'
           go_simp
           with_reducible rfl
          rotate_left
          ·simp only [Act.put, List.setIfInBounds_toArray, List.set_cons_zero, List.set_cons_succ, i64_w, i32_w]
           rfl
          refine pure_ (i := 11) (N := some 76) (v := ?_) (a' := ?_) #[true, true, true, true, true, true, true, true, true, true, true, true, false, false, false, false, false, false, false, false, false, false, false, false, false, false, false, false, false, false, false, false, false, false, false, false, false, false, false, false, false] rfl rfl (any_of HT_.out (by kernel_rfl)) (fun _ _ _ h => h) (Or.inl ⟨by rfl, ?_⟩) ?_ ?_
          rotate_left
          ·intro w'
           go_simp
           with_reducible rfl
          rotate_left
          ·simp only [Act.put, List.setIfInBounds_toArray, List.set_cons_zero, List.set_cons_succ, i64_w, i32_w]
           rfl
          refine pure_ (i := 12) (N := some 77) (v := ?_) (a' := ?_) #[true, true, true, true, true, true, true, true, true, true, true, true, true, false, false, false, false, false, false, false, false, false, false, false, false, false, false, false, false, false, false, false, false, false, false, false, false, false, false, false, false] rfl rfl (any_of HT_.out (by kernel_rfl)) (fun _ _ _ h => h) (Or.inl ⟨by rfl, ?_⟩) ?_ ?_
          rotate_left
          ·intro w'
           go_simp
           with_reducible rfl
          rotate_left
          ·simp only [Act.put, List.setIfInBounds_toArray, List.set_cons_zero, List.set_cons_succ, i64_w, i32_w]
           rfl
          refine pure_ (i := 13) (N := some 78) (v := ?_) (a' := ?_) #[true, true, true, true, true, true, true, true, true, true, true, true, true, true, false, false, false, false, false, false, false, false, false, false, false, false, false, false, false, false, false, false, false, false, false, false, false, false, false, false, false] rfl rfl (any_of HT_.out (by kernel_rfl)) (fun _ _ _ h => h) (Or.inl ⟨by rfl, ?_⟩) ?_ ?_
          rotate_left
          ·intro w'
           go_simp
           with_reducible rfl
          rotate_left
          ·simp only [Act.put, List.setIfInBounds_toArray, List.set_cons_zero, List.set_cons_succ, i64_w, i32_w]
           rfl
          refine take_ (i := 14) (N := some 79) (v := ?_) (a' := ?_) #[true, true, true, true, true, true, true, true, true, true, true, true, true, true, true, false, false, false, false, false, false, false, false, false, false, false, false, false, false, false, false, false, false, false, false, false, false, false, false, false, false] rfl rfl (take_ofW HT_.out HW_.out (by kernel_rfl)) (fun _ _ _ h => h) (Or.inl ⟨by rfl, ?_⟩) hHeld ?_ ?_
          rotate_left
          ·rintro w' ⟨s0, s1, s2, s3, s4, s5, s6, s7, s8, s9, s10, s11, s12, s13, s14, s15, s16, s17, s18, s19⟩
           go_simp
           with_reducible rfl
          rotate_left
          ·simp only [Act.put, List.setIfInBounds_toArray, List.set_cons_zero, List.set_cons_succ, i64_w, i32_w]
           rfl
          refine take_ (i := 15) (N := some 80) (v := ?_) (a' := ?_) #[true, true, true, true, true, true, true, true, true, true, true, true, true, true, true, true, false, false, false, false, false, false, false, false, false, false, false, false, false, false, false, false, false, false, false, false, false, false, false, false, false] rfl rfl (take_ofW HT_.out HW_.out (by kernel_rfl)) (fun _ _ _ h => h) (Or.inl ⟨by rfl, ?_⟩) hHeld ?_ ?_
          rotate_left
          ·rintro w' ⟨s0, s1, s2, s3, s4, s5, s6, s7, s8, s9, s10, s11, s12, s13, s14, s15, s16, s17, s18, s19⟩
           go_simp
           with_reducible rfl
          rotate_left
          ·simp only [Act.put, List.setIfInBounds_toArray, List.set_cons_zero, List.set_cons_succ, i64_w, i32_w]
           rfl
          refine take_ (i := 17) (N := some 82) (v := ?_) (a' := ?_) #[true, true, true, true, true, true, true, true, true, true, true, true, true, true, true, true, false, true, false, false, false, false, false, false, false, false, false, false, false, false, false, false, false, false, false, false, false, false, false, false, false] rfl rfl (take_ofW HT_.out HW_.out (by kernel_rfl)) (fun _ _ _ h => h) (Or.inl ⟨by rfl, ?_⟩) hHeld ?_ ?_
          rotate_left
          ·rintro w' ⟨s0, s1, s2, s3, s4, s5, s6, s7, s8, s9, s10, s11, s12, s13, s14, s15, s16, s17, s18, s19⟩
           go_simp
           with_reducible rfl
          rotate_left
          ·simp only [Act.put, List.setIfInBounds_toArray, List.set_cons_zero, List.set_cons_succ, i64_w, i32_w]
           rfl
          refine take_ (i := 18) (N := some 83) (v := ?_) (a' := ?_) #[true, true, true, true, true, true, true, true, true, true, true, true, true, true, true, true, false, true, true, false, false, false, false, false, false, false, false, false, false, false, false, false, false, false, false, false, false, false, false, false, false] rfl rfl (take_ofW HT_.out HW_.out (by kernel_rfl)) (fun _ _ _ h => h) (Or.inl ⟨by rfl, ?_⟩) hHeld ?_ ?_
          rotate_left
          ·rintro w' ⟨s0, s1, s2, s3, s4, s5, s6, s7, s8, s9, s10, s11, s12, s13, s14, s15, s16, s17, s18, s19⟩
           go_simp
           with_reducible rfl
          rotate_left
          ·simp only [Act.put, List.setIfInBounds_toArray, List.set_cons_zero, List.set_cons_succ, i64_w, i32_w]
           rfl
          refine one_ (i := 16) (N := some 81) #[true, true, true, true, true, true, true, true, true, true, true, true, true, true, true, true, true, true, true, false, false, false, false, false, false, false, false, false, false, false, false, false, false, false, false, false, false, false, false, false, false] rfl rfl (one_of HT_.out (by kernel_rfl)) (by decide) (fun K hK => ?_)
          refine goes_ Try.func20 (by kernel_rfl) rfl #[.agg #[.int .u64 a0_0, .int .u64 a0_1, .int .i64 a0_2], .agg #[.int .u64 a2_0, .int .u64 a2_1]] (by rfl) rfl rfl (by (try simp only [List.map_toArray, List.map_cons, List.map_nil]); first | done | rfl | (simp only [List.length_drop, List.length_take]; rfl)) ?_
          with_reducible refine (addr_Has.calls kj7 a0_0 a0_1 a0_2 a2_0 a2_1 t508 _ A60.out).mono ?_
          rintro e w112 ⟨rfl, hb⟩
          refine ⟨_, rfl, ?_⟩
          have n0_ := Aside0.mk (zkB (by (with_reducible repeat (first | refine zkN ?_ _ | refine zk1 ?_ | refine zkA ?_ _)); exact BK466.out) hb)
          have n1_ := Aside0.mk (zkB (by (with_reducible repeat (first | refine zkN ?_ _ | refine zk1 ?_ | refine zkA ?_ _)); exact BK467.out) hb)
          have n2_ := Aside0.mk (zkB (by (with_reducible repeat (first | refine zkN ?_ _ | refine zk1 ?_ | refine zkA ?_ _)); exact BK468.out) hb)
          have n3_ := Aside0.mk (zkB (by (with_reducible repeat (first | refine zkN ?_ _ | refine zk1 ?_ | refine zkA ?_ _)); exact BK474.out) hb)
          have n4_ := Aside0.mk (zkB (by (with_reducible repeat (first | refine zkN ?_ _ | refine zk1 ?_ | refine zkA ?_ _)); exact BK479.out) hb)
          have n5_ := Aside0.mk (zkB (by (with_reducible repeat (first | refine zkN ?_ _ | refine zk1 ?_ | refine zkA ?_ _)); exact BK497.out) hb)
          have n6_ := Aside0.mk (zkB (by (with_reducible repeat (first | refine zkN ?_ _ | refine zk1 ?_ | refine zkA ?_ _)); exact BK498.out) hb)
          have n7_ := Aside0.mk (zkB (by (with_reducible repeat (first | refine zkN ?_ _ | refine zk1 ?_ | refine zkA ?_ _)); exact BK506.out) hb)
          have n8_ := Aside0.mk (zkB (by (with_reducible repeat (first | refine zkN ?_ _ | refine zk1 ?_ | refine zkA ?_ _)); exact BK507.out) hb)
          have n9_ := Aside0.mk (zbP (by repeat (first | (with_reducible first | exact HB.out | apply zbA | apply zbN | apply zb1 | refine zbS ?_ GE466.out | refine zbS ?_ GE467.out | refine zbS ?_ GE468.out | refine zbS ?_ GE474.out | refine zbS ?_ GE479.out | refine zbS ?_ GE497.out | refine zbS ?_ GE498.out | refine zbS ?_ GE506.out | refine zbS ?_ GE507.out) | exact HB.out)) hb)
          clear BK466
          clear BK467
          clear BK468
          clear BK474
          clear BK479
          clear BK497
          clear BK498
          clear BK506
          clear BK507
          clear HB
          have BK466 := n0_
          have BK467 := n1_
          have BK468 := n2_
          have BK474 := n3_
          have BK479 := n4_
          have BK497 := n5_
          have BK498 := n6_
          have BK506 := n7_
          have BK507 := n8_
          have HB := n9_
          clear n0_ n1_ n2_ n3_ n4_ n5_ n6_ n7_ n8_ n9_
          (try clear hb)
          (try clear hb2)
          (try clear hk)
          (try clear hi)
          refine hK.out _ _ ⟨(zkC BK497.out 0).trans rfl, (zkC BK497.out 1).trans rfl, (zkC BK497.out 2).trans rfl, (zkC BK506.out 0).trans rfl, (zkC BK506.out 1).trans rfl, (zkC BK506.out 2).trans rfl, (zkC BK498.out 0).trans rfl, (zkC BK498.out 1).trans rfl, (zkC BK498.out 2).trans rfl, (zkC BK507.out 0).trans rfl, (zkC BK507.out 1).trans rfl, (zkC BK507.out 2).trans rfl, (zkC BK466.out 0).trans rfl, (zkC BK466.out 1).trans rfl, (zkC BK466.out 2).trans rfl, (zkC BK468.out 0).trans rfl, (zkC BK468.out 1).trans rfl, (zkC BK467.out 0).trans rfl, (zkC BK467.out 1).trans rfl, (zkC BK467.out 2).trans rfl⟩ (fun hHeld => ?_)
          clear hK K
          refine norm_ (a' := ?_) ?_ ?_
          rotate_left
          ·show Act.put _ (some 81) _ = _
           simp only [Act.put, List.setIfInBounds_toArray, List.set_cons_zero, List.set_cons_succ, i64_w, i32_w]
           rfl
          refine one_ (i := 19) (N := some 84) #[true, true, true, true, true, true, true, true, true, true, true, true, true, true, true, true, true, true, true, true, false, false, false, false, false, false, false, false, false, false, false, false, false, false, false, false, false, false, false, false, false] rfl rfl (one_of HT_.out (by kernel_rfl)) (by decide) (fun K hK => ?_)
          refine goes_ Try.func37 (by kernel_rfl) rfl #[.agg #[.int .u64 a0_0, .int .u64 a0_1, .int .i64 a0_2], .agg #[.int .u64 a2_0, .int .u64 a2_1]] (by rfl) rfl rfl (by (try simp only [List.map_toArray, List.map_cons, List.map_nil]); first | done | rfl | (simp only [List.length_drop, List.length_take]; rfl)) ?_
          with_reducible refine (tenancyref01_Has.calls kj7 a0_0 a0_1 a0_2 a2_0 a2_1 t509 _ A61.out).mono ?_
          rintro e w113 ⟨rfl, hb⟩
          refine ⟨_, rfl, ?_⟩
          have n0_ := Aside0.mk (zkB (by (with_reducible repeat (first | refine zkN ?_ _ | refine zk1 ?_ | refine zkA ?_ _)); exact BK466.out) hb)
          have n1_ := Aside0.mk (zkB (by (with_reducible repeat (first | refine zkN ?_ _ | refine zk1 ?_ | refine zkA ?_ _)); exact BK467.out) hb)
          have n2_ := Aside0.mk (zkB (by (with_reducible repeat (first | refine zkN ?_ _ | refine zk1 ?_ | refine zkA ?_ _)); exact BK468.out) hb)
          have n3_ := Aside0.mk (zkB (by (with_reducible repeat (first | refine zkN ?_ _ | refine zk1 ?_ | refine zkA ?_ _)); exact BK474.out) hb)
          have n4_ := Aside0.mk (zkB (by (with_reducible repeat (first | refine zkN ?_ _ | refine zk1 ?_ | refine zkA ?_ _)); exact BK479.out) hb)
          have n5_ := Aside0.mk (zkB (by (with_reducible repeat (first | refine zkN ?_ _ | refine zk1 ?_ | refine zkA ?_ _)); exact BK497.out) hb)
          have n6_ := Aside0.mk (zkB (by (with_reducible repeat (first | refine zkN ?_ _ | refine zk1 ?_ | refine zkA ?_ _)); exact BK498.out) hb)
          have n7_ := Aside0.mk (zkB (by (with_reducible repeat (first | refine zkN ?_ _ | refine zk1 ?_ | refine zkA ?_ _)); exact BK506.out) hb)
          have n8_ := Aside0.mk (zkB (by (with_reducible repeat (first | refine zkN ?_ _ | refine zk1 ?_ | refine zkA ?_ _)); exact BK507.out) hb)
          have n9_ := Aside0.mk (zbP (by repeat (first | (with_reducible first | exact HB.out | apply zbA | apply zbN | apply zb1 | refine zbS ?_ GE466.out | refine zbS ?_ GE467.out | refine zbS ?_ GE468.out | refine zbS ?_ GE474.out | refine zbS ?_ GE479.out | refine zbS ?_ GE497.out | refine zbS ?_ GE498.out | refine zbS ?_ GE506.out | refine zbS ?_ GE507.out) | exact HB.out)) hb)
          clear BK466
          clear BK467
          clear BK468
          clear BK474
          clear BK479
          clear BK497
          clear BK498
          clear BK506
          clear BK507
          clear HB
          have BK466 := n0_
          have BK467 := n1_
          have BK468 := n2_
          have BK474 := n3_
          have BK479 := n4_
          have BK497 := n5_
          have BK498 := n6_
          have BK506 := n7_
          have BK507 := n8_
          have HB := n9_
          clear n0_ n1_ n2_ n3_ n4_ n5_ n6_ n7_ n8_ n9_
          (try clear hb)
          (try clear hb2)
          (try clear hk)
          (try clear hi)
          refine hK.out _ _ ⟨(zkC BK497.out 0).trans rfl, (zkC BK497.out 1).trans rfl, (zkC BK497.out 2).trans rfl, (zkC BK506.out 0).trans rfl, (zkC BK506.out 1).trans rfl, (zkC BK506.out 2).trans rfl, (zkC BK498.out 0).trans rfl, (zkC BK498.out 1).trans rfl, (zkC BK498.out 2).trans rfl, (zkC BK507.out 0).trans rfl, (zkC BK507.out 1).trans rfl, (zkC BK507.out 2).trans rfl, (zkC BK466.out 0).trans rfl, (zkC BK466.out 1).trans rfl, (zkC BK466.out 2).trans rfl, (zkC BK468.out 0).trans rfl, (zkC BK468.out 1).trans rfl, (zkC BK467.out 0).trans rfl, (zkC BK467.out 1).trans rfl, (zkC BK467.out 2).trans rfl⟩ (fun hHeld => ?_)
          clear hK K
          refine norm_ (a' := ?_) ?_ ?_
          rotate_left
          ·show Act.put _ (some 84) _ = _
           simp only [Act.put, List.setIfInBounds_toArray, List.set_cons_zero, List.set_cons_succ, i64_w, i32_w]
           rfl
          refine pure_ (i := 20) (N := some 85) (v := ?_) (a' := ?_) #[true, true, true, true, true, true, true, true, true, true, true, true, true, true, true, true, true, true, true, true, true, false, false, false, false, false, false, false, false, false, false, false, false, false, false, false, false, false, false, false, false] rfl rfl (any_of HT_.out (by kernel_rfl)) (fun _ _ _ h => h) (Or.inl ⟨by rfl, ?_⟩) ?_ ?_
          rotate_left
          ·intro w'
           go_simp
           with_reducible rfl
          rotate_left
          ·simp only [Act.put, List.setIfInBounds_toArray, List.set_cons_zero, List.set_cons_succ, i64_w, i32_w]
           rfl
          refine pure_ (i := 21) (N := some 86) (v := ?_) (a' := ?_) #[true, true, true, true, true, true, true, true, true, true, true, true, true, true, true, true, true, true, true, true, true, true, false, false, false, false, false, false, false, false, false, false, false, false, false, false, false, false, false, false, false] rfl rfl (any_of HT_.out (by kernel_rfl)) (fun _ _ _ h => h) (Or.inl ⟨by rfl, ?_⟩) ?_ ?_
          rotate_left
          ·intro w'
           go_simp
           with_reducible rfl
          rotate_left
          ·simp only [Act.put, List.setIfInBounds_toArray, List.set_cons_zero, List.set_cons_succ, i64_w, i32_w]
           rfl
          refine pure_ (i := 22) (N := some 87) (v := ?_) (a' := ?_) #[true, true, true, true, true, true, true, true, true, true, true, true, true, true, true, true, true, true, true, true, true, true, true, false, false, false, false, false, false, false, false, false, false, false, false, false, false, false, false, false, false] rfl rfl (any_of HT_.out (by kernel_rfl)) (fun _ _ _ h => h) (Or.inl ⟨by rfl, ?_⟩) ?_ ?_
          rotate_left
          ·intro w'
           go_simp
           with_reducible rfl
          rotate_left
          ·simp only [Act.put, List.setIfInBounds_toArray, List.set_cons_zero, List.set_cons_succ, i64_w, i32_w]
           rfl
          refine take_ (i := 23) (N := some 88) (v := ?_) (a' := ?_) #[true, true, true, true, true, true, true, true, true, true, true, true, true, true, true, true, true, true, true, true, true, true, true, true, false, false, false, false, false, false, false, false, false, false, false, false, false, false, false, false, false] rfl rfl (take_ofW HT_.out HW_.out (by kernel_rfl)) (fun _ _ _ h => h) (Or.inl ⟨by rfl, ?_⟩) hHeld ?_ ?_
          rotate_left
          ·rintro w' ⟨s0, s1, s2, s3, s4, s5, s6, s7, s8, s9, s10, s11, s12, s13, s14, s15, s16, s17, s18, s19⟩
           go_simp
           with_reducible rfl
          rotate_left
          ·simp only [Act.put, List.setIfInBounds_toArray, List.set_cons_zero, List.set_cons_succ, i64_w, i32_w]
           rfl
          refine take_ (i := 24) (N := some 89) (v := ?_) (a' := ?_) #[true, true, true, true, true, true, true, true, true, true, true, true, true, true, true, true, true, true, true, true, true, true, true, true, true, false, false, false, false, false, false, false, false, false, false, false, false, false, false, false, false] rfl rfl (take_ofW HT_.out HW_.out (by kernel_rfl)) (fun _ _ _ h => h) (Or.inl ⟨by rfl, ?_⟩) hHeld ?_ ?_
          rotate_left
          ·rintro w' ⟨s0, s1, s2, s3, s4, s5, s6, s7, s8, s9, s10, s11, s12, s13, s14, s15, s16, s17, s18, s19⟩
           go_simp
           with_reducible rfl
          rotate_left
          ·simp only [Act.put, List.setIfInBounds_toArray, List.set_cons_zero, List.set_cons_succ, i64_w, i32_w]
           rfl
          refine take_ (i := 26) (N := some 91) (v := ?_) (a' := ?_) #[true, true, true, true, true, true, true, true, true, true, true, true, true, true, true, true, true, true, true, true, true, true, true, true, true, false, true, false, false, false, false, false, false, false, false, false, false, false, false, false, false] rfl rfl (take_ofW HT_.out HW_.out (by kernel_rfl)) (fun _ _ _ h => h) (Or.inl ⟨by rfl, ?_⟩) hHeld ?_ ?_
          rotate_left
          ·rintro w' ⟨s0, s1, s2, s3, s4, s5, s6, s7, s8, s9, s10, s11, s12, s13, s14, s15, s16, s17, s18, s19⟩
           go_simp
           with_reducible rfl
          rotate_left
          ·simp only [Act.put, List.setIfInBounds_toArray, List.set_cons_zero, List.set_cons_succ, i64_w, i32_w]
           rfl
          refine take_ (i := 27) (N := some 92) (v := ?_) (a' := ?_) #[true, true, true, true, true, true, true, true, true, true, true, true, true, true, true, true, true, true, true, true, true, true, true, true, true, false, true, true, false, false, false, false, false, false, false, false, false, false, false, false, false] rfl rfl (take_ofW HT_.out HW_.out (by kernel_rfl)) (fun _ _ _ h => h) (Or.inl ⟨by rfl, ?_⟩) hHeld ?_ ?_
          rotate_left
          ·rintro w' ⟨s0, s1, s2, s3, s4, s5, s6, s7, s8, s9, s10, s11, s12, s13, s14, s15, s16, s17, s18, s19⟩
           go_simp
           with_reducible rfl
          rotate_left
          ·simp only [Act.put, List.setIfInBounds_toArray, List.set_cons_zero, List.set_cons_succ, i64_w, i32_w]
           rfl
          refine one_ (i := 25) (N := some 90) #[true, true, true, true, true, true, true, true, true, true, true, true, true, true, true, true, true, true, true, true, true, true, true, true, true, true, true, true, false, false, false, false, false, false, false, false, false, false, false, false, false] rfl rfl (one_of HT_.out (by kernel_rfl)) (by decide) (fun K hK => ?_)
          refine goes_ Try.func21 (by kernel_rfl) rfl #[.agg #[.int .u64 a0_0, .int .u64 a0_1, .int .i64 a0_2], .agg #[.int .u64 a1_0, .int .u64 a1_1, .int .i64 a1_2]] (by rfl) rfl rfl (by (try simp only [List.map_toArray, List.map_cons, List.map_nil]); first | done | rfl | (simp only [List.length_drop, List.length_take]; rfl)) ?_
          with_reducible refine (addr_Covers.calls kj7 a0_0 a0_1 a0_2 a1_0 a1_1 a1_2 t510 _ A63.out).mono ?_
          rintro e w114 ⟨rfl, hb⟩
          refine ⟨_, rfl, ?_⟩
          have n0_ := Aside0.mk (zkB (by (with_reducible repeat (first | refine zkN ?_ _ | refine zk1 ?_ | refine zkA ?_ _)); exact BK466.out) hb)
          have n1_ := Aside0.mk (zkB (by (with_reducible repeat (first | refine zkN ?_ _ | refine zk1 ?_ | refine zkA ?_ _)); exact BK467.out) hb)
          have n2_ := Aside0.mk (zkB (by (with_reducible repeat (first | refine zkN ?_ _ | refine zk1 ?_ | refine zkA ?_ _)); exact BK468.out) hb)
          have n3_ := Aside0.mk (zkB (by (with_reducible repeat (first | refine zkN ?_ _ | refine zk1 ?_ | refine zkA ?_ _)); exact BK474.out) hb)
          have n4_ := Aside0.mk (zkB (by (with_reducible repeat (first | refine zkN ?_ _ | refine zk1 ?_ | refine zkA ?_ _)); exact BK479.out) hb)
          have n5_ := Aside0.mk (zkB (by (with_reducible repeat (first | refine zkN ?_ _ | refine zk1 ?_ | refine zkA ?_ _)); exact BK497.out) hb)
          have n6_ := Aside0.mk (zkB (by (with_reducible repeat (first | refine zkN ?_ _ | refine zk1 ?_ | refine zkA ?_ _)); exact BK498.out) hb)
          have n7_ := Aside0.mk (zkB (by (with_reducible repeat (first | refine zkN ?_ _ | refine zk1 ?_ | refine zkA ?_ _)); exact BK506.out) hb)
          have n8_ := Aside0.mk (zkB (by (with_reducible repeat (first | refine zkN ?_ _ | refine zk1 ?_ | refine zkA ?_ _)); exact BK507.out) hb)
          have n9_ := Aside0.mk (zbP (by repeat (first | (with_reducible first | exact HB.out | apply zbA | apply zbN | apply zb1 | refine zbS ?_ GE466.out | refine zbS ?_ GE467.out | refine zbS ?_ GE468.out | refine zbS ?_ GE474.out | refine zbS ?_ GE479.out | refine zbS ?_ GE497.out | refine zbS ?_ GE498.out | refine zbS ?_ GE506.out | refine zbS ?_ GE507.out) | exact HB.out)) hb)
          clear BK466
          clear BK467
          clear BK468
          clear BK474
          clear BK479
          clear BK497
          clear BK498
          clear BK506
          clear BK507
          clear HB
          have BK466 := n0_
          have BK467 := n1_
          have BK468 := n2_
          have BK474 := n3_
          have BK479 := n4_
          have BK497 := n5_
          have BK498 := n6_
          have BK506 := n7_
          have BK507 := n8_
          have HB := n9_
          clear n0_ n1_ n2_ n3_ n4_ n5_ n6_ n7_ n8_ n9_
          (try clear hb)
          (try clear hb2)
          (try clear hk)
          (try clear hi)
          refine hK.out _ _ ⟨(zkC BK497.out 0).trans rfl, (zkC BK497.out 1).trans rfl, (zkC BK497.out 2).trans rfl, (zkC BK506.out 0).trans rfl, (zkC BK506.out 1).trans rfl, (zkC BK506.out 2).trans rfl, (zkC BK498.out 0).trans rfl, (zkC BK498.out 1).trans rfl, (zkC BK498.out 2).trans rfl, (zkC BK507.out 0).trans rfl, (zkC BK507.out 1).trans rfl, (zkC BK507.out 2).trans rfl, (zkC BK466.out 0).trans rfl, (zkC BK466.out 1).trans rfl, (zkC BK466.out 2).trans rfl, (zkC BK468.out 0).trans rfl, (zkC BK468.out 1).trans rfl, (zkC BK467.out 0).trans rfl, (zkC BK467.out 1).trans rfl, (zkC BK467.out 2).trans rfl⟩ (fun hHeld => ?_)
          clear hK K
          refine norm_ (a' := ?_) ?_ ?_
          rotate_left
          ·show Act.put _ (some 90) _ = _
           simp only [Act.put, List.setIfInBounds_toArray, List.set_cons_zero, List.set_cons_succ, i64_w, i32_w]
           rfl
          refine one_ (i := 28) (N := some 93) #[true, true, true, true, true, true, true, true, true, true, true, true, true, true, true, true, true, true, true, true, true, true, true, true, true, true, true, true, true, false, false, false, false, false, false, false, false, false, false, false, false] rfl rfl (one_of HT_.out (by kernel_rfl)) (by decide) (fun K hK => ?_)
          refine goes_ Try.func38 (by kernel_rfl) rfl #[.agg #[.int .u64 a0_0, .int .u64 a0_1, .int .i64 a0_2], .agg #[.int .u64 a1_0, .int .u64 a1_1, .int .i64 a1_2]] (by rfl) rfl rfl (by (try simp only [List.map_toArray, List.map_cons, List.map_nil]); first | done | rfl | (simp only [List.length_drop, List.length_take]; rfl)) ?_
          with_reducible refine (tenancyref01_Covers.calls kj7 a0_0 a0_1 a0_2 a1_0 a1_1 a1_2 t511 _ A64.out).mono ?_
          rintro e w115 ⟨rfl, hb⟩
          refine ⟨_, rfl, ?_⟩
          have n0_ := Aside0.mk (zkB (by (with_reducible repeat (first | refine zkN ?_ _ | refine zk1 ?_ | refine zkA ?_ _)); exact BK466.out) hb)
          have n1_ := Aside0.mk (zkB (by (with_reducible repeat (first | refine zkN ?_ _ | refine zk1 ?_ | refine zkA ?_ _)); exact BK467.out) hb)
          have n2_ := Aside0.mk (zkB (by (with_reducible repeat (first | refine zkN ?_ _ | refine zk1 ?_ | refine zkA ?_ _)); exact BK468.out) hb)
          have n3_ := Aside0.mk (zkB (by (with_reducible repeat (first | refine zkN ?_ _ | refine zk1 ?_ | refine zkA ?_ _)); exact BK474.out) hb)
          have n4_ := Aside0.mk (zkB (by (with_reducible repeat (first | refine zkN ?_ _ | refine zk1 ?_ | refine zkA ?_ _)); exact BK479.out) hb)
          have n5_ := Aside0.mk (zkB (by (with_reducible repeat (first | refine zkN ?_ _ | refine zk1 ?_ | refine zkA ?_ _)); exact BK497.out) hb)
          have n6_ := Aside0.mk (zkB (by (with_reducible repeat (first | refine zkN ?_ _ | refine zk1 ?_ | refine zkA ?_ _)); exact BK498.out) hb)
          have n7_ := Aside0.mk (zkB (by (with_reducible repeat (first | refine zkN ?_ _ | refine zk1 ?_ | refine zkA ?_ _)); exact BK506.out) hb)
          have n8_ := Aside0.mk (zkB (by (with_reducible repeat (first | refine zkN ?_ _ | refine zk1 ?_ | refine zkA ?_ _)); exact BK507.out) hb)
          have n9_ := Aside0.mk (zbP (by repeat (first | (with_reducible first | exact HB.out | apply zbA | apply zbN | apply zb1 | refine zbS ?_ GE466.out | refine zbS ?_ GE467.out | refine zbS ?_ GE468.out | refine zbS ?_ GE474.out | refine zbS ?_ GE479.out | refine zbS ?_ GE497.out | refine zbS ?_ GE498.out | refine zbS ?_ GE506.out | refine zbS ?_ GE507.out) | exact HB.out)) hb)
          clear BK466
          clear BK467
          clear BK468
          clear BK474
          clear BK479
          clear BK497
          clear BK498
          clear BK506
          clear BK507
          clear HB
          have BK466 := n0_
          have BK467 := n1_
          have BK468 := n2_
          have BK474 := n3_
          have BK479 := n4_
          have BK497 := n5_
          have BK498 := n6_
          have BK506 := n7_
          have BK507 := n8_
          have HB := n9_
          clear n0_ n1_ n2_ n3_ n4_ n5_ n6_ n7_ n8_ n9_
          (try clear hb)
          (try clear hb2)
          (try clear hk)
          (try clear hi)
          refine hK.out _ _ ⟨(zkC BK497.out 0).trans rfl, (zkC BK497.out 1).trans rfl, (zkC BK497.out 2).trans rfl, (zkC BK506.out 0).trans rfl, (zkC BK506.out 1).trans rfl, (zkC BK506.out 2).trans rfl, (zkC BK498.out 0).trans rfl, (zkC BK498.out 1).trans rfl, (zkC BK498.out 2).trans rfl, (zkC BK507.out 0).trans rfl, (zkC BK507.out 1).trans rfl, (zkC BK507.out 2).trans rfl, (zkC BK466.out 0).trans rfl, (zkC BK466.out 1).trans rfl, (zkC BK466.out 2).trans rfl, (zkC BK468.out 0).trans rfl, (zkC BK468.out 1).trans rfl, (zkC BK467.out 0).trans rfl, (zkC BK467.out 1).trans rfl, (zkC BK467.out 2).trans rfl⟩ (fun hHeld => ?_)
          clear hK K
          refine norm_ (a' := ?_) ?_ ?_
          rotate_left
          ·show Act.put _ (some 93) _ = _
           simp only [Act.put, List.setIfInBounds_toArray, List.set_cons_zero, List.set_cons_succ, i64_w, i32_w]
           rfl
          refine pure_ (i := 29) (N := some 94) (v := ?_) (a' := ?_) #[true, true, true, true, true, true, true, true, true, true, true, true, true, true, true, true, true, true, true, true, true, true, true, true, true, true, true, true, true, true, false, false, false, false, false, false, false, false, false, false, false] rfl rfl (any_of HT_.out (by kernel_rfl)) (fun _ _ _ h => h) (Or.inl ⟨by rfl, ?_⟩) ?_ ?_
          rotate_left
          ·intro w'
           go_simp
           with_reducible rfl
          rotate_left
          ·simp only [Act.put, List.setIfInBounds_toArray, List.set_cons_zero, List.set_cons_succ, i64_w, i32_w]
           rfl
          refine pure_ (i := 30) (N := some 95) (v := ?_) (a' := ?_) #[true, true, true, true, true, true, true, true, true, true, true, true, true, true, true, true, true, true, true, true, true, true, true, true, true, true, true, true, true, true, true, false, false, false, false, false, false, false, false, false, false] rfl rfl (any_of HT_.out (by kernel_rfl)) (fun _ _ _ h => h) (Or.inl ⟨by rfl, ?_⟩) ?_ ?_
          rotate_left
          ·intro w'
           go_simp
           with_reducible rfl
          rotate_left
          ·simp only [Act.put, List.setIfInBounds_toArray, List.set_cons_zero, List.set_cons_succ, i64_w, i32_w]
           rfl
          refine pure_ (i := 31) (N := some 96) (v := ?_) (a' := ?_) #[true, true, true, true, true, true, true, true, true, true, true, true, true, true, true, true, true, true, true, true, true, true, true, true, true, true, true, true, true, true, true, true, false, false, false, false, false, false, false, false, false] rfl rfl (any_of HT_.out (by kernel_rfl)) (fun _ _ _ h => h) (Or.inl ⟨by rfl, ?_⟩) ?_ ?_
          rotate_left
          ·intro w'
           go_simp
           with_reducible rfl
          rotate_left
          ·simp only [Act.put, List.setIfInBounds_toArray, List.set_cons_zero, List.set_cons_succ, i64_w, i32_w]
           rfl
          refine take_ (i := 32) (N := some 97) (v := ?_) (a' := ?_) #[true, true, true, true, true, true, true, true, true, true, true, true, true, true, true, true, true, true, true, true, true, true, true, true, true, true, true, true, true, true, true, true, true, false, false, false, false, false, false, false, false] rfl rfl (take_ofW HT_.out HW_.out (by kernel_rfl)) (fun _ _ _ h => h) (Or.inl ⟨by rfl, ?_⟩) hHeld ?_ ?_
          rotate_left
          ·rintro w' ⟨s0, s1, s2, s3, s4, s5, s6, s7, s8, s9, s10, s11, s12, s13, s14, s15, s16, s17, s18, s19⟩
           go_simp
           with_reducible rfl
          rotate_left
          ·simp only [Act.put, List.setIfInBounds_toArray, List.set_cons_zero, List.set_cons_succ, i64_w, i32_w]
           rfl
          refine take_ (i := 33) (N := some 98) (v := ?_) (a' := ?_) #[true, true, true, true, true, true, true, true, true, true, true, true, true, true, true, true, true, true, true, true, true, true, true, true, true, true, true, true, true, true, true, true, true, true, false, false, false, false, false, false, false] rfl rfl (take_ofW HT_.out HW_.out (by kernel_rfl)) (fun _ _ _ h => h) (Or.inl ⟨by rfl, ?_⟩) hHeld ?_ ?_
          rotate_left
          ·rintro w' ⟨s0, s1, s2, s3, s4, s5, s6, s7, s8, s9, s10, s11, s12, s13, s14, s15, s16, s17, s18, s19⟩
           go_simp
           with_reducible rfl
          rotate_left
          ·simp only [Act.put, List.setIfInBounds_toArray, List.set_cons_zero, List.set_cons_succ, i64_w, i32_w]
           rfl
          refine take_ (i := 35) (N := some 100) (v := ?_) (a' := ?_) #[true, true, true, true, true, true, true, true, true, true, true, true, true, true, true, true, true, true, true, true, true, true, true, true, true, true, true, true, true, true, true, true, true, true, false, true, false, false, false, false, false] rfl rfl (take_ofW HT_.out HW_.out (by kernel_rfl)) (fun _ _ _ h => h) (Or.inl ⟨by rfl, ?_⟩) hHeld ?_ ?_
          rotate_left
          ·rintro w' ⟨s0, s1, s2, s3, s4, s5, s6, s7, s8, s9, s10, s11, s12, s13, s14, s15, s16, s17, s18, s19⟩
           go_simp
           with_reducible rfl
          rotate_left
          ·simp only [Act.put, List.setIfInBounds_toArray, List.set_cons_zero, List.set_cons_succ, i64_w, i32_w]
           rfl
          refine take_ (i := 36) (N := some 101) (v := ?_) (a' := ?_) #[true, true, true, true, true, true, true, true, true, true, true, true, true, true, true, true, true, true, true, true, true, true, true, true, true, true, true, true, true, true, true, true, true, true, false, true, true, false, false, false, false] rfl rfl (take_ofW HT_.out HW_.out (by kernel_rfl)) (fun _ _ _ h => h) (Or.inl ⟨by rfl, ?_⟩) hHeld ?_ ?_
          rotate_left
          ·rintro w' ⟨s0, s1, s2, s3, s4, s5, s6, s7, s8, s9, s10, s11, s12, s13, s14, s15, s16, s17, s18, s19⟩
           go_simp
           with_reducible rfl
          rotate_left
          ·simp only [Act.put, List.setIfInBounds_toArray, List.set_cons_zero, List.set_cons_succ, i64_w, i32_w]
           rfl
          refine one_ (i := 34) (N := some 99) #[true, true, true, true, true, true, true, true, true, true, true, true, true, true, true, true, true, true, true, true, true, true, true, true, true, true, true, true, true, true, true, true, true, true, true, true, true, false, false, false, false] rfl rfl (one_of HT_.out (by kernel_rfl)) (by decide) (fun K hK => ?_)
          refine goes_ Try.func39 (by kernel_rfl) rfl #[.agg #[.int .u64 a0_0, .int .u64 a0_1, .int .i64 a0_2], .agg #[.int .u64 a1_0, .int .u64 a1_1, .int .i64 a1_2]] (by rfl) rfl rfl (by (try simp only [List.map_toArray, List.map_cons, List.map_nil]); first | done | rfl | (simp only [List.length_drop, List.length_take]; rfl)) ?_
          with_reducible refine (addr_Meets.calls kj7 a0_0 a0_1 a0_2 a1_0 a1_1 a1_2 t512 _ A66.out).mono ?_
          rintro e w116 ⟨rfl, hb⟩
          refine ⟨_, rfl, ?_⟩
          have n0_ := Aside0.mk (zkB (by (with_reducible repeat (first | refine zkN ?_ _ | refine zk1 ?_ | refine zkA ?_ _)); exact BK466.out) hb)
          have n1_ := Aside0.mk (zkB (by (with_reducible repeat (first | refine zkN ?_ _ | refine zk1 ?_ | refine zkA ?_ _)); exact BK467.out) hb)
          have n2_ := Aside0.mk (zkB (by (with_reducible repeat (first | refine zkN ?_ _ | refine zk1 ?_ | refine zkA ?_ _)); exact BK468.out) hb)
          have n3_ := Aside0.mk (zkB (by (with_reducible repeat (first | refine zkN ?_ _ | refine zk1 ?_ | refine zkA ?_ _)); exact BK474.out) hb)
          have n4_ := Aside0.mk (zkB (by (with_reducible repeat (first | refine zkN ?_ _ | refine zk1 ?_ | refine zkA ?_ _)); exact BK479.out) hb)
          have n5_ := Aside0.mk (zkB (by (with_reducible repeat (first | refine zkN ?_ _ | refine zk1 ?_ | refine zkA ?_ _)); exact BK497.out) hb)
          have n6_ := Aside0.mk (zkB (by (with_reducible repeat (first | refine zkN ?_ _ | refine zk1 ?_ | refine zkA ?_ _)); exact BK498.out) hb)
          have n7_ := Aside0.mk (zkB (by (with_reducible repeat (first | refine zkN ?_ _ | refine zk1 ?_ | refine zkA ?_ _)); exact BK506.out) hb)
          have n8_ := Aside0.mk (zkB (by (with_reducible repeat (first | refine zkN ?_ _ | refine zk1 ?_ | refine zkA ?_ _)); exact BK507.out) hb)
          have n9_ := Aside0.mk (zbP (by repeat (first | (with_reducible first | exact HB.out | apply zbA | apply zbN | apply zb1 | refine zbS ?_ GE466.out | refine zbS ?_ GE467.out | refine zbS ?_ GE468.out | refine zbS ?_ GE474.out | refine zbS ?_ GE479.out | refine zbS ?_ GE497.out | refine zbS ?_ GE498.out | refine zbS ?_ GE506.out | refine zbS ?_ GE507.out) | exact HB.out)) hb)
          clear BK466
          clear BK467
          clear BK468
          clear BK474
          clear BK479
          clear BK497
          clear BK498
          clear BK506
          clear BK507
          clear HB
          have BK466 := n0_
          have BK467 := n1_
          have BK468 := n2_
          have BK474 := n3_
          have BK479 := n4_
          have BK497 := n5_
          have BK498 := n6_
          have BK506 := n7_
          have BK507 := n8_
          have HB := n9_
          clear n0_ n1_ n2_ n3_ n4_ n5_ n6_ n7_ n8_ n9_
          (try clear hb)
          (try clear hb2)
          (try clear hk)
          (try clear hi)
          refine hK.out _ _ ⟨(zkC BK497.out 0).trans rfl, (zkC BK497.out 1).trans rfl, (zkC BK497.out 2).trans rfl, (zkC BK506.out 0).trans rfl, (zkC BK506.out 1).trans rfl, (zkC BK506.out 2).trans rfl, (zkC BK498.out 0).trans rfl, (zkC BK498.out 1).trans rfl, (zkC BK498.out 2).trans rfl, (zkC BK507.out 0).trans rfl, (zkC BK507.out 1).trans rfl, (zkC BK507.out 2).trans rfl, (zkC BK466.out 0).trans rfl, (zkC BK466.out 1).trans rfl, (zkC BK466.out 2).trans rfl, (zkC BK468.out 0).trans rfl, (zkC BK468.out 1).trans rfl, (zkC BK467.out 0).trans rfl, (zkC BK467.out 1).trans rfl, (zkC BK467.out 2).trans rfl⟩ (fun hHeld => ?_)
          clear hK K
          refine norm_ (a' := ?_) ?_ ?_
          rotate_left
          ·show Act.put _ (some 99) _ = _
           simp only [Act.put, List.setIfInBounds_toArray, List.set_cons_zero, List.set_cons_succ, i64_w, i32_w]
           rfl
          refine one_ (i := 37) (N := some 102) #[true, true, true, true, true, true, true, true, true, true, true, true, true, true, true, true, true, true, true, true, true, true, true, true, true, true, true, true, true, true, true, true, true, true, true, true, true, true, false, false, false] rfl rfl (one_of HT_.out (by kernel_rfl)) (by decide) (fun K hK => ?_)
          refine goes_ Try.func40 (by kernel_rfl) rfl #[.agg #[.int .u64 a0_0, .int .u64 a0_1, .int .i64 a0_2], .agg #[.int .u64 a1_0, .int .u64 a1_1, .int .i64 a1_2]] (by rfl) rfl rfl (by (try simp only [List.map_toArray, List.map_cons, List.map_nil]); first | done | rfl | (simp only [List.length_drop, List.length_take]; rfl)) ?_
          with_reducible refine (tenancyref01_Meets.calls kj7 a0_0 a0_1 a0_2 a1_0 a1_1 a1_2 t513 _ A67.out).mono ?_
          rintro e w117 ⟨rfl, hb⟩
          refine ⟨_, rfl, ?_⟩
          have n0_ := Aside0.mk (zkB (by (with_reducible repeat (first | refine zkN ?_ _ | refine zk1 ?_ | refine zkA ?_ _)); exact BK466.out) hb)
          have n1_ := Aside0.mk (zkB (by (with_reducible repeat (first | refine zkN ?_ _ | refine zk1 ?_ | refine zkA ?_ _)); exact BK467.out) hb)
          have n2_ := Aside0.mk (zkB (by (with_reducible repeat (first | refine zkN ?_ _ | refine zk1 ?_ | refine zkA ?_ _)); exact BK468.out) hb)
          have n3_ := Aside0.mk (zkB (by (with_reducible repeat (first | refine zkN ?_ _ | refine zk1 ?_ | refine zkA ?_ _)); exact BK474.out) hb)
          have n4_ := Aside0.mk (zkB (by (with_reducible repeat (first | refine zkN ?_ _ | refine zk1 ?_ | refine zkA ?_ _)); exact BK479.out) hb)
          have n5_ := Aside0.mk (zkB (by (with_reducible repeat (first | refine zkN ?_ _ | refine zk1 ?_ | refine zkA ?_ _)); exact BK497.out) hb)
          have n6_ := Aside0.mk (zkB (by (with_reducible repeat (first | refine zkN ?_ _ | refine zk1 ?_ | refine zkA ?_ _)); exact BK498.out) hb)
          have n7_ := Aside0.mk (zkB (by (with_reducible repeat (first | refine zkN ?_ _ | refine zk1 ?_ | refine zkA ?_ _)); exact BK506.out) hb)
          have n8_ := Aside0.mk (zkB (by (with_reducible repeat (first | refine zkN ?_ _ | refine zk1 ?_ | refine zkA ?_ _)); exact BK507.out) hb)
          have n9_ := Aside0.mk (zbP (by repeat (first | (with_reducible first | exact HB.out | apply zbA | apply zbN | apply zb1 | refine zbS ?_ GE466.out | refine zbS ?_ GE467.out | refine zbS ?_ GE468.out | refine zbS ?_ GE474.out | refine zbS ?_ GE479.out | refine zbS ?_ GE497.out | refine zbS ?_ GE498.out | refine zbS ?_ GE506.out | refine zbS ?_ GE507.out) | exact HB.out)) hb)
          clear BK466
          clear BK467
          clear BK468
          clear BK474
          clear BK479
          clear BK497
          clear BK498
          clear BK506
          clear BK507
          clear HB
          have BK466 := n0_
          have BK467 := n1_
          have BK468 := n2_
          have BK474 := n3_
          have BK479 := n4_
          have BK497 := n5_
          have BK498 := n6_
          have BK506 := n7_
          have BK507 := n8_
          have HB := n9_
          clear n0_ n1_ n2_ n3_ n4_ n5_ n6_ n7_ n8_ n9_
          (try clear hb)
          (try clear hb2)
          (try clear hk)
          (try clear hi)
          refine hK.out _ _ ⟨(zkC BK497.out 0).trans rfl, (zkC BK497.out 1).trans rfl, (zkC BK497.out 2).trans rfl, (zkC BK506.out 0).trans rfl, (zkC BK506.out 1).trans rfl, (zkC BK506.out 2).trans rfl, (zkC BK498.out 0).trans rfl, (zkC BK498.out 1).trans rfl, (zkC BK498.out 2).trans rfl, (zkC BK507.out 0).trans rfl, (zkC BK507.out 1).trans rfl, (zkC BK507.out 2).trans rfl, (zkC BK466.out 0).trans rfl, (zkC BK466.out 1).trans rfl, (zkC BK466.out 2).trans rfl, (zkC BK468.out 0).trans rfl, (zkC BK468.out 1).trans rfl, (zkC BK467.out 0).trans rfl, (zkC BK467.out 1).trans rfl, (zkC BK467.out 2).trans rfl⟩ (fun hHeld => ?_)
          clear hK K
          refine norm_ (a' := ?_) ?_ ?_
          rotate_left
          ·show Act.put _ (some 102) _ = _
           simp only [Act.put, List.setIfInBounds_toArray, List.set_cons_zero, List.set_cons_succ, i64_w, i32_w]
           rfl
          refine pure_ (i := 38) (N := some 103) (v := ?_) (a' := ?_) #[true, true, true, true, true, true, true, true, true, true, true, true, true, true, true, true, true, true, true, true, true, true, true, true, true, true, true, true, true, true, true, true, true, true, true, true, true, true, true, false, false] rfl rfl (any_of HT_.out (by kernel_rfl)) (fun _ _ _ h => h) (Or.inl ⟨by rfl, ?_⟩) ?_ ?_
          rotate_left
          ·intro w'
           go_simp
           with_reducible rfl
          rotate_left
          ·simp only [Act.put, List.setIfInBounds_toArray, List.set_cons_zero, List.set_cons_succ, i64_w, i32_w]
           rfl
          refine pure_ (i := 39) (N := some 104) (v := ?_) (a' := ?_) #[true, true, true, true, true, true, true, true, true, true, true, true, true, true, true, true, true, true, true, true, true, true, true, true, true, true, true, true, true, true, true, true, true, true, true, true, true, true, true, true, false] rfl rfl (any_of HT_.out (by kernel_rfl)) (fun _ _ _ h => h) (Or.inl ⟨by rfl, ?_⟩) ?_ ?_
          rotate_left
          ·intro w'
           go_simp
           with_reducible rfl
          rotate_left
          ·simp only [Act.put, List.setIfInBounds_toArray, List.set_cons_zero, List.set_cons_succ, i64_w, i32_w]
           rfl
          refine pure_ (i := 40) (N := some 6) (v := ?_) (a' := ?_) #[true, true, true, true, true, true, true, true, true, true, true, true, true, true, true, true, true, true, true, true, true, true, true, true, true, true, true, true, true, true, true, true, true, true, true, true, true, true, true, true, true] rfl rfl (any_of HT_.out (by kernel_rfl)) (fun _ _ _ h => h) (Or.inl ⟨by rfl, ?_⟩) ?_ ?_
          rotate_left
          ·intro w'
           go_simp
           with_reducible rfl
          rotate_left
          ·simp only [Act.put, List.setIfInBounds_toArray, List.set_cons_zero, List.set_cons_succ, i64_w, i32_w]
           rfl
          refine done_ (done_of HT_.out (by kernel_rfl)) ?_
          try go_wp2
          go_ret
          exact ⟨by first | rfl | (simp [errW_none, errW_some] <;> rfl) | (simp [*, errW_none, errW_some] <;> rfl), by repeat (first | (with_reducible first | exact HB.out | apply zbA | apply zbN | apply zb1 | refine zbS ?_ GE466.out | refine zbS ?_ GE467.out | refine zbS ?_ GE468.out | refine zbS ?_ GE474.out | refine zbS ?_ GE479.out | refine zbS ?_ GE497.out | refine zbS ?_ GE498.out | refine zbS ?_ GE506.out | refine zbS ?_ GE507.out) | exact HB.out)⟩
         ·rw [if_neg c65] at H
          have c65b0 : (t510 == t511) = false := by simpa using c65
          (try (have c65b1 : decide (t510 = t511) = false := by simpa using c65))
          (try (have c65b2 : (t510 == t511) = false := by simpa using c65))
          (try (have c65b3 : ¬ (t510 = t511) := by simpa using c65))
          clear c65
          exact absurd H (by simp)
        ·rw [if_neg c62] at H
         have c62b0 : (t508 == t509) = false := by simpa using c62
         (try (have c62b1 : decide (t508 = t509) = false := by simpa using c62))
         (try (have c62b2 : (t508 == t509) = false := by simpa using c62))
         (try (have c62b3 : ¬ (t508 = t509) := by simpa using c62))
         clear c62
         exact absurd H (by simp)
       ·rw [if_neg c59] at H
        have c59b0 : (t496 == t505) = false := by simpa using c59
        (try (have c59b1 : decide (t496 = t505) = false := by simpa using c59))
        (try (have c59b2 : (t496 == t505) = false := by simpa using c59))
        (try (have c59b3 : ¬ (t496 = t505) := by simpa using c59))
        clear c59
        exact absurd H (by simp)
      ·rw [if_neg c58] at H
       have c58b0 : ((t493 == t502 && (t494 == t503)) && (t495 == t504)) = false := by simpa using c58
       clear c58
       exact absurd H (by simp)
     ·rw [if_neg c57] at H
      have c57b0 : ((t490 == t499 && (t491 == t500)) && (t492 == t501)) = false := by simpa using c57
      clear c57
      exact absurd H (by simp)
 ·replace c5 := Bool.eq_false_iff.mpr c5
  subst c5
  have H1 : (none) = some r := by rw [if_neg (show ¬ (false = true) by decide)] at H; exact H
  clear H
  have H := H1
  clear H1
  exact absurd H (by simp)

/-- The one pure statement of tenancylaw01_AddrPrefixes. -/
def tenancylaw01_AddrPrefixes.Pure : Prop := ∀ (a0_0 : Int) (a0_1 : Int) (a0_2 : Int) (a1_0 : Int) (a1_1 : Int) (a1_2 : Int) (a2_0 : Int) (a2_1 : Int), (Lit.int .u64 a0_0).wf = true → (Lit.int .u64 a0_1).wf = true → (Lit.int .i64 a0_2).wf = true → (Lit.int .u64 a1_0).wf = true → (Lit.int .u64 a1_1).wf = true → (Lit.int .i64 a1_2).wf = true → (Lit.int .u64 a2_0).wf = true → (Lit.int .u64 a2_1).wf = true → ∃ k, tenancylaw01_AddrPrefixes.f k a0_0 a0_1 a0_2 a1_0 a1_1 a1_2 a2_0 a2_1 = some true

end Go.Proofs.Ytpllddgbfhnghaa.P
