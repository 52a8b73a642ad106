-- Written by pp.py, a program of this session, out of the translation.
import Derived.Test.YtpllddgbfhnghaaPx0
import Derived.Test.YtpllddgbfhnghaaPx1
import Derived.Test.YtpllddgbfhnghaaPx4
import Derived.Test.YtpllddgbfhnghaaPx5
import Derived.Test.YtpllddgbfhnghaaPx6
import Derived.Test.YtpllddgbfhnghaaPx8
import Derived.Test.YtpllddgbfhnghaaPx9
import Derived.Test.YtpllddgbfhnghaaPx11
import Derived.Test.YtpllddgbfhnghaaPx18
import Derived.Test.YtpllddgbfhnghaaPx19
import Derived.Test.YtpllddgbfhnghaaPx20
import Derived.Test.YtpllddgbfhnghaaPx21
import Derived.Test.YtpllddgbfhnghaaPx22
import Derived.Test.YtpllddgbfhnghaaPx23
import Derived.Test.YtpllddgbfhnghaaPx24
namespace Go.Proofs.Ytpllddgbfhnghaa.P
open Go.RowKit Go.Proofs.YtpllddgbfhnghaaW.PrintWords Go.Proofs.YtpllddgbfhnghaaW.PrintLast Go.Proofs.YtpllddgbfhnghaaW.PrintMore
attribute [local go_sem] max2_int min2_int max_two min_two max_three min_three max_four min_four   -- for this text's walks alone
set_option linter.unusedVariables false
set_option linter.unusedSimpArgs false

attribute [local go_sem high] eqA24
/-! ### tenancylaw01_AddrNumbers: function 7 -/
mutual
def tenancylaw01_AddrNumbers.j0 : Nat → Int → Bool → Int → Int → Int → Int → Option (Bool)
  | 0, _, _, _, _, _, _ => none
  | k + 1, x2, x34, x371000, x371001, x372000, x372001 => if x34 = true then (none) else ((addr_Sub.f x371000 x371001 x372000 x372001).bind fun bt381 => ((tenancyref01_Sub.f k x371000 x371001 x372000 x372001).bind fun bt384 => (if (!(bt381.1 == bt384.1) || (!(bt381.2.1 == bt384.2.1))) = true then (tenancylaw01_AddrNumbers.j1 k x2 true x371000 x371001 x372000 x372001) else (tenancylaw01_AddrNumbers.j1 k x2 (bt381.2.2 != bt384.2.2) x371000 x371001 x372000 x372001))))
def tenancylaw01_AddrNumbers.j1 : Nat → Int → Bool → Int → Int → Int → Int → Option (Bool)
  | 0, _, _, _, _, _, _ => none
  | k + 1, x2, x54, x371000, x371001, x372000, x372001 => if x54 = true then (none) else ((addr_Mod.f k x371000 x371001 x372000 x372001).bind fun bt387 => ((tenancyref01_Mod.f k x371000 x371001 x372000 x372001).bind fun bt390 => (if (!(bt387.1 == bt390.1) || (!(bt387.2.1 == bt390.2.1))) = true then (tenancylaw01_AddrNumbers.j2 k x2 true x371000 x371001 x372000 x372001) else (tenancylaw01_AddrNumbers.j2 k x2 (bt387.2.2 != bt390.2.2) x371000 x371001 x372000 x372001))))
def tenancylaw01_AddrNumbers.j2 : Nat → Int → Bool → Int → Int → Int → Int → Option (Bool)
  | 0, _, _, _, _, _, _ => none
  | k + 1, x2, x74, x371000, x371001, x372000, x372001 => if x74 = true then (none) else ((addr_To4.f x371000 x371001).bind fun bt393 => ((tenancyref01_To4.f k x371000 x371001).bind fun bt395 => (if bt393.1 = bt395.1 then (if (bt393.2 == bt395.2) = true then ((addr_Cmp.f k x371000 x371001 x372000 x372001).bind fun t397 => ((tenancyref01_Cmp.f k x371000 x371001 x372000 x372001).bind fun t398 => (if t397 = t398 then ((addr_Up.f x371000 x371001 x2).bind fun bt399 => ((tenancyref01_Up.f k x371000 x371001 x2).bind fun bt401 => (if (bt399.1 == bt401.1 && (bt399.2 == bt401.2)) = true then ((addr_Down.f x371000 x371001 x2).bind fun bt403 => ((tenancyref01_Down.f k x371000 x371001 x2).bind fun bt405 => (if (bt403.1 == bt405.1 && (bt403.2 == bt405.2)) = true then ((addr_Of4.f ((x371001) % 4294967296)).bind fun bt407 => ((tenancyref01_Of4.f ((x371001) % 4294967296)).bind fun bt409 => (some (bt407.1 == bt409.1 && (bt407.2 == bt409.2))))) else (none)))) else (none)))) else (none)))) else (none)) else (none))))
end
def tenancylaw01_AddrNumbers.f (k : Nat) (a0_0 : Int) (a0_1 : Int) (a1_0 : Int) (a1_1 : Int) (a2 : Int) : Option (Bool) := (tenancylaw01_awake.f k).bind fun t372 => (if t372 = true then ((addr_Add.f a0_0 a0_1 a1_0 a1_1).bind fun bt373 => ((tenancyref01_Add.f k a0_0 a0_1 a1_0 a1_1).bind fun bt377 => (if (!(bt373.1 == bt377.1) || (!(bt373.2.1 == bt377.2.1))) = true then (tenancylaw01_AddrNumbers.j0 k a2 true a0_0 a0_1 a1_0 a1_1) else (tenancylaw01_AddrNumbers.j0 k a2 (bt373.2.2 != bt377.2.2) a0_0 a0_1 a1_0 a1_1)))) else (none))
theorem tenancylaw01_AddrNumbers.mono_l : ∀ k, (∀ y0 y1 y2 y3 y4 y5, LeO (tenancylaw01_AddrNumbers.j0 k y0 y1 y2 y3 y4 y5) (tenancylaw01_AddrNumbers.j0 (k + 1) y0 y1 y2 y3 y4 y5)) ∧ (∀ y0 y1 y2 y3 y4 y5, LeO (tenancylaw01_AddrNumbers.j1 k y0 y1 y2 y3 y4 y5) (tenancylaw01_AddrNumbers.j1 (k + 1) y0 y1 y2 y3 y4 y5)) ∧ (∀ y0 y1 y2 y3 y4 y5, LeO (tenancylaw01_AddrNumbers.j2 k y0 y1 y2 y3 y4 y5) (tenancylaw01_AddrNumbers.j2 (k + 1) y0 y1 y2 y3 y4 y5))
  | 0 => ⟨fun _ _ _ _ _ _ r h => by simp [tenancylaw01_AddrNumbers.j0] at h, fun _ _ _ _ _ _ r h => by simp [tenancylaw01_AddrNumbers.j1] at h, fun _ _ _ _ _ _ r h => by simp [tenancylaw01_AddrNumbers.j2] at h⟩
  | k + 1 => by
    obtain ⟨ih0, ih1, ih2⟩ := tenancylaw01_AddrNumbers.mono_l k
    refine ⟨?_, ?_, ?_⟩
    · intro y0 y1 y2 y3 y4 y5
      unfold tenancylaw01_AddrNumbers.j0
      repeat' first
      | (with_reducible exact ih0 _ _ _ _ _ _)
      | (with_reducible exact ih1 _ _ _ _ _ _)
      | (with_reducible exact ih2 _ _ _ _ _ _)
      | (with_reducible exact addr_Cmp.mono _ _ _ _ _)
      | (with_reducible exact addr_Mod.mono _ _ _ _ _)
      | (with_reducible exact tenancylaw01_awake.mono _)
      | (with_reducible exact tenancyref01_Add.mono _ _ _ _ _)
      | (with_reducible exact tenancyref01_Cmp.mono _ _ _ _ _)
      | (with_reducible exact tenancyref01_Down.mono _ _ _ _)
      | (with_reducible exact tenancyref01_Mod.mono _ _ _ _ _)
      | (with_reducible exact tenancyref01_Sub.mono _ _ _ _ _)
      | (with_reducible exact tenancyref01_To4.mono _ _ _)
      | (with_reducible exact tenancyref01_Up.mono _ _ _ _)
      | (with_reducible exact LeO.refl _)
      | (with_reducible exact LeO.none _)
      | (with_reducible refine LeO.ite ?_ ?_)
      | (with_reducible refine LeO.bind ?_ (fun _ => ?_))
      | exact ih0 _ _ _ _ _ _
      | exact ih1 _ _ _ _ _ _
      | exact ih2 _ _ _ _ _ _
      | exact addr_Cmp.mono _ _ _ _ _
      | exact addr_Mod.mono _ _ _ _ _
      | exact tenancylaw01_awake.mono _
      | exact tenancyref01_Add.mono _ _ _ _ _
      | exact tenancyref01_Cmp.mono _ _ _ _ _
      | exact tenancyref01_Down.mono _ _ _ _
      | exact tenancyref01_Mod.mono _ _ _ _ _
      | exact tenancyref01_Sub.mono _ _ _ _ _
      | exact tenancyref01_To4.mono _ _ _
      | exact tenancyref01_Up.mono _ _ _ _
      | exact LeO.none _
      | refine LeO.ite ?_ ?_
      | refine LeO.bind ?_ (fun _ => ?_)
    · intro y0 y1 y2 y3 y4 y5
      unfold tenancylaw01_AddrNumbers.j1
      repeat' first
      | (with_reducible exact ih0 _ _ _ _ _ _)
      | (with_reducible exact ih1 _ _ _ _ _ _)
      | (with_reducible exact ih2 _ _ _ _ _ _)
      | (with_reducible exact addr_Cmp.mono _ _ _ _ _)
      | (with_reducible exact addr_Mod.mono _ _ _ _ _)
      | (with_reducible exact tenancylaw01_awake.mono _)
      | (with_reducible exact tenancyref01_Add.mono _ _ _ _ _)
      | (with_reducible exact tenancyref01_Cmp.mono _ _ _ _ _)
      | (with_reducible exact tenancyref01_Down.mono _ _ _ _)
      | (with_reducible exact tenancyref01_Mod.mono _ _ _ _ _)
      | (with_reducible exact tenancyref01_Sub.mono _ _ _ _ _)
      | (with_reducible exact tenancyref01_To4.mono _ _ _)
      | (with_reducible exact tenancyref01_Up.mono _ _ _ _)
      | (with_reducible exact LeO.refl _)
      | (with_reducible exact LeO.none _)
      | (with_reducible refine LeO.ite ?_ ?_)
      | (with_reducible refine LeO.bind ?_ (fun _ => ?_))
      | exact ih0 _ _ _ _ _ _
      | exact ih1 _ _ _ _ _ _
      | exact ih2 _ _ _ _ _ _
      | exact addr_Cmp.mono _ _ _ _ _
      | exact addr_Mod.mono _ _ _ _ _
      | exact tenancylaw01_awake.mono _
      | exact tenancyref01_Add.mono _ _ _ _ _
      | exact tenancyref01_Cmp.mono _ _ _ _ _
      | exact tenancyref01_Down.mono _ _ _ _
      | exact tenancyref01_Mod.mono _ _ _ _ _
      | exact tenancyref01_Sub.mono _ _ _ _ _
      | exact tenancyref01_To4.mono _ _ _
      | exact tenancyref01_Up.mono _ _ _ _
      | exact LeO.none _
      | refine LeO.ite ?_ ?_
      | refine LeO.bind ?_ (fun _ => ?_)
    · intro y0 y1 y2 y3 y4 y5
      unfold tenancylaw01_AddrNumbers.j2
      repeat' first
      | (with_reducible exact ih0 _ _ _ _ _ _)
      | (with_reducible exact ih1 _ _ _ _ _ _)
      | (with_reducible exact ih2 _ _ _ _ _ _)
      | (with_reducible exact addr_Cmp.mono _ _ _ _ _)
      | (with_reducible exact addr_Mod.mono _ _ _ _ _)
      | (with_reducible exact tenancylaw01_awake.mono _)
      | (with_reducible exact tenancyref01_Add.mono _ _ _ _ _)
      | (with_reducible exact tenancyref01_Cmp.mono _ _ _ _ _)
      | (with_reducible exact tenancyref01_Down.mono _ _ _ _)
      | (with_reducible exact tenancyref01_Mod.mono _ _ _ _ _)
      | (with_reducible exact tenancyref01_Sub.mono _ _ _ _ _)
      | (with_reducible exact tenancyref01_To4.mono _ _ _)
      | (with_reducible exact tenancyref01_Up.mono _ _ _ _)
      | (with_reducible exact LeO.refl _)
      | (with_reducible exact LeO.none _)
      | (with_reducible refine LeO.ite ?_ ?_)
      | (with_reducible refine LeO.bind ?_ (fun _ => ?_))
      | exact ih0 _ _ _ _ _ _
      | exact ih1 _ _ _ _ _ _
      | exact ih2 _ _ _ _ _ _
      | exact addr_Cmp.mono _ _ _ _ _
      | exact addr_Mod.mono _ _ _ _ _
      | exact tenancylaw01_awake.mono _
      | exact tenancyref01_Add.mono _ _ _ _ _
      | exact tenancyref01_Cmp.mono _ _ _ _ _
      | exact tenancyref01_Down.mono _ _ _ _
      | exact tenancyref01_Mod.mono _ _ _ _ _
      | exact tenancyref01_Sub.mono _ _ _ _ _
      | exact tenancyref01_To4.mono _ _ _
      | exact tenancyref01_Up.mono _ _ _ _
      | exact LeO.none _
      | refine LeO.ite ?_ ?_
      | refine LeO.bind ?_ (fun _ => ?_)
theorem tenancylaw01_AddrNumbers.mono : ∀ a0 a1 a2 a3 a4 k, LeO (tenancylaw01_AddrNumbers.f k a0 a1 a2 a3 a4) (tenancylaw01_AddrNumbers.f (k + 1) a0 a1 a2 a3 a4) := by
  intro a0 a1 a2 a3 a4 k
  obtain ⟨ih0, ih1, ih2⟩ := tenancylaw01_AddrNumbers.mono_l k
  unfold tenancylaw01_AddrNumbers.f
  repeat' first
      | (with_reducible exact ih0 _ _ _ _ _ _)
      | (with_reducible exact ih1 _ _ _ _ _ _)
      | (with_reducible exact ih2 _ _ _ _ _ _)
      | (with_reducible exact addr_Cmp.mono _ _ _ _ _)
      | (with_reducible exact addr_Mod.mono _ _ _ _ _)
      | (with_reducible exact tenancylaw01_awake.mono _)
      | (with_reducible exact tenancyref01_Add.mono _ _ _ _ _)
      | (with_reducible exact tenancyref01_Cmp.mono _ _ _ _ _)
      | (with_reducible exact tenancyref01_Down.mono _ _ _ _)
      | (with_reducible exact tenancyref01_Mod.mono _ _ _ _ _)
      | (with_reducible exact tenancyref01_Sub.mono _ _ _ _ _)
      | (with_reducible exact tenancyref01_To4.mono _ _ _)
      | (with_reducible exact tenancyref01_Up.mono _ _ _ _)
      | (with_reducible exact LeO.refl _)
      | (with_reducible exact LeO.none _)
      | (with_reducible refine LeO.ite ?_ ?_)
      | (with_reducible refine LeO.bind ?_ (fun _ => ?_))
      | exact ih0 _ _ _ _ _ _
      | exact ih1 _ _ _ _ _ _
      | exact ih2 _ _ _ _ _ _
      | exact addr_Cmp.mono _ _ _ _ _
      | exact addr_Mod.mono _ _ _ _ _
      | exact tenancylaw01_awake.mono _
      | exact tenancyref01_Add.mono _ _ _ _ _
      | exact tenancyref01_Cmp.mono _ _ _ _ _
      | exact tenancyref01_Down.mono _ _ _ _
      | exact tenancyref01_Mod.mono _ _ _ _ _
      | exact tenancyref01_Sub.mono _ _ _ _ _
      | exact tenancyref01_To4.mono _ _ _
      | exact tenancyref01_Up.mono _ _ _ _
      | exact LeO.none _
      | refine LeO.ite ?_ ?_
      | refine LeO.bind ?_ (fun _ => ?_)
def tenancylaw01_AddrNumbers.T17 : Bool × List (List Nat × List Nat) := (true, [([], []), ([], []), ([0, 1], [0, 1]), ([2], [2]), ([3], [3]), ([3], [3]), ([4, 5, 3], [3, 4, 5]), ([3, 6], [3, 6]), ([7, 3], [7]), ([8], [8]), ([8], [8]), ([9, 10, 8, 8], [8, 9, 10]), ([8], [8]), ([8], [8]), ([12, 13, 11, 8], [8, 12, 13]), ([11, 14, 8], [8, 11, 14]), ([8, 15], [8, 15]), ([16, 14], [16]), ([17], [17]), ([17], [17]), ([18, 19, 17, 17], [17, 18, 19]), ([17], [17]), ([17], [17]), ([21, 22, 20, 17], [17, 21, 22]), ([20, 23, 17], [17, 20, 23]), ([17, 24], [17, 24]), ([25, 23], [25]), ([26], [26]), ([26], [26]), ([27, 28, 26, 26], [26, 27, 28]), ([26], [26]), ([26], [26]), ([30, 31, 29, 26], [26, 30, 31]), ([29, 32, 26], [26, 29, 32]), ([26, 33], [26, 33]), ([34, 32], [34]), ([35], [35]), ([36, 35], [35, 36]), ([37, 35], [35, 37]), ([38, 35, 35], [35, 38]), ([35], [35]), ([40, 35], [35, 40]), ([41, 35], [35, 41]), ([42, 39, 35], [35, 42]), ([39, 43, 35], [35, 39, 43]), ([35, 44], [35, 44]), ([45, 43, 0, 1, 2, 3, 4, 5, 6, 7, 8, 9, 10, 11, 12, 13, 14, 15, 16, 17, 18, 19, 20, 21, 22, 23, 24, 25, 26, 27, 28, 29, 30, 31, 32, 33, 34, 35, 36, 37, 38, 39, 40, 41, 42, 43, 44, 45], [45])])
def tenancylaw01_AddrNumbers.B17 : List Nat := [0, 0, 3, 7, 15, 15, 63, 127, 255, 511, 511, 2047, 511, 511, 16383, 32767, 65535, 131071, 262143, 262143, 1048575, 262143, 262143, 8388607, 16777215, 33554431, 67108863, 134217727, 134217727, 536870911, 134217727, 134217727, 4294967295, 8589934591, 17179869183, 34359738367, 68719476735, 137438953471, 274877906943, 549755813887, 68719476735, 1168231104511, 3367254360063, 8796093022207, 17592186044415, 35184372088831, 70368744177663]
theorem tenancylaw01_AddrNumbers.tab17 : rtab .any (opsOf Try.f7 17) = tenancylaw01_AddrNumbers.T17 := by kernel_rfl
theorem tenancylaw01_AddrNumbers.bits17 : waitsOk tenancylaw01_AddrNumbers.T17.2 tenancylaw01_AddrNumbers.B17 = true := by kernel_rfl
set_option maxHeartbeats 8000000 in
set_option maxRecDepth 100000 in
theorem tenancylaw01_AddrNumbers.calls (k : Nat) (a0_0 : Int) (a0_1 : Int) (a1_0 : Int) (a1_1 : Int) (a2 : Int) (r : Bool) (w : World) (h : tenancylaw01_AddrNumbers.f k a0_0 a0_1 a1_0 a1_1 a2 = some r) :
    Calls Try.prog 7 #[.agg #[.int .u64 a0_0, .int .u64 a0_1], .agg #[.int .u64 a1_0, .int .u64 a1_1], .int .i64 a2] w fun e w' => e = .returned (.bool r) ∧ Below w.heap.size w w' := by
  have hu24 := Try.underlying24
  have HB := Aside0.mk (Below.refl w.heap.size w)
  have H : ((tenancylaw01_awake.f k).bind fun t372 => (if t372 = true then ((addr_Add.f a0_0 a0_1 a1_0 a1_1).bind fun bt373 => ((tenancyref01_Add.f k a0_0 a0_1 a1_0 a1_1).bind fun bt377 => (if (!(bt373.1 == bt377.1) || (!(bt373.2.1 == bt377.2.1))) = true then (tenancylaw01_AddrNumbers.j0 k a2 true a0_0 a0_1 a1_0 a1_1) else (tenancylaw01_AddrNumbers.j0 k a2 (bt373.2.2 != bt377.2.2) a0_0 a0_1 a1_0 a1_1)))) else (none))) = some r := h
  clear h
  replace H := Option.bind_eq_some_iff.mp H
  obtain ⟨t372, A40, H⟩ := H
  replace H : (if t372 = true then ((addr_Add.f a0_0 a0_1 a1_0 a1_1).bind fun bt373 => ((tenancyref01_Add.f k a0_0 a0_1 a1_0 a1_1).bind fun bt377 => (if (!(bt373.1 == bt377.1) || (!(bt373.2.1 == bt377.2.1))) = true then (tenancylaw01_AddrNumbers.j0 k a2 true a0_0 a0_1 a1_0 a1_1) else (tenancylaw01_AddrNumbers.j0 k a2 (bt373.2.2 != bt377.2.2) a0_0 a0_1 a1_0 a1_1)))) else (none)) = some r := H
  have A4 := Aside0.mk A40
  clear A40
  by_cases c5 : t372 = true
  · subst c5
    have H1 : ((addr_Add.f a0_0 a0_1 a1_0 a1_1).bind fun bt373 => ((tenancyref01_Add.f k a0_0 a0_1 a1_0 a1_1).bind fun bt377 => (if (!(bt373.1 == bt377.1) || (!(bt373.2.1 == bt377.2.1))) = true then (tenancylaw01_AddrNumbers.j0 k a2 true a0_0 a0_1 a1_0 a1_1) else (tenancylaw01_AddrNumbers.j0 k a2 (bt373.2.2 != bt377.2.2) a0_0 a0_1 a1_0 a1_1)))) = some r := by rw [if_pos rfl] at H; exact H
    clear H
    have H := H1
    clear H1
    replace H := Option.bind_eq_some_iff.mp H
    obtain ⟨⟨t373, t374, t375⟩, A60, H⟩ := H
    replace H : ((tenancyref01_Add.f k a0_0 a0_1 a1_0 a1_1).bind fun bt377 => (if (!(t373 == bt377.1) || (!(t374 == bt377.2.1))) = true then (tenancylaw01_AddrNumbers.j0 k a2 true a0_0 a0_1 a1_0 a1_1) else (tenancylaw01_AddrNumbers.j0 k a2 (t375 != bt377.2.2) a0_0 a0_1 a1_0 a1_1))) = some r := H
    have A6 := Aside0.mk A60
    clear A60
    replace H := Option.bind_eq_some_iff.mp H
    obtain ⟨⟨t377, t378, t379⟩, A70, H⟩ := H
    replace H : (if (!(t373 == t377) || (!(t374 == t378))) = true then (tenancylaw01_AddrNumbers.j0 k a2 true a0_0 a0_1 a1_0 a1_1) else (tenancylaw01_AddrNumbers.j0 k a2 (t375 != t379) a0_0 a0_1 a1_0 a1_1)) = some r := H
    have A7 := Aside0.mk A70
    clear A70
    have HC8 := Aside0.mk H
    clear H
    go_enter Try.func7, Try.ntmps7
    go_upto_region 5 with (first | ((with_reducible refine gate_dst (N := 3) rfl ?_); refine box_event ?hg (N := 3) ?hd (cs := #[.int .u64 a0_0, .int .u64 a0_1]) (t := 24) ?hr ?_; (case hd => rfl); (case hg => rfl); (case hr => first | (go_simp; done) | (go_simp; rfl)); intro gb370 hg w9 hbox hb; have n0_ := Aside0.mk (below_step (by repeat (first | (with_reducible first | exact HB.out | apply below_alloc | apply pw_below_drewN | apply below_drew1) | exact HB.out)) hb); have n1_ := Aside0.mk (hbox); have n2_ := Aside0.mk ((by rw [hg]; exact (below_size (by repeat (first | (with_reducible first | exact HB.out | apply below_alloc | apply pw_below_drewN | apply below_drew1) | exact HB.out))) : w.heap.size ≤ gb370)); have n3_ := Aside0.mk ((by rw [hg]; exact (below_size (by repeat (first | (with_reducible first | exact HB.out | apply below_alloc | apply pw_below_drewN | apply below_drew1) | exact HB.out))) : w.heap.size ≤ gb370)); clear HB; have HB := n0_; have BK370 := n1_; have GW370 := n2_; have GE370 := n3_; clear n0_ n1_ n2_ n3_; clear hb hbox hg) | ((with_reducible refine gate_dst (N := 4) rfl ?_); refine box_event ?hg (N := 4) ?hd (cs := #[.int .u64 a1_0, .int .u64 a1_1]) (t := 24) ?hr ?_; (case hd => rfl); (case hg => rfl); (case hr => first | (go_simp; done) | (go_simp; rfl)); intro gb371 hg w10 hbox hb; have n0_ := Aside0.mk (blk_below (g := gb370) (o := .cells #[.int .u64 a0_0, .int .u64 a0_1] 24 (0, 0)) (by (with_reducible repeat (first | refine blk_drewN ?_ _ | refine blk_drew ?_ | refine blk_alloc ?_ _)); exact BK370.out) hb); have n1_ := Aside0.mk (below_step (by repeat (first | (with_reducible first | exact HB.out | apply below_alloc | apply pw_below_drewN | apply below_drew1 | refine below_set ?_ GE370.out) | exact HB.out)) hb); have n2_ := Aside0.mk (hbox); have n3_ := Aside0.mk ((by rw [hg]; exact (below_size (by repeat (first | (with_reducible first | exact HB.out | apply below_alloc | apply pw_below_drewN | apply below_drew1 | refine below_set ?_ GE370.out) | exact HB.out))) : w.heap.size ≤ gb371)); have n4_ := Aside0.mk ((by rw [hg]; exact (below_size (by repeat (first | (with_reducible first | exact HB.out | apply below_alloc | apply pw_below_drewN | apply below_drew1 | refine below_set ?_ GE370.out) | exact HB.out))) : w.heap.size ≤ gb371)); have n5_ := Aside0.mk ((by rw [hg]; exact Nat.ne_of_lt (blk_lt (g := gb370) (o := .cells #[.int .u64 a0_0, .int .u64 a0_1] 24 (0, 0)) (by (with_reducible repeat (first | refine blk_drewN ?_ _ | refine blk_drew ?_ | refine blk_alloc ?_ _)); exact BK370.out)) : gb370 ≠ gb371)); have n6_ := Aside0.mk ((by rw [hg]; exact Nat.ne_of_gt (blk_lt (g := gb370) (o := .cells #[.int .u64 a0_0, .int .u64 a0_1] 24 (0, 0)) (by (with_reducible repeat (first | refine blk_drewN ?_ _ | refine blk_drew ?_ | refine blk_alloc ?_ _)); exact BK370.out)) : gb371 ≠ gb370)); clear BK370; clear HB; have BK370 := n0_; have HB := n1_; have BK371 := n2_; have GW371 := n3_; have GE371 := n4_; have NB370_371 := n5_; have NB371_370 := n6_; clear n0_ n1_ n2_ n3_ n4_ n5_ n6_; clear hb hbox hg) | ((with_reducible refine gate_callee (f := 10) rfl ?_); refine goesL_ (some 13) rfl rfl Try.func10 (by kernel_rfl) rfl #[] rfl (by (try simp only [List.map_toArray, List.map_cons, List.map_nil]); first | done | rfl | (simp only [List.length_drop, List.length_take]; rfl)) ?_; (with_reducible refine (tenancylaw01_awake.calls k  true _ A4.out).mono ?_); rintro e w11 ⟨rfl, hb⟩; refine ⟨_, rfl, ?_⟩; have n0_ := Aside0.mk (blk_below (g := gb370) (o := .cells #[.int .u64 a0_0, .int .u64 a0_1] 24 (0, 0)) (by (with_reducible repeat (first | refine blk_drewN ?_ _ | refine blk_drew ?_ | refine blk_alloc ?_ _)); exact BK370.out) hb); have n1_ := Aside0.mk (blk_below (g := gb371) (o := .cells #[.int .u64 a1_0, .int .u64 a1_1] 24 (0, 0)) (by (with_reducible repeat (first | refine blk_drewN ?_ _ | refine blk_drew ?_ | refine blk_alloc ?_ _)); exact BK371.out) hb); have n2_ := Aside0.mk (below_step (by repeat (first | (with_reducible first | exact HB.out | apply below_alloc | apply pw_below_drewN | apply below_drew1 | refine below_set ?_ GE370.out | refine below_set ?_ GE371.out) | exact HB.out)) hb); clear BK370; clear BK371; clear HB; have BK370 := n0_; have BK371 := n1_; have HB := n2_; clear n0_ n1_ n2_; (try clear hb); (try clear hb2); (try clear hk); (try clear hi); have hnb12 := NB370_371.out; have hnc12 := NB371_370.out; have hcz13_0 : w11.cell? ⟨gb370, 0, none⟩ = some (.int .u64 a0_0) := (blk_cell BK370.out 0).trans rfl; have hcz13_1 : w11.cell? ⟨gb370, 1, none⟩ = some (.int .u64 a0_1) := (blk_cell BK370.out 1).trans rfl; have hfz13_0 := blk_frozen BK370.out 0; have hfz13_1 := blk_frozen BK370.out 1; have hcz14_0 : w11.cell? ⟨gb371, 0, none⟩ = some (.int .u64 a1_0) := (blk_cell BK371.out 0).trans rfl; have hcz14_1 : w11.cell? ⟨gb371, 1, none⟩ = some (.int .u64 a1_1) := (blk_cell BK371.out 1).trans rfl; have hfz14_0 := blk_frozen BK371.out 0; have hfz14_1 := blk_frozen BK371.out 1) | ((with_reducible refine gate_callee (f := 11) rfl ?_); refine goesL_ (some 18) rfl rfl Try.func11 (by kernel_rfl) rfl #[.agg #[.int .u64 a0_0, .int .u64 a0_1], .agg #[.int .u64 a1_0, .int .u64 a1_1]] rfl (by (try simp only [List.map_toArray, List.map_cons, List.map_nil]); first | done | rfl | (simp only [List.length_drop, List.length_take]; rfl)) ?_; (with_reducible refine (addr_Add.calls a0_0 a0_1 a1_0 a1_1 t373 t374 t375 _ A6.out).mono ?_); rintro e w15 ⟨rfl, hb⟩; refine ⟨_, rfl, ?_⟩; have n0_ := Aside0.mk (blk_below (g := gb370) (o := .cells #[.int .u64 a0_0, .int .u64 a0_1] 24 (0, 0)) (by (with_reducible repeat (first | refine blk_drewN ?_ _ | refine blk_drew ?_ | refine blk_alloc ?_ _)); exact BK370.out) hb); have n1_ := Aside0.mk (blk_below (g := gb371) (o := .cells #[.int .u64 a1_0, .int .u64 a1_1] 24 (0, 0)) (by (with_reducible repeat (first | refine blk_drewN ?_ _ | refine blk_drew ?_ | refine blk_alloc ?_ _)); exact BK371.out) hb); have n2_ := Aside0.mk (below_step (by repeat (first | (with_reducible first | exact HB.out | apply below_alloc | apply pw_below_drewN | apply below_drew1 | refine below_set ?_ GE370.out | refine below_set ?_ GE371.out) | exact HB.out)) hb); clear BK370; clear BK371; clear HB; have BK370 := n0_; have BK371 := n1_; have HB := n2_; clear n0_ n1_ n2_; (try clear hb); (try clear hb2); (try clear hk); (try clear hi)) | ((with_reducible refine gate_dst (N := 7) rfl ?_); refine box_event ?hg (N := 7) ?hd (cs := #[.int .u64 0, .int .u64 0]) (t := 24) ?hr ?_; (case hd => rfl); (case hg => rfl); (case hr => first | (go_simp; done) | (go_simp; rfl)); intro gb376 hg w16 hbox hb; have n0_ := Aside0.mk (blk_below (g := gb370) (o := .cells #[.int .u64 a0_0, .int .u64 a0_1] 24 (0, 0)) (by (with_reducible repeat (first | refine blk_drewN ?_ _ | refine blk_drew ?_ | refine blk_alloc ?_ _)); exact BK370.out) hb); have n1_ := Aside0.mk (blk_below (g := gb371) (o := .cells #[.int .u64 a1_0, .int .u64 a1_1] 24 (0, 0)) (by (with_reducible repeat (first | refine blk_drewN ?_ _ | refine blk_drew ?_ | refine blk_alloc ?_ _)); exact BK371.out) hb); have n2_ := Aside0.mk (below_step (by repeat (first | (with_reducible first | exact HB.out | apply below_alloc | apply pw_below_drewN | apply below_drew1 | refine below_set ?_ GE370.out | refine below_set ?_ GE371.out) | exact HB.out)) hb); have n3_ := Aside0.mk (hbox); have n4_ := Aside0.mk ((by rw [hg]; exact (below_size (by repeat (first | (with_reducible first | exact HB.out | apply below_alloc | apply pw_below_drewN | apply below_drew1 | refine below_set ?_ GE370.out | refine below_set ?_ GE371.out) | exact HB.out))) : w.heap.size ≤ gb376)); have n5_ := Aside0.mk ((by rw [hg]; exact (below_size (by repeat (first | (with_reducible first | exact HB.out | apply below_alloc | apply pw_below_drewN | apply below_drew1 | refine below_set ?_ GE370.out | refine below_set ?_ GE371.out) | exact HB.out))) : w.heap.size ≤ gb376)); have n6_ := Aside0.mk ((by rw [hg]; exact Nat.ne_of_lt (blk_lt (g := gb370) (o := .cells #[.int .u64 a0_0, .int .u64 a0_1] 24 (0, 0)) (by (with_reducible repeat (first | refine blk_drewN ?_ _ | refine blk_drew ?_ | refine blk_alloc ?_ _)); exact BK370.out)) : gb370 ≠ gb376)); have n7_ := Aside0.mk ((by rw [hg]; exact Nat.ne_of_gt (blk_lt (g := gb370) (o := .cells #[.int .u64 a0_0, .int .u64 a0_1] 24 (0, 0)) (by (with_reducible repeat (first | refine blk_drewN ?_ _ | refine blk_drew ?_ | refine blk_alloc ?_ _)); exact BK370.out)) : gb376 ≠ gb370)); have n8_ := Aside0.mk ((by rw [hg]; exact Nat.ne_of_lt (blk_lt (g := gb371) (o := .cells #[.int .u64 a1_0, .int .u64 a1_1] 24 (0, 0)) (by (with_reducible repeat (first | refine blk_drewN ?_ _ | refine blk_drew ?_ | refine blk_alloc ?_ _)); exact BK371.out)) : gb371 ≠ gb376)); have n9_ := Aside0.mk ((by rw [hg]; exact Nat.ne_of_gt (blk_lt (g := gb371) (o := .cells #[.int .u64 a1_0, .int .u64 a1_1] 24 (0, 0)) (by (with_reducible repeat (first | refine blk_drewN ?_ _ | refine blk_drew ?_ | refine blk_alloc ?_ _)); exact BK371.out)) : gb376 ≠ gb371)); clear BK370; clear BK371; clear HB; have BK370 := n0_; have BK371 := n1_; have HB := n2_; have BK376 := n3_; have GW376 := n4_; have GE376 := n5_; have NB370_376 := n6_; have NB376_370 := n7_; have NB371_376 := n8_; have NB376_371 := n9_; clear n0_ n1_ n2_ n3_ n4_ n5_ n6_ n7_ n8_ n9_; clear hb hbox hg; have hnb17 := NB376_370.out; have hnc17 := NB370_376.out; have hnb18 := NB376_371.out; have hnc18 := NB371_376.out; have hcz19_0 : w16.cell? ⟨gb376, 0, none⟩ = some (.int .u64 0) := (blk_cell BK376.out 0).trans rfl; have hcz19_1 : w16.cell? ⟨gb376, 1, none⟩ = some (.int .u64 0) := (blk_cell BK376.out 1).trans rfl; have hfz19_0 := blk_frozen BK376.out 0; have hfz19_1 := blk_frozen BK376.out 1; have hcz20_0 : w16.cell? ⟨gb370, 0, none⟩ = some (.int .u64 a0_0) := (blk_cell BK370.out 0).trans rfl; have hcz20_1 : w16.cell? ⟨gb370, 1, none⟩ = some (.int .u64 a0_1) := (blk_cell BK370.out 1).trans rfl; have hfz20_0 := blk_frozen BK370.out 0; have hfz20_1 := blk_frozen BK370.out 1; have hcz21_0 : w16.cell? ⟨gb371, 0, none⟩ = some (.int .u64 a1_0) := (blk_cell BK371.out 0).trans rfl; have hcz21_1 : w16.cell? ⟨gb371, 1, none⟩ = some (.int .u64 a1_1) := (blk_cell BK371.out 1).trans rfl; have hfz21_0 := blk_frozen BK371.out 0; have hfz21_1 := blk_frozen BK371.out 1) | ((with_reducible refine gate_callee (f := 22) rfl ?_); refine goesL_ (some 24) rfl rfl Try.func22 (by kernel_rfl) rfl #[.agg #[.int .u64 a0_0, .int .u64 a0_1], .agg #[.int .u64 a1_0, .int .u64 a1_1]] rfl (by (try simp only [List.map_toArray, List.map_cons, List.map_nil]); first | done | rfl | (simp only [List.length_drop, List.length_take]; rfl)) ?_; (with_reducible refine (tenancyref01_Add.calls k a0_0 a0_1 a1_0 a1_1 t377 t378 t379 _ A7.out).mono ?_); rintro e w22 ⟨rfl, hb⟩; refine ⟨_, rfl, ?_⟩; have n0_ := Aside0.mk (blk_below (g := gb370) (o := .cells #[.int .u64 a0_0, .int .u64 a0_1] 24 (0, 0)) (by (with_reducible repeat (first | refine blk_drewN ?_ _ | refine blk_drew ?_ | refine blk_alloc ?_ _)); refine blk_far ?_ NB370_376.out _; (with_reducible repeat (first | refine blk_drewN ?_ _ | refine blk_drew ?_ | refine blk_alloc ?_ _)); refine blk_far ?_ NB370_376.out _; (with_reducible repeat (first | refine blk_drewN ?_ _ | refine blk_drew ?_ | refine blk_alloc ?_ _)); exact BK370.out) hb); have n1_ := Aside0.mk (blk_below (g := gb371) (o := .cells #[.int .u64 a1_0, .int .u64 a1_1] 24 (0, 0)) (by (with_reducible repeat (first | refine blk_drewN ?_ _ | refine blk_drew ?_ | refine blk_alloc ?_ _)); refine blk_far ?_ NB371_376.out _; (with_reducible repeat (first | refine blk_drewN ?_ _ | refine blk_drew ?_ | refine blk_alloc ?_ _)); refine blk_far ?_ NB371_376.out _; (with_reducible repeat (first | refine blk_drewN ?_ _ | refine blk_drew ?_ | refine blk_alloc ?_ _)); exact BK371.out) hb); have n2_ := Aside0.mk (blk_below (g := gb376) (o := .cells #[.int .u64 t373, .int .u64 t374] 24 (0, 0)) (by (with_reducible repeat (first | refine blk_drewN ?_ _ | refine blk_drew ?_ | refine blk_alloc ?_ _)); refine blk_put (cs := #[.int .u64 t373, .int .u64 0]) ?_ 1 _ rfl; (with_reducible repeat (first | refine blk_drewN ?_ _ | refine blk_drew ?_ | refine blk_alloc ?_ _)); refine blk_put (cs := #[.int .u64 0, .int .u64 0]) ?_ 0 _ rfl; (with_reducible repeat (first | refine blk_drewN ?_ _ | refine blk_drew ?_ | refine blk_alloc ?_ _)); exact BK376.out) hb); have n3_ := Aside0.mk (below_step (by repeat (first | (with_reducible first | exact HB.out | apply below_alloc | apply pw_below_drewN | apply below_drew1 | refine below_set ?_ GE370.out | refine below_set ?_ GE371.out | refine below_set ?_ GE376.out) | exact HB.out)) hb); clear BK370; clear BK371; clear BK376; clear HB; have BK370 := n0_; have BK371 := n1_; have BK376 := n2_; have HB := n3_; clear n0_ n1_ n2_ n3_; (try clear hb); (try clear hb2); (try clear hk); (try clear hi)) | ((with_reducible refine gate_dst (N := 9) rfl ?_); refine box_event ?hg (N := 9) ?hd (cs := #[.int .u64 0, .int .u64 0]) (t := 24) ?hr ?_; (case hd => rfl); (case hg => rfl); (case hr => first | (go_simp; done) | (go_simp; rfl)); intro gb380 hg w23 hbox hb; have n0_ := Aside0.mk (blk_below (g := gb370) (o := .cells #[.int .u64 a0_0, .int .u64 a0_1] 24 (0, 0)) (by (with_reducible repeat (first | refine blk_drewN ?_ _ | refine blk_drew ?_ | refine blk_alloc ?_ _)); exact BK370.out) hb); have n1_ := Aside0.mk (blk_below (g := gb371) (o := .cells #[.int .u64 a1_0, .int .u64 a1_1] 24 (0, 0)) (by (with_reducible repeat (first | refine blk_drewN ?_ _ | refine blk_drew ?_ | refine blk_alloc ?_ _)); exact BK371.out) hb); have n2_ := Aside0.mk (blk_below (g := gb376) (o := .cells #[.int .u64 t373, .int .u64 t374] 24 (0, 0)) (by (with_reducible repeat (first | refine blk_drewN ?_ _ | refine blk_drew ?_ | refine blk_alloc ?_ _)); exact BK376.out) hb); have n3_ := Aside0.mk (below_step (by repeat (first | (with_reducible first | exact HB.out | apply below_alloc | apply pw_below_drewN | apply below_drew1 | refine below_set ?_ GE370.out | refine below_set ?_ GE371.out | refine below_set ?_ GE376.out) | exact HB.out)) hb); have n4_ := Aside0.mk (hbox); have n5_ := Aside0.mk ((by rw [hg]; exact (below_size (by repeat (first | (with_reducible first | exact HB.out | apply below_alloc | apply pw_below_drewN | apply below_drew1 | refine below_set ?_ GE370.out | refine below_set ?_ GE371.out | refine below_set ?_ GE376.out) | exact HB.out))) : w.heap.size ≤ gb380)); have n6_ := Aside0.mk ((by rw [hg]; exact (below_size (by repeat (first | (with_reducible first | exact HB.out | apply below_alloc | apply pw_below_drewN | apply below_drew1 | refine below_set ?_ GE370.out | refine below_set ?_ GE371.out | refine below_set ?_ GE376.out) | exact HB.out))) : w.heap.size ≤ gb380)); have n7_ := Aside0.mk ((by rw [hg]; exact Nat.ne_of_lt (blk_lt (g := gb370) (o := .cells #[.int .u64 a0_0, .int .u64 a0_1] 24 (0, 0)) (by (with_reducible repeat (first | refine blk_drewN ?_ _ | refine blk_drew ?_ | refine blk_alloc ?_ _)); exact BK370.out)) : gb370 ≠ gb380)); have n8_ := Aside0.mk ((by rw [hg]; exact Nat.ne_of_gt (blk_lt (g := gb370) (o := .cells #[.int .u64 a0_0, .int .u64 a0_1] 24 (0, 0)) (by (with_reducible repeat (first | refine blk_drewN ?_ _ | refine blk_drew ?_ | refine blk_alloc ?_ _)); exact BK370.out)) : gb380 ≠ gb370)); have n9_ := Aside0.mk ((by rw [hg]; exact Nat.ne_of_lt (blk_lt (g := gb371) (o := .cells #[.int .u64 a1_0, .int .u64 a1_1] 24 (0, 0)) (by (with_reducible repeat (first | refine blk_drewN ?_ _ | refine blk_drew ?_ | refine blk_alloc ?_ _)); exact BK371.out)) : gb371 ≠ gb380)); have n10_ := Aside0.mk ((by rw [hg]; exact Nat.ne_of_gt (blk_lt (g := gb371) (o := .cells #[.int .u64 a1_0, .int .u64 a1_1] 24 (0, 0)) (by (with_reducible repeat (first | refine blk_drewN ?_ _ | refine blk_drew ?_ | refine blk_alloc ?_ _)); exact BK371.out)) : gb380 ≠ gb371)); have n11_ := Aside0.mk ((by rw [hg]; exact Nat.ne_of_lt (blk_lt (g := gb376) (o := .cells #[.int .u64 t373, .int .u64 t374] 24 (0, 0)) (by (with_reducible repeat (first | refine blk_drewN ?_ _ | refine blk_drew ?_ | refine blk_alloc ?_ _)); exact BK376.out)) : gb376 ≠ gb380)); have n12_ := Aside0.mk ((by rw [hg]; exact Nat.ne_of_gt (blk_lt (g := gb376) (o := .cells #[.int .u64 t373, .int .u64 t374] 24 (0, 0)) (by (with_reducible repeat (first | refine blk_drewN ?_ _ | refine blk_drew ?_ | refine blk_alloc ?_ _)); exact BK376.out)) : gb380 ≠ gb376)); clear BK370; clear BK371; clear BK376; clear HB; have BK370 := n0_; have BK371 := n1_; have BK376 := n2_; have HB := n3_; have BK380 := n4_; have GW380 := n5_; have GE380 := n6_; have NB370_380 := n7_; have NB380_370 := n8_; have NB371_380 := n9_; have NB380_371 := n10_; have NB376_380 := n11_; have NB380_376 := n12_; clear n0_ n1_ n2_ n3_ n4_ n5_ n6_ n7_ n8_ n9_ n10_ n11_ n12_; clear hb hbox hg; have hnb24 := NB380_370.out; have hnc24 := NB370_380.out; have hnb25 := NB380_371.out; have hnc25 := NB371_380.out; have hnb26 := NB380_376.out; have hnc26 := NB376_380.out; have hcz27_0 : w23.cell? ⟨gb380, 0, none⟩ = some (.int .u64 0) := (blk_cell BK380.out 0).trans rfl; have hcz27_1 : w23.cell? ⟨gb380, 1, none⟩ = some (.int .u64 0) := (blk_cell BK380.out 1).trans rfl; have hfz27_0 := blk_frozen BK380.out 0; have hfz27_1 := blk_frozen BK380.out 1))
    (try simp only [Act.put, List.setIfInBounds_toArray, List.set_cons_zero, List.set_cons_succ])
    go_cut [34] (fun v34 wc => ∃ (kq : Nat) (x34_7 : Bool), v34 = .bool x34_7 ∧ Aside0 (tenancylaw01_AddrNumbers.j0 kq a2 x34_7 a0_0 a0_1 a1_0 a1_1 = some r) ∧ Aside0 (kq ≤ k) ∧ Aside0 (wc.heap[gb370]? = some (.cells #[.int .u64 a0_0, .int .u64 a0_1] 24 (0, 0))) ∧ Aside0 (wc.heap[gb371]? = some (.cells #[.int .u64 a1_0, .int .u64 a1_1] 24 (0, 0))) ∧ Aside0 (wc.heap[gb376]? = some (.cells #[.int .u64 t373, .int .u64 t374] 24 (0, 0))) ∧ Aside0 (wc.heap[gb380]? = some (.cells #[.int .u64 t377, .int .u64 t378] 24 (0, 0))) ∧ Aside0 (Below w.heap.size w wc))
    case first =>
      have H := HC8.out
      clear HC8
      by_cases c28 : (!(t373 == t377) || (!(t374 == t378))) = true
      · rw [if_pos c28] at H
        have c28b0 : (!(t373 == t377) || (!(t374 == t378))) = true := c28
        clear c28
        (first | rw [c28b0] | (simp only [i64_w, i32_w]; rw [c28b0]) | skip)
        have H' := Aside0.mk H
        clear H
        have hnb29 := NB376_370.out
        have hnc29 := NB370_376.out
        have hnb30 := NB376_371.out
        have hnc30 := NB371_376.out
        have hnb31 := NB376_380.out
        have hnc31 := NB380_376.out
        have hcz32_0 : w23.cell? ⟨gb376, 0, none⟩ = some (.int .u64 t373) := (blk_cell BK376.out 0).trans rfl
        have hcz32_1 : w23.cell? ⟨gb376, 1, none⟩ = some (.int .u64 t374) := (blk_cell BK376.out 1).trans rfl
        have hfz32_0 := blk_frozen BK376.out 0
        have hfz32_1 := blk_frozen BK376.out 1
        have hnb33 := NB380_370.out
        have hnc33 := NB370_380.out
        have hnb34 := NB380_371.out
        have hnc34 := NB371_380.out
        have hcz35_0 : w23.cell? ⟨gb380, 0, none⟩ = some (.int .u64 0) := (blk_cell BK380.out 0).trans rfl
        have hcz35_1 : w23.cell? ⟨gb380, 1, none⟩ = some (.int .u64 0) := (blk_cell BK380.out 1).trans rfl
        have hfz35_0 := blk_frozen BK380.out 0
        have hfz35_1 := blk_frozen BK380.out 1
        go_wp2
        go_meet
        case rel => exact ⟨_, (true), (by first | rfl | (simp; done) | (simp [*]; done)), H', ⟨by first | omega | exact Nat.le_refl _⟩, ⟨by (with_reducible repeat (first | refine blk_drewN ?_ _ | refine blk_drew ?_ | refine blk_alloc ?_ _)); refine blk_far ?_ NB370_380.out _; (with_reducible repeat (first | refine blk_drewN ?_ _ | refine blk_drew ?_ | refine blk_alloc ?_ _)); refine blk_far ?_ NB370_380.out _; (with_reducible repeat (first | refine blk_drewN ?_ _ | refine blk_drew ?_ | refine blk_alloc ?_ _)); exact BK370.out⟩, ⟨by (with_reducible repeat (first | refine blk_drewN ?_ _ | refine blk_drew ?_ | refine blk_alloc ?_ _)); refine blk_far ?_ NB371_380.out _; (with_reducible repeat (first | refine blk_drewN ?_ _ | refine blk_drew ?_ | refine blk_alloc ?_ _)); refine blk_far ?_ NB371_380.out _; (with_reducible repeat (first | refine blk_drewN ?_ _ | refine blk_drew ?_ | refine blk_alloc ?_ _)); exact BK371.out⟩, ⟨by (with_reducible repeat (first | refine blk_drewN ?_ _ | refine blk_drew ?_ | refine blk_alloc ?_ _)); refine blk_far ?_ NB376_380.out _; (with_reducible repeat (first | refine blk_drewN ?_ _ | refine blk_drew ?_ | refine blk_alloc ?_ _)); refine blk_far ?_ NB376_380.out _; (with_reducible repeat (first | refine blk_drewN ?_ _ | refine blk_drew ?_ | refine blk_alloc ?_ _)); exact BK376.out⟩, ⟨by (with_reducible repeat (first | refine blk_drewN ?_ _ | refine blk_drew ?_ | refine blk_alloc ?_ _)); refine blk_put (cs := #[.int .u64 t377, .int .u64 0]) ?_ 1 _ rfl; (with_reducible repeat (first | refine blk_drewN ?_ _ | refine blk_drew ?_ | refine blk_alloc ?_ _)); refine blk_put (cs := #[.int .u64 0, .int .u64 0]) ?_ 0 _ rfl; (with_reducible repeat (first | refine blk_drewN ?_ _ | refine blk_drew ?_ | refine blk_alloc ?_ _)); exact BK380.out⟩, ⟨by repeat (first | (with_reducible first | exact HB.out | apply below_alloc | apply pw_below_drewN | apply below_drew1 | refine below_set ?_ GE370.out | refine below_set ?_ GE371.out | refine below_set ?_ GE376.out | refine below_set ?_ GE380.out) | exact HB.out)⟩⟩
      · rw [if_neg c28] at H
        have c28b0 : (!(t373 == t377) || (!(t374 == t378))) = false := by simpa using c28
        clear c28
        (first | rw [c28b0] | (simp only [i64_w, i32_w]; rw [c28b0]) | skip)
        have H' := Aside0.mk H
        clear H
        have hnb36 := NB376_370.out
        have hnc36 := NB370_376.out
        have hnb37 := NB376_371.out
        have hnc37 := NB371_376.out
        have hnb38 := NB376_380.out
        have hnc38 := NB380_376.out
        have hcz39_0 : w23.cell? ⟨gb376, 0, none⟩ = some (.int .u64 t373) := (blk_cell BK376.out 0).trans rfl
        have hcz39_1 : w23.cell? ⟨gb376, 1, none⟩ = some (.int .u64 t374) := (blk_cell BK376.out 1).trans rfl
        have hfz39_0 := blk_frozen BK376.out 0
        have hfz39_1 := blk_frozen BK376.out 1
        have hnb40 := NB380_370.out
        have hnc40 := NB370_380.out
        have hnb41 := NB380_371.out
        have hnc41 := NB371_380.out
        have hcz42_0 : w23.cell? ⟨gb380, 0, none⟩ = some (.int .u64 0) := (blk_cell BK380.out 0).trans rfl
        have hcz42_1 : w23.cell? ⟨gb380, 1, none⟩ = some (.int .u64 0) := (blk_cell BK380.out 1).trans rfl
        have hfz42_0 := blk_frozen BK380.out 0
        have hfz42_1 := blk_frozen BK380.out 1
        go_wp2
        go_meet
        case rel => exact ⟨_, ((t375 != t379)), (by first | rfl | (simp; done) | (simp [*]; done)), H', ⟨by first | omega | exact Nat.le_refl _⟩, ⟨by (with_reducible repeat (first | refine blk_drewN ?_ _ | refine blk_drew ?_ | refine blk_alloc ?_ _)); refine blk_far ?_ NB370_380.out _; (with_reducible repeat (first | refine blk_drewN ?_ _ | refine blk_drew ?_ | refine blk_alloc ?_ _)); refine blk_far ?_ NB370_380.out _; (with_reducible repeat (first | refine blk_drewN ?_ _ | refine blk_drew ?_ | refine blk_alloc ?_ _)); exact BK370.out⟩, ⟨by (with_reducible repeat (first | refine blk_drewN ?_ _ | refine blk_drew ?_ | refine blk_alloc ?_ _)); refine blk_far ?_ NB371_380.out _; (with_reducible repeat (first | refine blk_drewN ?_ _ | refine blk_drew ?_ | refine blk_alloc ?_ _)); refine blk_far ?_ NB371_380.out _; (with_reducible repeat (first | refine blk_drewN ?_ _ | refine blk_drew ?_ | refine blk_alloc ?_ _)); exact BK371.out⟩, ⟨by (with_reducible repeat (first | refine blk_drewN ?_ _ | refine blk_drew ?_ | refine blk_alloc ?_ _)); refine blk_far ?_ NB376_380.out _; (with_reducible repeat (first | refine blk_drewN ?_ _ | refine blk_drew ?_ | refine blk_alloc ?_ _)); refine blk_far ?_ NB376_380.out _; (with_reducible repeat (first | refine blk_drewN ?_ _ | refine blk_drew ?_ | refine blk_alloc ?_ _)); exact BK376.out⟩, ⟨by (with_reducible repeat (first | refine blk_drewN ?_ _ | refine blk_drew ?_ | refine blk_alloc ?_ _)); refine blk_put (cs := #[.int .u64 t377, .int .u64 0]) ?_ 1 _ rfl; (with_reducible repeat (first | refine blk_drewN ?_ _ | refine blk_drew ?_ | refine blk_alloc ?_ _)); refine blk_put (cs := #[.int .u64 0, .int .u64 0]) ?_ 0 _ rfl; (with_reducible repeat (first | refine blk_drewN ?_ _ | refine blk_drew ?_ | refine blk_alloc ?_ _)); exact BK380.out⟩, ⟨by repeat (first | (with_reducible first | exact HB.out | apply below_alloc | apply pw_below_drewN | apply below_drew1 | refine below_set ?_ GE370.out | refine below_set ?_ GE371.out | refine below_set ?_ GE376.out | refine below_set ?_ GE380.out) | exact HB.out)⟩⟩
    case rest =>
      clear HC8
      try clear c1
      try clear c2
      try clear p2
      try clear c3
      try clear c4
      try clear c5
      try clear c7
      try clear c10
      try clear c11
      try clear c12
      try clear c17
      try clear c18
      try clear c22
      try clear c24
      try clear c25
      try clear c26
      try clear c28
      try clear c28b0
      try clear c29
      try clear c30
      try clear c31
      try clear c33
      try clear c34
      try clear c36
      try clear c37
      try clear c38
      try clear c40
      try clear c41
      try clear hcz13_0
      try clear hcz13_1
      try clear hcz14_0
      try clear hcz14_1
      try clear hcz19_0
      try clear hcz19_1
      try clear hcz20_0
      try clear hcz20_1
      try clear hcz21_0
      try clear hcz21_1
      try clear hcz27_0
      try clear hcz27_1
      try clear hcz32_0
      try clear hcz32_1
      try clear hcz35_0
      try clear hcz35_1
      try clear hcz39_0
      try clear hcz39_1
      try clear hcz42_0
      try clear hcz42_1
      try clear hfz13_0
      try clear hfz13_1
      try clear hfz14_0
      try clear hfz14_1
      try clear hfz19_0
      try clear hfz19_1
      try clear hfz20_0
      try clear hfz20_1
      try clear hfz21_0
      try clear hfz21_1
      try clear hfz27_0
      try clear hfz27_1
      try clear hfz32_0
      try clear hfz32_1
      try clear hfz35_0
      try clear hfz35_1
      try clear hfz39_0
      try clear hfz39_1
      try clear hfz42_0
      try clear hfz42_1
      obtain ⟨kq, x34_7, rfl, HA, HJ7, BK370, BK371, BK376, BK380, HB⟩ := hcut
      cases kq with
      | zero => exact absurd HA.out (by simp [tenancylaw01_AddrNumbers.j0])
      | succ kj7 =>
        have H := HA.out
        clear HA
        simp only [tenancylaw01_AddrNumbers.j0] at H
        by_cases c43 : x34_7 = true
        · subst c43
          have H1 : (none) = some r := by rw [if_pos rfl] at H; exact H
          clear H
          have H := H1
          clear H1
          exact absurd H (by simp)
        · replace c43 := Bool.eq_false_iff.mpr c43
          subst c43
          have H1 : ((addr_Sub.f a0_0 a0_1 a1_0 a1_1).bind fun bt381 => ((tenancyref01_Sub.f kj7 a0_0 a0_1 a1_0 a1_1).bind fun bt384 => (if (!(bt381.1 == bt384.1) || (!(bt381.2.1 == bt384.2.1))) = true then (tenancylaw01_AddrNumbers.j1 kj7 a2 true a0_0 a0_1 a1_0 a1_1) else (tenancylaw01_AddrNumbers.j1 kj7 a2 (bt381.2.2 != bt384.2.2) a0_0 a0_1 a1_0 a1_1)))) = some r := by rw [if_neg (show ¬ (false = true) by decide)] at H; exact H
          clear H
          have H := H1
          clear H1
          replace H := Option.bind_eq_some_iff.mp H
          obtain ⟨⟨t381, t382, t383⟩, A440, H⟩ := H
          replace H : ((tenancyref01_Sub.f kj7 a0_0 a0_1 a1_0 a1_1).bind fun bt384 => (if (!(t381 == bt384.1) || (!(t382 == bt384.2.1))) = true then (tenancylaw01_AddrNumbers.j1 kj7 a2 true a0_0 a0_1 a1_0 a1_1) else (tenancylaw01_AddrNumbers.j1 kj7 a2 (t383 != bt384.2.2) a0_0 a0_1 a1_0 a1_1))) = some r := H
          have A44 := Aside0.mk A440
          clear A440
          replace H := Option.bind_eq_some_iff.mp H
          obtain ⟨⟨t384, t385, t386⟩, A450, H⟩ := H
          replace H : (if (!(t381 == t384) || (!(t382 == t385))) = true then (tenancylaw01_AddrNumbers.j1 kj7 a2 true a0_0 a0_1 a1_0 a1_1) else (tenancylaw01_AddrNumbers.j1 kj7 a2 (t383 != t386) a0_0 a0_1 a1_0 a1_1)) = some r := H
          have A45 := Aside0.mk A450
          clear A450
          have HC46 := Aside0.mk H
          clear H
          have hnb47 := NB370_371.out
          have hnc47 := NB371_370.out
          have hnb48 := NB370_376.out
          have hnc48 := NB376_370.out
          have hnb49 := NB370_380.out
          have hnc49 := NB380_370.out
          have hcz50_0 : wc.cell? ⟨gb370, 0, none⟩ = some (.int .u64 a0_0) := (blk_cell BK370.out 0).trans rfl
          have hcz50_1 : wc.cell? ⟨gb370, 1, none⟩ = some (.int .u64 a0_1) := (blk_cell BK370.out 1).trans rfl
          have hfz50_0 := blk_frozen BK370.out 0
          have hfz50_1 := blk_frozen BK370.out 1
          have hnb51 := NB371_376.out
          have hnc51 := NB376_371.out
          have hnb52 := NB371_380.out
          have hnc52 := NB380_371.out
          have hcz53_0 : wc.cell? ⟨gb371, 0, none⟩ = some (.int .u64 a1_0) := (blk_cell BK371.out 0).trans rfl
          have hcz53_1 : wc.cell? ⟨gb371, 1, none⟩ = some (.int .u64 a1_1) := (blk_cell BK371.out 1).trans rfl
          have hfz53_0 := blk_frozen BK371.out 0
          have hfz53_1 := blk_frozen BK371.out 1
          go_upto_region 9 with (first | ((with_reducible refine gate_callee (f := 12) rfl ?_); refine goesL_ (some 38) rfl rfl Try.func12 (by kernel_rfl) rfl #[.agg #[.int .u64 a0_0, .int .u64 a0_1], .agg #[.int .u64 a1_0, .int .u64 a1_1]] rfl (by (try simp only [List.map_toArray, List.map_cons, List.map_nil]); first | done | rfl | (simp only [List.length_drop, List.length_take]; rfl)) ?_; (with_reducible refine (addr_Sub.calls a0_0 a0_1 a1_0 a1_1 t381 t382 t383 _ A44.out).mono ?_); rintro e w54 ⟨rfl, hb⟩; refine ⟨_, rfl, ?_⟩; have n0_ := Aside0.mk (blk_below (g := gb370) (o := .cells #[.int .u64 a0_0, .int .u64 a0_1] 24 (0, 0)) (by (with_reducible repeat (first | refine blk_drewN ?_ _ | refine blk_drew ?_ | refine blk_alloc ?_ _)); exact BK370.out) hb); have n1_ := Aside0.mk (blk_below (g := gb371) (o := .cells #[.int .u64 a1_0, .int .u64 a1_1] 24 (0, 0)) (by (with_reducible repeat (first | refine blk_drewN ?_ _ | refine blk_drew ?_ | refine blk_alloc ?_ _)); exact BK371.out) hb); have n2_ := Aside0.mk (blk_below (g := gb376) (o := .cells #[.int .u64 t373, .int .u64 t374] 24 (0, 0)) (by (with_reducible repeat (first | refine blk_drewN ?_ _ | refine blk_drew ?_ | refine blk_alloc ?_ _)); exact BK376.out) hb); have n3_ := Aside0.mk (blk_below (g := gb380) (o := .cells #[.int .u64 t377, .int .u64 t378] 24 (0, 0)) (by (with_reducible repeat (first | refine blk_drewN ?_ _ | refine blk_drew ?_ | refine blk_alloc ?_ _)); exact BK380.out) hb); have n4_ := Aside0.mk (below_step (by repeat (first | (with_reducible first | exact HB.out | apply below_alloc | apply pw_below_drewN | apply below_drew1 | refine below_set ?_ GE370.out | refine below_set ?_ GE371.out | refine below_set ?_ GE376.out | refine below_set ?_ GE380.out) | exact HB.out)) hb); clear BK370; clear BK371; clear BK376; clear BK380; clear HB; have BK370 := n0_; have BK371 := n1_; have BK376 := n2_; have BK380 := n3_; have HB := n4_; clear n0_ n1_ n2_ n3_ n4_; (try clear hb); (try clear hb2); (try clear hk); (try clear hi); have hnb55 := NB376_380.out; have hnc55 := NB380_376.out; have hcz56_0 : w54.cell? ⟨gb376, 0, none⟩ = some (.int .u64 t373) := (blk_cell BK376.out 0).trans rfl; have hcz56_1 : w54.cell? ⟨gb376, 1, none⟩ = some (.int .u64 t374) := (blk_cell BK376.out 1).trans rfl; have hfz56_0 := blk_frozen BK376.out 0; have hfz56_1 := blk_frozen BK376.out 1; have hcz57_0 : w54.cell? ⟨gb370, 0, none⟩ = some (.int .u64 a0_0) := (blk_cell BK370.out 0).trans rfl; have hcz57_1 : w54.cell? ⟨gb370, 1, none⟩ = some (.int .u64 a0_1) := (blk_cell BK370.out 1).trans rfl; have hfz57_0 := blk_frozen BK370.out 0; have hfz57_1 := blk_frozen BK370.out 1; have hcz58_0 : w54.cell? ⟨gb371, 0, none⟩ = some (.int .u64 a1_0) := (blk_cell BK371.out 0).trans rfl; have hcz58_1 : w54.cell? ⟨gb371, 1, none⟩ = some (.int .u64 a1_1) := (blk_cell BK371.out 1).trans rfl; have hfz58_0 := blk_frozen BK371.out 0; have hfz58_1 := blk_frozen BK371.out 1) | ((with_reducible refine gate_callee (f := 23) rfl ?_); refine goesL_ (some 44) rfl rfl Try.func23 (by kernel_rfl) rfl #[.agg #[.int .u64 a0_0, .int .u64 a0_1], .agg #[.int .u64 a1_0, .int .u64 a1_1]] rfl (by (try simp only [List.map_toArray, List.map_cons, List.map_nil]); first | done | rfl | (simp only [List.length_drop, List.length_take]; rfl)) ?_; (with_reducible refine (tenancyref01_Sub.calls kj7 a0_0 a0_1 a1_0 a1_1 t384 t385 t386 _ A45.out).mono ?_); rintro e w59 ⟨rfl, hb⟩; refine ⟨_, rfl, ?_⟩; have n0_ := Aside0.mk (blk_below (g := gb370) (o := .cells #[.int .u64 a0_0, .int .u64 a0_1] 24 (0, 0)) (by (with_reducible repeat (first | refine blk_drewN ?_ _ | refine blk_drew ?_ | refine blk_alloc ?_ _)); refine blk_far ?_ NB370_376.out _; (with_reducible repeat (first | refine blk_drewN ?_ _ | refine blk_drew ?_ | refine blk_alloc ?_ _)); refine blk_far ?_ NB370_376.out _; (with_reducible repeat (first | refine blk_drewN ?_ _ | refine blk_drew ?_ | refine blk_alloc ?_ _)); exact BK370.out) hb); have n1_ := Aside0.mk (blk_below (g := gb371) (o := .cells #[.int .u64 a1_0, .int .u64 a1_1] 24 (0, 0)) (by (with_reducible repeat (first | refine blk_drewN ?_ _ | refine blk_drew ?_ | refine blk_alloc ?_ _)); refine blk_far ?_ NB371_376.out _; (with_reducible repeat (first | refine blk_drewN ?_ _ | refine blk_drew ?_ | refine blk_alloc ?_ _)); refine blk_far ?_ NB371_376.out _; (with_reducible repeat (first | refine blk_drewN ?_ _ | refine blk_drew ?_ | refine blk_alloc ?_ _)); exact BK371.out) hb); have n2_ := Aside0.mk (blk_below (g := gb376) (o := .cells #[.int .u64 t381, .int .u64 t382] 24 (0, 0)) (by (with_reducible repeat (first | refine blk_drewN ?_ _ | refine blk_drew ?_ | refine blk_alloc ?_ _)); refine blk_put (cs := #[.int .u64 t381, .int .u64 t374]) ?_ 1 _ rfl; (with_reducible repeat (first | refine blk_drewN ?_ _ | refine blk_drew ?_ | refine blk_alloc ?_ _)); refine blk_put (cs := #[.int .u64 t373, .int .u64 t374]) ?_ 0 _ rfl; (with_reducible repeat (first | refine blk_drewN ?_ _ | refine blk_drew ?_ | refine blk_alloc ?_ _)); exact BK376.out) hb); have n3_ := Aside0.mk (blk_below (g := gb380) (o := .cells #[.int .u64 t377, .int .u64 t378] 24 (0, 0)) (by (with_reducible repeat (first | refine blk_drewN ?_ _ | refine blk_drew ?_ | refine blk_alloc ?_ _)); refine blk_far ?_ NB380_376.out _; (with_reducible repeat (first | refine blk_drewN ?_ _ | refine blk_drew ?_ | refine blk_alloc ?_ _)); refine blk_far ?_ NB380_376.out _; (with_reducible repeat (first | refine blk_drewN ?_ _ | refine blk_drew ?_ | refine blk_alloc ?_ _)); exact BK380.out) hb); have n4_ := Aside0.mk (below_step (by repeat (first | (with_reducible first | exact HB.out | apply below_alloc | apply pw_below_drewN | apply below_drew1 | refine below_set ?_ GE370.out | refine below_set ?_ GE371.out | refine below_set ?_ GE376.out | refine below_set ?_ GE380.out) | exact HB.out)) hb); clear BK370; clear BK371; clear BK376; clear BK380; clear HB; have BK370 := n0_; have BK371 := n1_; have BK376 := n2_; have BK380 := n3_; have HB := n4_; clear n0_ n1_ n2_ n3_ n4_; (try clear hb); (try clear hb2); (try clear hk); (try clear hi); have hcz60_0 : w59.cell? ⟨gb380, 0, none⟩ = some (.int .u64 t377) := (blk_cell BK380.out 0).trans rfl; have hcz60_1 : w59.cell? ⟨gb380, 1, none⟩ = some (.int .u64 t378) := (blk_cell BK380.out 1).trans rfl; have hfz60_0 := blk_frozen BK380.out 0; have hfz60_1 := blk_frozen BK380.out 1))
          (try simp only [Act.put, List.setIfInBounds_toArray, List.set_cons_zero, List.set_cons_succ])
          go_cut [54] (fun v54 wc => ∃ (kq : Nat) (x54_45 : Bool), v54 = .bool x54_45 ∧ Aside0 (tenancylaw01_AddrNumbers.j1 kq a2 x54_45 a0_0 a0_1 a1_0 a1_1 = some r) ∧ Aside0 (kq ≤ kj7) ∧ Aside0 (wc.heap[gb370]? = some (.cells #[.int .u64 a0_0, .int .u64 a0_1] 24 (0, 0))) ∧ Aside0 (wc.heap[gb371]? = some (.cells #[.int .u64 a1_0, .int .u64 a1_1] 24 (0, 0))) ∧ Aside0 (wc.heap[gb376]? = some (.cells #[.int .u64 t381, .int .u64 t382] 24 (0, 0))) ∧ Aside0 (wc.heap[gb380]? = some (.cells #[.int .u64 t384, .int .u64 t385] 24 (0, 0))) ∧ Aside0 (Below w.heap.size w wc))
          case first =>
            have H := HC46.out
            clear HC46
            by_cases c61 : (!(t381 == t384) || (!(t382 == t385))) = true
            · rw [if_pos c61] at H
              have c61b0 : (!(t381 == t384) || (!(t382 == t385))) = true := c61
              clear c61
              (first | rw [c61b0] | (simp only [i64_w, i32_w]; rw [c61b0]) | skip)
              have H' := Aside0.mk H
              clear H
              have hnb62 := NB376_370.out
              have hnc62 := NB370_376.out
              have hnb63 := NB376_371.out
              have hnc63 := NB371_376.out
              have hnb64 := NB376_380.out
              have hnc64 := NB380_376.out
              have hcz65_0 : w59.cell? ⟨gb376, 0, none⟩ = some (.int .u64 t381) := (blk_cell BK376.out 0).trans rfl
              have hcz65_1 : w59.cell? ⟨gb376, 1, none⟩ = some (.int .u64 t382) := (blk_cell BK376.out 1).trans rfl
              have hfz65_0 := blk_frozen BK376.out 0
              have hfz65_1 := blk_frozen BK376.out 1
              have hnb66 := NB380_370.out
              have hnc66 := NB370_380.out
              have hnb67 := NB380_371.out
              have hnc67 := NB371_380.out
              have hcz68_0 : w59.cell? ⟨gb380, 0, none⟩ = some (.int .u64 t377) := (blk_cell BK380.out 0).trans rfl
              have hcz68_1 : w59.cell? ⟨gb380, 1, none⟩ = some (.int .u64 t378) := (blk_cell BK380.out 1).trans rfl
              have hfz68_0 := blk_frozen BK380.out 0
              have hfz68_1 := blk_frozen BK380.out 1
              go_wp2
              go_meet
              case rel => exact ⟨_, (true), (by first | rfl | (simp; done) | (simp [*]; done)), H', ⟨by have := HJ7.out; first | omega | exact Nat.le_refl _⟩, ⟨by (with_reducible repeat (first | refine blk_drewN ?_ _ | refine blk_drew ?_ | refine blk_alloc ?_ _)); refine blk_far ?_ NB370_380.out _; (with_reducible repeat (first | refine blk_drewN ?_ _ | refine blk_drew ?_ | refine blk_alloc ?_ _)); refine blk_far ?_ NB370_380.out _; (with_reducible repeat (first | refine blk_drewN ?_ _ | refine blk_drew ?_ | refine blk_alloc ?_ _)); exact BK370.out⟩, ⟨by (with_reducible repeat (first | refine blk_drewN ?_ _ | refine blk_drew ?_ | refine blk_alloc ?_ _)); refine blk_far ?_ NB371_380.out _; (with_reducible repeat (first | refine blk_drewN ?_ _ | refine blk_drew ?_ | refine blk_alloc ?_ _)); refine blk_far ?_ NB371_380.out _; (with_reducible repeat (first | refine blk_drewN ?_ _ | refine blk_drew ?_ | refine blk_alloc ?_ _)); exact BK371.out⟩, ⟨by (with_reducible repeat (first | refine blk_drewN ?_ _ | refine blk_drew ?_ | refine blk_alloc ?_ _)); refine blk_far ?_ NB376_380.out _; (with_reducible repeat (first | refine blk_drewN ?_ _ | refine blk_drew ?_ | refine blk_alloc ?_ _)); refine blk_far ?_ NB376_380.out _; (with_reducible repeat (first | refine blk_drewN ?_ _ | refine blk_drew ?_ | refine blk_alloc ?_ _)); exact BK376.out⟩, ⟨by (with_reducible repeat (first | refine blk_drewN ?_ _ | refine blk_drew ?_ | refine blk_alloc ?_ _)); refine blk_put (cs := #[.int .u64 t384, .int .u64 t378]) ?_ 1 _ rfl; (with_reducible repeat (first | refine blk_drewN ?_ _ | refine blk_drew ?_ | refine blk_alloc ?_ _)); refine blk_put (cs := #[.int .u64 t377, .int .u64 t378]) ?_ 0 _ rfl; (with_reducible repeat (first | refine blk_drewN ?_ _ | refine blk_drew ?_ | refine blk_alloc ?_ _)); exact BK380.out⟩, ⟨by repeat (first | (with_reducible first | exact HB.out | apply below_alloc | apply pw_below_drewN | apply below_drew1 | refine below_set ?_ GE370.out | refine below_set ?_ GE371.out | refine below_set ?_ GE376.out | refine below_set ?_ GE380.out) | exact HB.out)⟩⟩
            · rw [if_neg c61] at H
              have c61b0 : (!(t381 == t384) || (!(t382 == t385))) = false := by simpa using c61
              clear c61
              (first | rw [c61b0] | (simp only [i64_w, i32_w]; rw [c61b0]) | skip)
              have H' := Aside0.mk H
              clear H
              have hnb69 := NB376_370.out
              have hnc69 := NB370_376.out
              have hnb70 := NB376_371.out
              have hnc70 := NB371_376.out
              have hnb71 := NB376_380.out
              have hnc71 := NB380_376.out
              have hcz72_0 : w59.cell? ⟨gb376, 0, none⟩ = some (.int .u64 t381) := (blk_cell BK376.out 0).trans rfl
              have hcz72_1 : w59.cell? ⟨gb376, 1, none⟩ = some (.int .u64 t382) := (blk_cell BK376.out 1).trans rfl
              have hfz72_0 := blk_frozen BK376.out 0
              have hfz72_1 := blk_frozen BK376.out 1
              have hnb73 := NB380_370.out
              have hnc73 := NB370_380.out
              have hnb74 := NB380_371.out
              have hnc74 := NB371_380.out
              have hcz75_0 : w59.cell? ⟨gb380, 0, none⟩ = some (.int .u64 t377) := (blk_cell BK380.out 0).trans rfl
              have hcz75_1 : w59.cell? ⟨gb380, 1, none⟩ = some (.int .u64 t378) := (blk_cell BK380.out 1).trans rfl
              have hfz75_0 := blk_frozen BK380.out 0
              have hfz75_1 := blk_frozen BK380.out 1
              go_wp2
              go_meet
              case rel => exact ⟨_, ((t383 != t386)), (by first | rfl | (simp; done) | (simp [*]; done)), H', ⟨by have := HJ7.out; first | omega | exact Nat.le_refl _⟩, ⟨by (with_reducible repeat (first | refine blk_drewN ?_ _ | refine blk_drew ?_ | refine blk_alloc ?_ _)); refine blk_far ?_ NB370_380.out _; (with_reducible repeat (first | refine blk_drewN ?_ _ | refine blk_drew ?_ | refine blk_alloc ?_ _)); refine blk_far ?_ NB370_380.out _; (with_reducible repeat (first | refine blk_drewN ?_ _ | refine blk_drew ?_ | refine blk_alloc ?_ _)); exact BK370.out⟩, ⟨by (with_reducible repeat (first | refine blk_drewN ?_ _ | refine blk_drew ?_ | refine blk_alloc ?_ _)); refine blk_far ?_ NB371_380.out _; (with_reducible repeat (first | refine blk_drewN ?_ _ | refine blk_drew ?_ | refine blk_alloc ?_ _)); refine blk_far ?_ NB371_380.out _; (with_reducible repeat (first | refine blk_drewN ?_ _ | refine blk_drew ?_ | refine blk_alloc ?_ _)); exact BK371.out⟩, ⟨by (with_reducible repeat (first | refine blk_drewN ?_ _ | refine blk_drew ?_ | refine blk_alloc ?_ _)); refine blk_far ?_ NB376_380.out _; (with_reducible repeat (first | refine blk_drewN ?_ _ | refine blk_drew ?_ | refine blk_alloc ?_ _)); refine blk_far ?_ NB376_380.out _; (with_reducible repeat (first | refine blk_drewN ?_ _ | refine blk_drew ?_ | refine blk_alloc ?_ _)); exact BK376.out⟩, ⟨by (with_reducible repeat (first | refine blk_drewN ?_ _ | refine blk_drew ?_ | refine blk_alloc ?_ _)); refine blk_put (cs := #[.int .u64 t384, .int .u64 t378]) ?_ 1 _ rfl; (with_reducible repeat (first | refine blk_drewN ?_ _ | refine blk_drew ?_ | refine blk_alloc ?_ _)); refine blk_put (cs := #[.int .u64 t377, .int .u64 t378]) ?_ 0 _ rfl; (with_reducible repeat (first | refine blk_drewN ?_ _ | refine blk_drew ?_ | refine blk_alloc ?_ _)); exact BK380.out⟩, ⟨by repeat (first | (with_reducible first | exact HB.out | apply below_alloc | apply pw_below_drewN | apply below_drew1 | refine below_set ?_ GE370.out | refine below_set ?_ GE371.out | refine below_set ?_ GE376.out | refine below_set ?_ GE380.out) | exact HB.out)⟩⟩
          case rest =>
            clear HC46
            try clear c1
            try clear c2
            try clear p2
            try clear c3
            try clear c4
            try clear c5
            try clear c6
            try clear c7
            try clear c10
            try clear c11
            try clear c12
            try clear c17
            try clear c18
            try clear c22
            try clear c23
            try clear c24
            try clear c25
            try clear c26
            try clear c28
            try clear c28b0
            try clear c29
            try clear c30
            try clear c31
            try clear c33
            try clear c34
            try clear c36
            try clear c37
            try clear c38
            try clear c40
            try clear c41
            try clear c43
            try clear c47
            try clear c48
            try clear c49
            try clear c51
            try clear c52
            try clear c55
            try clear c61
            try clear c61b0
            try clear c62
            try clear c63
            try clear c64
            try clear c66
            try clear c67
            try clear c69
            try clear c70
            try clear c71
            try clear c73
            try clear c74
            try clear hcz13_0
            try clear hcz13_1
            try clear hcz14_0
            try clear hcz14_1
            try clear hcz19_0
            try clear hcz19_1
            try clear hcz20_0
            try clear hcz20_1
            try clear hcz21_0
            try clear hcz21_1
            try clear hcz27_0
            try clear hcz27_1
            try clear hcz32_0
            try clear hcz32_1
            try clear hcz35_0
            try clear hcz35_1
            try clear hcz39_0
            try clear hcz39_1
            try clear hcz42_0
            try clear hcz42_1
            try clear hcz50_0
            try clear hcz50_1
            try clear hcz53_0
            try clear hcz53_1
            try clear hcz56_0
            try clear hcz56_1
            try clear hcz57_0
            try clear hcz57_1
            try clear hcz58_0
            try clear hcz58_1
            try clear hcz60_0
            try clear hcz60_1
            try clear hcz65_0
            try clear hcz65_1
            try clear hcz68_0
            try clear hcz68_1
            try clear hcz72_0
            try clear hcz72_1
            try clear hcz75_0
            try clear hcz75_1
            try clear hfz13_0
            try clear hfz13_1
            try clear hfz14_0
            try clear hfz14_1
            try clear hfz19_0
            try clear hfz19_1
            try clear hfz20_0
            try clear hfz20_1
            try clear hfz21_0
            try clear hfz21_1
            try clear hfz27_0
            try clear hfz27_1
            try clear hfz32_0
            try clear hfz32_1
            try clear hfz35_0
            try clear hfz35_1
            try clear hfz39_0
            try clear hfz39_1
            try clear hfz42_0
            try clear hfz42_1
            try clear hfz50_0
            try clear hfz50_1
            try clear hfz53_0
            try clear hfz53_1
            try clear hfz56_0
            try clear hfz56_1
            try clear hfz57_0
            try clear hfz57_1
            try clear hfz58_0
            try clear hfz58_1
            try clear hfz60_0
            try clear hfz60_1
            try clear hfz65_0
            try clear hfz65_1
            try clear hfz68_0
            try clear hfz68_1
            try clear hfz72_0
            try clear hfz72_1
            try clear hfz75_0
            try clear hfz75_1
            try clear p2
            obtain ⟨kq, x54_45, rfl, HA, HJ45, BK370, BK371, BK376, BK380, HB⟩ := hcut
            cases kq with
            | zero => exact absurd HA.out (by simp [tenancylaw01_AddrNumbers.j1])
            | succ kj45 =>
              have H := HA.out
              clear HA
              simp only [tenancylaw01_AddrNumbers.j1] at H
              by_cases c76 : x54_45 = true
              · subst c76
                have H1 : (none) = some r := by rw [if_pos rfl] at H; exact H
                clear H
                have H := H1
                clear H1
                exact absurd H (by simp)
              · replace c76 := Bool.eq_false_iff.mpr c76
                subst c76
                have H1 : ((addr_Mod.f kj45 a0_0 a0_1 a1_0 a1_1).bind fun bt387 => ((tenancyref01_Mod.f kj45 a0_0 a0_1 a1_0 a1_1).bind fun bt390 => (if (!(bt387.1 == bt390.1) || (!(bt387.2.1 == bt390.2.1))) = true then (tenancylaw01_AddrNumbers.j2 kj45 a2 true a0_0 a0_1 a1_0 a1_1) else (tenancylaw01_AddrNumbers.j2 kj45 a2 (bt387.2.2 != bt390.2.2) a0_0 a0_1 a1_0 a1_1)))) = some r := by rw [if_neg (show ¬ (false = true) by decide)] at H; exact H
                clear H
                have H := H1
                clear H1
                replace H := Option.bind_eq_some_iff.mp H
                obtain ⟨⟨t387, t388, t389⟩, A770, H⟩ := H
                replace H : ((tenancyref01_Mod.f kj45 a0_0 a0_1 a1_0 a1_1).bind fun bt390 => (if (!(t387 == bt390.1) || (!(t388 == bt390.2.1))) = true then (tenancylaw01_AddrNumbers.j2 kj45 a2 true a0_0 a0_1 a1_0 a1_1) else (tenancylaw01_AddrNumbers.j2 kj45 a2 (t389 != bt390.2.2) a0_0 a0_1 a1_0 a1_1))) = some r := H
                have A77 := Aside0.mk A770
                clear A770
                replace H := Option.bind_eq_some_iff.mp H
                obtain ⟨⟨t390, t391, t392⟩, A780, H⟩ := H
                replace H : (if (!(t387 == t390) || (!(t388 == t391))) = true then (tenancylaw01_AddrNumbers.j2 kj45 a2 true a0_0 a0_1 a1_0 a1_1) else (tenancylaw01_AddrNumbers.j2 kj45 a2 (t389 != t392) a0_0 a0_1 a1_0 a1_1)) = some r := H
                have A78 := Aside0.mk A780
                clear A780
                have HC79 := Aside0.mk H
                clear H
                have hnb80 := NB370_371.out
                have hnc80 := NB371_370.out
                have hnb81 := NB370_376.out
                have hnc81 := NB376_370.out
                have hnb82 := NB370_380.out
                have hnc82 := NB380_370.out
                have hcz83_0 : wc.cell? ⟨gb370, 0, none⟩ = some (.int .u64 a0_0) := (blk_cell BK370.out 0).trans rfl
                have hcz83_1 : wc.cell? ⟨gb370, 1, none⟩ = some (.int .u64 a0_1) := (blk_cell BK370.out 1).trans rfl
                have hfz83_0 := blk_frozen BK370.out 0
                have hfz83_1 := blk_frozen BK370.out 1
                have hnb84 := NB371_376.out
                have hnc84 := NB376_371.out
                have hnb85 := NB371_380.out
                have hnc85 := NB380_371.out
                have hcz86_0 : wc.cell? ⟨gb371, 0, none⟩ = some (.int .u64 a1_0) := (blk_cell BK371.out 0).trans rfl
                have hcz86_1 : wc.cell? ⟨gb371, 1, none⟩ = some (.int .u64 a1_1) := (blk_cell BK371.out 1).trans rfl
                have hfz86_0 := blk_frozen BK371.out 0
                have hfz86_1 := blk_frozen BK371.out 1
                go_upto_region 13 with (first | ((with_reducible refine gate_callee (f := 14) rfl ?_); refine goesL_ (some 58) rfl rfl Try.func14 (by kernel_rfl) rfl #[.agg #[.int .u64 a0_0, .int .u64 a0_1], .agg #[.int .u64 a1_0, .int .u64 a1_1]] rfl (by (try simp only [List.map_toArray, List.map_cons, List.map_nil]); first | done | rfl | (simp only [List.length_drop, List.length_take]; rfl)) ?_; (with_reducible refine (addr_Mod.calls kj45 a0_0 a0_1 a1_0 a1_1 t387 t388 t389 _ A77.out).mono ?_); rintro e w87 ⟨rfl, hb⟩; refine ⟨_, rfl, ?_⟩; have n0_ := Aside0.mk (blk_below (g := gb370) (o := .cells #[.int .u64 a0_0, .int .u64 a0_1] 24 (0, 0)) (by (with_reducible repeat (first | refine blk_drewN ?_ _ | refine blk_drew ?_ | refine blk_alloc ?_ _)); exact BK370.out) hb); have n1_ := Aside0.mk (blk_below (g := gb371) (o := .cells #[.int .u64 a1_0, .int .u64 a1_1] 24 (0, 0)) (by (with_reducible repeat (first | refine blk_drewN ?_ _ | refine blk_drew ?_ | refine blk_alloc ?_ _)); exact BK371.out) hb); have n2_ := Aside0.mk (blk_below (g := gb376) (o := .cells #[.int .u64 t381, .int .u64 t382] 24 (0, 0)) (by (with_reducible repeat (first | refine blk_drewN ?_ _ | refine blk_drew ?_ | refine blk_alloc ?_ _)); exact BK376.out) hb); have n3_ := Aside0.mk (blk_below (g := gb380) (o := .cells #[.int .u64 t384, .int .u64 t385] 24 (0, 0)) (by (with_reducible repeat (first | refine blk_drewN ?_ _ | refine blk_drew ?_ | refine blk_alloc ?_ _)); exact BK380.out) hb); have n4_ := Aside0.mk (below_step (by repeat (first | (with_reducible first | exact HB.out | apply below_alloc | apply pw_below_drewN | apply below_drew1 | refine below_set ?_ GE370.out | refine below_set ?_ GE371.out | refine below_set ?_ GE376.out | refine below_set ?_ GE380.out) | exact HB.out)) hb); clear BK370; clear BK371; clear BK376; clear BK380; clear HB; have BK370 := n0_; have BK371 := n1_; have BK376 := n2_; have BK380 := n3_; have HB := n4_; clear n0_ n1_ n2_ n3_ n4_; (try clear hb); (try clear hb2); (try clear hk); (try clear hi); have hnb88 := NB376_380.out; have hnc88 := NB380_376.out; have hcz89_0 : w87.cell? ⟨gb376, 0, none⟩ = some (.int .u64 t381) := (blk_cell BK376.out 0).trans rfl; have hcz89_1 : w87.cell? ⟨gb376, 1, none⟩ = some (.int .u64 t382) := (blk_cell BK376.out 1).trans rfl; have hfz89_0 := blk_frozen BK376.out 0; have hfz89_1 := blk_frozen BK376.out 1; have hcz90_0 : w87.cell? ⟨gb370, 0, none⟩ = some (.int .u64 a0_0) := (blk_cell BK370.out 0).trans rfl; have hcz90_1 : w87.cell? ⟨gb370, 1, none⟩ = some (.int .u64 a0_1) := (blk_cell BK370.out 1).trans rfl; have hfz90_0 := blk_frozen BK370.out 0; have hfz90_1 := blk_frozen BK370.out 1; have hcz91_0 : w87.cell? ⟨gb371, 0, none⟩ = some (.int .u64 a1_0) := (blk_cell BK371.out 0).trans rfl; have hcz91_1 : w87.cell? ⟨gb371, 1, none⟩ = some (.int .u64 a1_1) := (blk_cell BK371.out 1).trans rfl; have hfz91_0 := blk_frozen BK371.out 0; have hfz91_1 := blk_frozen BK371.out 1) | ((with_reducible refine gate_callee (f := 24) rfl ?_); refine goesL_ (some 64) rfl rfl Try.func24 (by kernel_rfl) rfl #[.agg #[.int .u64 a0_0, .int .u64 a0_1], .agg #[.int .u64 a1_0, .int .u64 a1_1]] rfl (by (try simp only [List.map_toArray, List.map_cons, List.map_nil]); first | done | rfl | (simp only [List.length_drop, List.length_take]; rfl)) ?_; (with_reducible refine (tenancyref01_Mod.calls kj45 a0_0 a0_1 a1_0 a1_1 t390 t391 t392 _ A78.out).mono ?_); rintro e w92 ⟨rfl, hb⟩; refine ⟨_, rfl, ?_⟩; have n0_ := Aside0.mk (blk_below (g := gb370) (o := .cells #[.int .u64 a0_0, .int .u64 a0_1] 24 (0, 0)) (by (with_reducible repeat (first | refine blk_drewN ?_ _ | refine blk_drew ?_ | refine blk_alloc ?_ _)); refine blk_far ?_ NB370_376.out _; (with_reducible repeat (first | refine blk_drewN ?_ _ | refine blk_drew ?_ | refine blk_alloc ?_ _)); refine blk_far ?_ NB370_376.out _; (with_reducible repeat (first | refine blk_drewN ?_ _ | refine blk_drew ?_ | refine blk_alloc ?_ _)); exact BK370.out) hb); have n1_ := Aside0.mk (blk_below (g := gb371) (o := .cells #[.int .u64 a1_0, .int .u64 a1_1] 24 (0, 0)) (by (with_reducible repeat (first | refine blk_drewN ?_ _ | refine blk_drew ?_ | refine blk_alloc ?_ _)); refine blk_far ?_ NB371_376.out _; (with_reducible repeat (first | refine blk_drewN ?_ _ | refine blk_drew ?_ | refine blk_alloc ?_ _)); refine blk_far ?_ NB371_376.out _; (with_reducible repeat (first | refine blk_drewN ?_ _ | refine blk_drew ?_ | refine blk_alloc ?_ _)); exact BK371.out) hb); have n2_ := Aside0.mk (blk_below (g := gb376) (o := .cells #[.int .u64 t387, .int .u64 t388] 24 (0, 0)) (by (with_reducible repeat (first | refine blk_drewN ?_ _ | refine blk_drew ?_ | refine blk_alloc ?_ _)); refine blk_put (cs := #[.int .u64 t387, .int .u64 t382]) ?_ 1 _ rfl; (with_reducible repeat (first | refine blk_drewN ?_ _ | refine blk_drew ?_ | refine blk_alloc ?_ _)); refine blk_put (cs := #[.int .u64 t381, .int .u64 t382]) ?_ 0 _ rfl; (with_reducible repeat (first | refine blk_drewN ?_ _ | refine blk_drew ?_ | refine blk_alloc ?_ _)); exact BK376.out) hb); have n3_ := Aside0.mk (blk_below (g := gb380) (o := .cells #[.int .u64 t384, .int .u64 t385] 24 (0, 0)) (by (with_reducible repeat (first | refine blk_drewN ?_ _ | refine blk_drew ?_ | refine blk_alloc ?_ _)); refine blk_far ?_ NB380_376.out _; (with_reducible repeat (first | refine blk_drewN ?_ _ | refine blk_drew ?_ | refine blk_alloc ?_ _)); refine blk_far ?_ NB380_376.out _; (with_reducible repeat (first | refine blk_drewN ?_ _ | refine blk_drew ?_ | refine blk_alloc ?_ _)); exact BK380.out) hb); have n4_ := Aside0.mk (below_step (by repeat (first | (with_reducible first | exact HB.out | apply below_alloc | apply pw_below_drewN | apply below_drew1 | refine below_set ?_ GE370.out | refine below_set ?_ GE371.out | refine below_set ?_ GE376.out | refine below_set ?_ GE380.out) | exact HB.out)) hb); clear BK370; clear BK371; clear BK376; clear BK380; clear HB; have BK370 := n0_; have BK371 := n1_; have BK376 := n2_; have BK380 := n3_; have HB := n4_; clear n0_ n1_ n2_ n3_ n4_; (try clear hb); (try clear hb2); (try clear hk); (try clear hi); have hcz93_0 : w92.cell? ⟨gb380, 0, none⟩ = some (.int .u64 t384) := (blk_cell BK380.out 0).trans rfl; have hcz93_1 : w92.cell? ⟨gb380, 1, none⟩ = some (.int .u64 t385) := (blk_cell BK380.out 1).trans rfl; have hfz93_0 := blk_frozen BK380.out 0; have hfz93_1 := blk_frozen BK380.out 1))
                (try simp only [Act.put, List.setIfInBounds_toArray, List.set_cons_zero, List.set_cons_succ])
                go_cut [74] (fun v74 wc => ∃ (kq : Nat) (x74_78 : Bool), v74 = .bool x74_78 ∧ Aside0 (tenancylaw01_AddrNumbers.j2 kq a2 x74_78 a0_0 a0_1 a1_0 a1_1 = some r) ∧ Aside0 (kq ≤ kj45) ∧ Aside0 (wc.heap[gb370]? = some (.cells #[.int .u64 a0_0, .int .u64 a0_1] 24 (0, 0))) ∧ Aside0 (wc.heap[gb371]? = some (.cells #[.int .u64 a1_0, .int .u64 a1_1] 24 (0, 0))) ∧ Aside0 (wc.heap[gb376]? = some (.cells #[.int .u64 t387, .int .u64 t388] 24 (0, 0))) ∧ Aside0 (wc.heap[gb380]? = some (.cells #[.int .u64 t390, .int .u64 t391] 24 (0, 0))) ∧ Aside0 (Below w.heap.size w wc))
                case first =>
                  have H := HC79.out
                  clear HC79
                  by_cases c94 : (!(t387 == t390) || (!(t388 == t391))) = true
                  · rw [if_pos c94] at H
                    have c94b0 : (!(t387 == t390) || (!(t388 == t391))) = true := c94
                    clear c94
                    (first | rw [c94b0] | (simp only [i64_w, i32_w]; rw [c94b0]) | skip)
                    have H' := Aside0.mk H
                    clear H
                    have hnb95 := NB376_370.out
                    have hnc95 := NB370_376.out
                    have hnb96 := NB376_371.out
                    have hnc96 := NB371_376.out
                    have hnb97 := NB376_380.out
                    have hnc97 := NB380_376.out
                    have hcz98_0 : w92.cell? ⟨gb376, 0, none⟩ = some (.int .u64 t387) := (blk_cell BK376.out 0).trans rfl
                    have hcz98_1 : w92.cell? ⟨gb376, 1, none⟩ = some (.int .u64 t388) := (blk_cell BK376.out 1).trans rfl
                    have hfz98_0 := blk_frozen BK376.out 0
                    have hfz98_1 := blk_frozen BK376.out 1
                    have hnb99 := NB380_370.out
                    have hnc99 := NB370_380.out
                    have hnb100 := NB380_371.out
                    have hnc100 := NB371_380.out
                    have hcz101_0 : w92.cell? ⟨gb380, 0, none⟩ = some (.int .u64 t384) := (blk_cell BK380.out 0).trans rfl
                    have hcz101_1 : w92.cell? ⟨gb380, 1, none⟩ = some (.int .u64 t385) := (blk_cell BK380.out 1).trans rfl
                    have hfz101_0 := blk_frozen BK380.out 0
                    have hfz101_1 := blk_frozen BK380.out 1
                    go_wp2
                    go_meet
                    case rel => exact ⟨_, (true), (by first | rfl | (simp; done) | (simp [*]; done)), H', ⟨by have := HJ7.out; have := HJ45.out; first | omega | exact Nat.le_refl _⟩, ⟨by (with_reducible repeat (first | refine blk_drewN ?_ _ | refine blk_drew ?_ | refine blk_alloc ?_ _)); refine blk_far ?_ NB370_380.out _; (with_reducible repeat (first | refine blk_drewN ?_ _ | refine blk_drew ?_ | refine blk_alloc ?_ _)); refine blk_far ?_ NB370_380.out _; (with_reducible repeat (first | refine blk_drewN ?_ _ | refine blk_drew ?_ | refine blk_alloc ?_ _)); exact BK370.out⟩, ⟨by (with_reducible repeat (first | refine blk_drewN ?_ _ | refine blk_drew ?_ | refine blk_alloc ?_ _)); refine blk_far ?_ NB371_380.out _; (with_reducible repeat (first | refine blk_drewN ?_ _ | refine blk_drew ?_ | refine blk_alloc ?_ _)); refine blk_far ?_ NB371_380.out _; (with_reducible repeat (first | refine blk_drewN ?_ _ | refine blk_drew ?_ | refine blk_alloc ?_ _)); exact BK371.out⟩, ⟨by (with_reducible repeat (first | refine blk_drewN ?_ _ | refine blk_drew ?_ | refine blk_alloc ?_ _)); refine blk_far ?_ NB376_380.out _; (with_reducible repeat (first | refine blk_drewN ?_ _ | refine blk_drew ?_ | refine blk_alloc ?_ _)); refine blk_far ?_ NB376_380.out _; (with_reducible repeat (first | refine blk_drewN ?_ _ | refine blk_drew ?_ | refine blk_alloc ?_ _)); exact BK376.out⟩, ⟨by (with_reducible repeat (first | refine blk_drewN ?_ _ | refine blk_drew ?_ | refine blk_alloc ?_ _)); refine blk_put (cs := #[.int .u64 t390, .int .u64 t385]) ?_ 1 _ rfl; (with_reducible repeat (first | refine blk_drewN ?_ _ | refine blk_drew ?_ | refine blk_alloc ?_ _)); refine blk_put (cs := #[.int .u64 t384, .int .u64 t385]) ?_ 0 _ rfl; (with_reducible repeat (first | refine blk_drewN ?_ _ | refine blk_drew ?_ | refine blk_alloc ?_ _)); exact BK380.out⟩, ⟨by repeat (first | (with_reducible first | exact HB.out | apply below_alloc | apply pw_below_drewN | apply below_drew1 | refine below_set ?_ GE370.out | refine below_set ?_ GE371.out | refine below_set ?_ GE376.out | refine below_set ?_ GE380.out) | exact HB.out)⟩⟩
                  · rw [if_neg c94] at H
                    have c94b0 : (!(t387 == t390) || (!(t388 == t391))) = false := by simpa using c94
                    clear c94
                    (first | rw [c94b0] | (simp only [i64_w, i32_w]; rw [c94b0]) | skip)
                    have H' := Aside0.mk H
                    clear H
                    have hnb102 := NB376_370.out
                    have hnc102 := NB370_376.out
                    have hnb103 := NB376_371.out
                    have hnc103 := NB371_376.out
                    have hnb104 := NB376_380.out
                    have hnc104 := NB380_376.out
                    have hcz105_0 : w92.cell? ⟨gb376, 0, none⟩ = some (.int .u64 t387) := (blk_cell BK376.out 0).trans rfl
                    have hcz105_1 : w92.cell? ⟨gb376, 1, none⟩ = some (.int .u64 t388) := (blk_cell BK376.out 1).trans rfl
                    have hfz105_0 := blk_frozen BK376.out 0
                    have hfz105_1 := blk_frozen BK376.out 1
                    have hnb106 := NB380_370.out
                    have hnc106 := NB370_380.out
                    have hnb107 := NB380_371.out
                    have hnc107 := NB371_380.out
                    have hcz108_0 : w92.cell? ⟨gb380, 0, none⟩ = some (.int .u64 t384) := (blk_cell BK380.out 0).trans rfl
                    have hcz108_1 : w92.cell? ⟨gb380, 1, none⟩ = some (.int .u64 t385) := (blk_cell BK380.out 1).trans rfl
                    have hfz108_0 := blk_frozen BK380.out 0
                    have hfz108_1 := blk_frozen BK380.out 1
                    go_wp2
                    go_meet
                    case rel => exact ⟨_, ((t389 != t392)), (by first | rfl | (simp; done) | (simp [*]; done)), H', ⟨by have := HJ7.out; have := HJ45.out; first | omega | exact Nat.le_refl _⟩, ⟨by (with_reducible repeat (first | refine blk_drewN ?_ _ | refine blk_drew ?_ | refine blk_alloc ?_ _)); refine blk_far ?_ NB370_380.out _; (with_reducible repeat (first | refine blk_drewN ?_ _ | refine blk_drew ?_ | refine blk_alloc ?_ _)); refine blk_far ?_ NB370_380.out _; (with_reducible repeat (first | refine blk_drewN ?_ _ | refine blk_drew ?_ | refine blk_alloc ?_ _)); exact BK370.out⟩, ⟨by (with_reducible repeat (first | refine blk_drewN ?_ _ | refine blk_drew ?_ | refine blk_alloc ?_ _)); refine blk_far ?_ NB371_380.out _; (with_reducible repeat (first | refine blk_drewN ?_ _ | refine blk_drew ?_ | refine blk_alloc ?_ _)); refine blk_far ?_ NB371_380.out _; (with_reducible repeat (first | refine blk_drewN ?_ _ | refine blk_drew ?_ | refine blk_alloc ?_ _)); exact BK371.out⟩, ⟨by (with_reducible repeat (first | refine blk_drewN ?_ _ | refine blk_drew ?_ | refine blk_alloc ?_ _)); refine blk_far ?_ NB376_380.out _; (with_reducible repeat (first | refine blk_drewN ?_ _ | refine blk_drew ?_ | refine blk_alloc ?_ _)); refine blk_far ?_ NB376_380.out _; (with_reducible repeat (first | refine blk_drewN ?_ _ | refine blk_drew ?_ | refine blk_alloc ?_ _)); exact BK376.out⟩, ⟨by (with_reducible repeat (first | refine blk_drewN ?_ _ | refine blk_drew ?_ | refine blk_alloc ?_ _)); refine blk_put (cs := #[.int .u64 t390, .int .u64 t385]) ?_ 1 _ rfl; (with_reducible repeat (first | refine blk_drewN ?_ _ | refine blk_drew ?_ | refine blk_alloc ?_ _)); refine blk_put (cs := #[.int .u64 t384, .int .u64 t385]) ?_ 0 _ rfl; (with_reducible repeat (first | refine blk_drewN ?_ _ | refine blk_drew ?_ | refine blk_alloc ?_ _)); exact BK380.out⟩, ⟨by repeat (first | (with_reducible first | exact HB.out | apply below_alloc | apply pw_below_drewN | apply below_drew1 | refine below_set ?_ GE370.out | refine below_set ?_ GE371.out | refine below_set ?_ GE376.out | refine below_set ?_ GE380.out) | exact HB.out)⟩⟩
                case rest =>
                  clear HC79
                  try clear c1
                  try clear c2
                  try clear p2
                  try clear c3
                  try clear c4
                  try clear c5
                  try clear c6
                  try clear c7
                  try clear c8
                  try clear c9
                  try clear c10
                  try clear c11
                  try clear c12
                  try clear c14
                  try clear c17
                  try clear c18
                  try clear c22
                  try clear c23
                  try clear c24
                  try clear c25
                  try clear c26
                  try clear c28
                  try clear c28b0
                  try clear c29
                  try clear c30
                  try clear c31
                  try clear c33
                  try clear c34
                  try clear c36
                  try clear c37
                  try clear c38
                  try clear c40
                  try clear c41
                  try clear c43
                  try clear c47
                  try clear c48
                  try clear c49
                  try clear c51
                  try clear c52
                  try clear c55
                  try clear c61
                  try clear c61b0
                  try clear c62
                  try clear c63
                  try clear c64
                  try clear c66
                  try clear c67
                  try clear c69
                  try clear c70
                  try clear c71
                  try clear c73
                  try clear c74
                  try clear c76
                  try clear c80
                  try clear c81
                  try clear c82
                  try clear c84
                  try clear c85
                  try clear c88
                  try clear c94
                  try clear c94b0
                  try clear c95
                  try clear c96
                  try clear c97
                  try clear c99
                  try clear c100
                  try clear c102
                  try clear c103
                  try clear c104
                  try clear c106
                  try clear c107
                  try clear hcz101_0
                  try clear hcz101_1
                  try clear hcz105_0
                  try clear hcz105_1
                  try clear hcz108_0
                  try clear hcz108_1
                  try clear hcz13_0
                  try clear hcz13_1
                  try clear hcz14_0
                  try clear hcz14_1
                  try clear hcz19_0
                  try clear hcz19_1
                  try clear hcz20_0
                  try clear hcz20_1
                  try clear hcz21_0
                  try clear hcz21_1
                  try clear hcz27_0
                  try clear hcz27_1
                  try clear hcz32_0
                  try clear hcz32_1
                  try clear hcz35_0
                  try clear hcz35_1
                  try clear hcz39_0
                  try clear hcz39_1
                  try clear hcz42_0
                  try clear hcz42_1
                  try clear hcz50_0
                  try clear hcz50_1
                  try clear hcz53_0
                  try clear hcz53_1
                  try clear hcz56_0
                  try clear hcz56_1
                  try clear hcz57_0
                  try clear hcz57_1
                  try clear hcz58_0
                  try clear hcz58_1
                  try clear hcz60_0
                  try clear hcz60_1
                  try clear hcz65_0
                  try clear hcz65_1
                  try clear hcz68_0
                  try clear hcz68_1
                  try clear hcz72_0
                  try clear hcz72_1
                  try clear hcz75_0
                  try clear hcz75_1
                  try clear hcz83_0
                  try clear hcz83_1
                  try clear hcz86_0
                  try clear hcz86_1
                  try clear hcz89_0
                  try clear hcz89_1
                  try clear hcz90_0
                  try clear hcz90_1
                  try clear hcz91_0
                  try clear hcz91_1
                  try clear hcz93_0
                  try clear hcz93_1
                  try clear hcz98_0
                  try clear hcz98_1
                  try clear hfz101_0
                  try clear hfz101_1
                  try clear hfz105_0
                  try clear hfz105_1
                  try clear hfz108_0
                  try clear hfz108_1
                  try clear hfz13_0
                  try clear hfz13_1
                  try clear hfz14_0
                  try clear hfz14_1
                  try clear hfz19_0
                  try clear hfz19_1
                  try clear hfz20_0
                  try clear hfz20_1
                  try clear hfz21_0
                  try clear hfz21_1
                  try clear hfz27_0
                  try clear hfz27_1
                  try clear hfz32_0
                  try clear hfz32_1
                  try clear hfz35_0
                  try clear hfz35_1
                  try clear hfz39_0
                  try clear hfz39_1
                  try clear hfz42_0
                  try clear hfz42_1
                  try clear hfz50_0
                  try clear hfz50_1
                  try clear hfz53_0
                  try clear hfz53_1
                  try clear hfz56_0
                  try clear hfz56_1
                  try clear hfz57_0
                  try clear hfz57_1
                  try clear hfz58_0
                  try clear hfz58_1
                  try clear hfz60_0
                  try clear hfz60_1
                  try clear hfz65_0
                  try clear hfz65_1
                  try clear hfz68_0
                  try clear hfz68_1
                  try clear hfz72_0
                  try clear hfz72_1
                  try clear hfz75_0
                  try clear hfz75_1
                  try clear hfz83_0
                  try clear hfz83_1
                  try clear hfz86_0
                  try clear hfz86_1
                  try clear hfz89_0
                  try clear hfz89_1
                  try clear hfz90_0
                  try clear hfz90_1
                  try clear hfz91_0
                  try clear hfz91_1
                  try clear hfz93_0
                  try clear hfz93_1
                  try clear hfz98_0
                  try clear hfz98_1
                  try clear p2
                  obtain ⟨kq, x74_78, rfl, HA, HJ78, BK370, BK371, BK376, BK380, HB⟩ := hcut
                  cases kq with
                  | zero => exact absurd HA.out (by simp [tenancylaw01_AddrNumbers.j2])
                  | succ kj78 =>
                    have H := HA.out
                    clear HA
                    simp only [tenancylaw01_AddrNumbers.j2] at H
                    by_cases c109 : x74_78 = true
                    · subst c109
                      have H1 : (none) = some r := by rw [if_pos rfl] at H; exact H
                      clear H
                      have H := H1
                      clear H1
                      exact absurd H (by simp)
                    · replace c109 := Bool.eq_false_iff.mpr c109
                      subst c109
                      have H1 : ((addr_To4.f a0_0 a0_1).bind fun bt393 => ((tenancyref01_To4.f kj78 a0_0 a0_1).bind fun bt395 => (if bt393.1 = bt395.1 then (if (bt393.2 == bt395.2) = true then ((addr_Cmp.f kj78 a0_0 a0_1 a1_0 a1_1).bind fun t397 => ((tenancyref01_Cmp.f kj78 a0_0 a0_1 a1_0 a1_1).bind fun t398 => (if t397 = t398 then ((addr_Up.f a0_0 a0_1 a2).bind fun bt399 => ((tenancyref01_Up.f kj78 a0_0 a0_1 a2).bind fun bt401 => (if (bt399.1 == bt401.1 && (bt399.2 == bt401.2)) = true then ((addr_Down.f a0_0 a0_1 a2).bind fun bt403 => ((tenancyref01_Down.f kj78 a0_0 a0_1 a2).bind fun bt405 => (if (bt403.1 == bt405.1 && (bt403.2 == bt405.2)) = true then ((addr_Of4.f ((a0_1) % 4294967296)).bind fun bt407 => ((tenancyref01_Of4.f ((a0_1) % 4294967296)).bind fun bt409 => (some (bt407.1 == bt409.1 && (bt407.2 == bt409.2))))) else (none)))) else (none)))) else (none)))) else (none)) else (none)))) = some r := by rw [if_neg (show ¬ (false = true) by decide)] at H; exact H
                      clear H
                      have H := H1
                      clear H1
                      replace H := Option.bind_eq_some_iff.mp H
                      obtain ⟨⟨t393, t394⟩, A1100, H⟩ := H
                      replace H : ((tenancyref01_To4.f kj78 a0_0 a0_1).bind fun bt395 => (if t393 = bt395.1 then (if (t394 == bt395.2) = true then ((addr_Cmp.f kj78 a0_0 a0_1 a1_0 a1_1).bind fun t397 => ((tenancyref01_Cmp.f kj78 a0_0 a0_1 a1_0 a1_1).bind fun t398 => (if t397 = t398 then ((addr_Up.f a0_0 a0_1 a2).bind fun bt399 => ((tenancyref01_Up.f kj78 a0_0 a0_1 a2).bind fun bt401 => (if (bt399.1 == bt401.1 && (bt399.2 == bt401.2)) = true then ((addr_Down.f a0_0 a0_1 a2).bind fun bt403 => ((tenancyref01_Down.f kj78 a0_0 a0_1 a2).bind fun bt405 => (if (bt403.1 == bt405.1 && (bt403.2 == bt405.2)) = true then ((addr_Of4.f ((a0_1) % 4294967296)).bind fun bt407 => ((tenancyref01_Of4.f ((a0_1) % 4294967296)).bind fun bt409 => (some (bt407.1 == bt409.1 && (bt407.2 == bt409.2))))) else (none)))) else (none)))) else (none)))) else (none)) else (none))) = some r := H
                      have A110 := Aside0.mk A1100
                      clear A1100
                      replace H := Option.bind_eq_some_iff.mp H
                      obtain ⟨⟨t395, t396⟩, A1110, H⟩ := H
                      replace H : (if t393 = t395 then (if (t394 == t396) = true then ((addr_Cmp.f kj78 a0_0 a0_1 a1_0 a1_1).bind fun t397 => ((tenancyref01_Cmp.f kj78 a0_0 a0_1 a1_0 a1_1).bind fun t398 => (if t397 = t398 then ((addr_Up.f a0_0 a0_1 a2).bind fun bt399 => ((tenancyref01_Up.f kj78 a0_0 a0_1 a2).bind fun bt401 => (if (bt399.1 == bt401.1 && (bt399.2 == bt401.2)) = true then ((addr_Down.f a0_0 a0_1 a2).bind fun bt403 => ((tenancyref01_Down.f kj78 a0_0 a0_1 a2).bind fun bt405 => (if (bt403.1 == bt405.1 && (bt403.2 == bt405.2)) = true then ((addr_Of4.f ((a0_1) % 4294967296)).bind fun bt407 => ((tenancyref01_Of4.f ((a0_1) % 4294967296)).bind fun bt409 => (some (bt407.1 == bt409.1 && (bt407.2 == bt409.2))))) else (none)))) else (none)))) else (none)))) else (none)) else (none)) = some r := H
                      have A111 := Aside0.mk A1110
                      clear A1110
                      by_cases c112 : t393 = t395
                      · rw [if_pos c112] at H
                        have c112b0 : (t393 == t395) = true := beq_iff_eq.mpr c112
                        have c112b1 : (t393 != t395) = false := bne_eq_false_iff_eq.mpr c112
                        clear c112
                        by_cases c113 : (t394 == t396) = true
                        · rw [if_pos c113] at H
                          have c113b0 : (t394 == t396) = true := c113
                          (try (have c113b1 : decide (t394 = t396) = true := by simpa using c113))
                          (try (have c113b2 : (t394 == t396) = true := by simpa using c113))
                          clear c113
                          replace H := Option.bind_eq_some_iff.mp H
                          obtain ⟨t397, A1140, H⟩ := H
                          replace H : ((tenancyref01_Cmp.f kj78 a0_0 a0_1 a1_0 a1_1).bind fun t398 => (if t397 = t398 then ((addr_Up.f a0_0 a0_1 a2).bind fun bt399 => ((tenancyref01_Up.f kj78 a0_0 a0_1 a2).bind fun bt401 => (if (bt399.1 == bt401.1 && (bt399.2 == bt401.2)) = true then ((addr_Down.f a0_0 a0_1 a2).bind fun bt403 => ((tenancyref01_Down.f kj78 a0_0 a0_1 a2).bind fun bt405 => (if (bt403.1 == bt405.1 && (bt403.2 == bt405.2)) = true then ((addr_Of4.f ((a0_1) % 4294967296)).bind fun bt407 => ((tenancyref01_Of4.f ((a0_1) % 4294967296)).bind fun bt409 => (some (bt407.1 == bt409.1 && (bt407.2 == bt409.2))))) else (none)))) else (none)))) else (none))) = some r := H
                          have A114 := Aside0.mk A1140
                          clear A1140
                          replace H := Option.bind_eq_some_iff.mp H
                          obtain ⟨t398, A1150, H⟩ := H
                          replace H : (if t397 = t398 then ((addr_Up.f a0_0 a0_1 a2).bind fun bt399 => ((tenancyref01_Up.f kj78 a0_0 a0_1 a2).bind fun bt401 => (if (bt399.1 == bt401.1 && (bt399.2 == bt401.2)) = true then ((addr_Down.f a0_0 a0_1 a2).bind fun bt403 => ((tenancyref01_Down.f kj78 a0_0 a0_1 a2).bind fun bt405 => (if (bt403.1 == bt405.1 && (bt403.2 == bt405.2)) = true then ((addr_Of4.f ((a0_1) % 4294967296)).bind fun bt407 => ((tenancyref01_Of4.f ((a0_1) % 4294967296)).bind fun bt409 => (some (bt407.1 == bt409.1 && (bt407.2 == bt409.2))))) else (none)))) else (none)))) else (none)) = some r := H
                          have A115 := Aside0.mk A1150
                          clear A1150
                          by_cases c116 : t397 = t398
                          · rw [if_pos c116] at H
                            have c116b0 : (t397 == t398) = true := beq_iff_eq.mpr c116
                            have c116b1 : (t397 != t398) = false := bne_eq_false_iff_eq.mpr c116
                            clear c116
                            replace H := Option.bind_eq_some_iff.mp H
                            obtain ⟨⟨t399, t400⟩, A1170, H⟩ := H
                            replace H : ((tenancyref01_Up.f kj78 a0_0 a0_1 a2).bind fun bt401 => (if (t399 == bt401.1 && (t400 == bt401.2)) = true then ((addr_Down.f a0_0 a0_1 a2).bind fun bt403 => ((tenancyref01_Down.f kj78 a0_0 a0_1 a2).bind fun bt405 => (if (bt403.1 == bt405.1 && (bt403.2 == bt405.2)) = true then ((addr_Of4.f ((a0_1) % 4294967296)).bind fun bt407 => ((tenancyref01_Of4.f ((a0_1) % 4294967296)).bind fun bt409 => (some (bt407.1 == bt409.1 && (bt407.2 == bt409.2))))) else (none)))) else (none))) = some r := H
                            have A117 := Aside0.mk A1170
                            clear A1170
                            replace H := Option.bind_eq_some_iff.mp H
                            obtain ⟨⟨t401, t402⟩, A1180, H⟩ := H
                            replace H : (if (t399 == t401 && (t400 == t402)) = true then ((addr_Down.f a0_0 a0_1 a2).bind fun bt403 => ((tenancyref01_Down.f kj78 a0_0 a0_1 a2).bind fun bt405 => (if (bt403.1 == bt405.1 && (bt403.2 == bt405.2)) = true then ((addr_Of4.f ((a0_1) % 4294967296)).bind fun bt407 => ((tenancyref01_Of4.f ((a0_1) % 4294967296)).bind fun bt409 => (some (bt407.1 == bt409.1 && (bt407.2 == bt409.2))))) else (none)))) else (none)) = some r := H
                            have A118 := Aside0.mk A1180
                            clear A1180
                            by_cases c119 : (t399 == t401 && (t400 == t402)) = true
                            · rw [if_pos c119] at H
                              have c119b0 : (t399 == t401 && (t400 == t402)) = true := c119
                              (try (have c119b1 : decide (t399 = t401 && (t400 == t402)) = true := by simpa using c119))
                              (try (have c119b2 : (t399 == t401 && (t400 == t402)) = true := by simpa using c119))
                              clear c119
                              replace H := Option.bind_eq_some_iff.mp H
                              obtain ⟨⟨t403, t404⟩, A1200, H⟩ := H
                              replace H : ((tenancyref01_Down.f kj78 a0_0 a0_1 a2).bind fun bt405 => (if (t403 == bt405.1 && (t404 == bt405.2)) = true then ((addr_Of4.f ((a0_1) % 4294967296)).bind fun bt407 => ((tenancyref01_Of4.f ((a0_1) % 4294967296)).bind fun bt409 => (some (bt407.1 == bt409.1 && (bt407.2 == bt409.2))))) else (none))) = some r := H
                              have A120 := Aside0.mk A1200
                              clear A1200
                              replace H := Option.bind_eq_some_iff.mp H
                              obtain ⟨⟨t405, t406⟩, A1210, H⟩ := H
                              replace H : (if (t403 == t405 && (t404 == t406)) = true then ((addr_Of4.f ((a0_1) % 4294967296)).bind fun bt407 => ((tenancyref01_Of4.f ((a0_1) % 4294967296)).bind fun bt409 => (some (bt407.1 == bt409.1 && (bt407.2 == bt409.2))))) else (none)) = some r := H
                              have A121 := Aside0.mk A1210
                              clear A1210
                              by_cases c122 : (t403 == t405 && (t404 == t406)) = true
                              · rw [if_pos c122] at H
                                have c122b0 : (t403 == t405 && (t404 == t406)) = true := c122
                                (try (have c122b1 : decide (t403 = t405 && (t404 == t406)) = true := by simpa using c122))
                                (try (have c122b2 : (t403 == t405 && (t404 == t406)) = true := by simpa using c122))
                                clear c122
                                replace H := Option.bind_eq_some_iff.mp H
                                obtain ⟨⟨t407, t408⟩, A1230, H⟩ := H
                                replace H : ((tenancyref01_Of4.f ((a0_1) % 4294967296)).bind fun bt409 => (some (t407 == bt409.1 && (t408 == bt409.2)))) = some r := H
                                have A123 := Aside0.mk A1230
                                clear A1230
                                replace H := Option.bind_eq_some_iff.mp H
                                obtain ⟨⟨t409, t410⟩, A1240, H⟩ := H
                                replace H : (some (t407 == t409 && (t408 == t410))) = some r := H
                                have A124 := Aside0.mk A1240
                                clear A1240
                                obtain rfl := Option.some.inj H
                                have hnb125 := NB370_371.out
                                have hnc125 := NB371_370.out
                                have hnb126 := NB370_376.out
                                have hnc126 := NB376_370.out
                                have hnb127 := NB370_380.out
                                have hnc127 := NB380_370.out
                                have hcz128_0 : wc.cell? ⟨gb370, 0, none⟩ = some (.int .u64 a0_0) := (blk_cell BK370.out 0).trans rfl
                                have hcz128_1 : wc.cell? ⟨gb370, 1, none⟩ = some (.int .u64 a0_1) := (blk_cell BK370.out 1).trans rfl
                                have hfz128_0 := blk_frozen BK370.out 0
                                have hfz128_1 := blk_frozen BK370.out 1
                                try go_wp2_with (first | ((with_reducible refine gate_callee (f := 25) rfl ?_); refine goesL_ (some 77) rfl rfl Try.func25 (by kernel_rfl) rfl #[.agg #[.int .u64 a0_0, .int .u64 a0_1]] rfl (by (try simp only [List.map_toArray, List.map_cons, List.map_nil]); first | done | rfl | (simp only [List.length_drop, List.length_take]; rfl)) ?_; (with_reducible refine (addr_To4.calls a0_0 a0_1 t393 t394 _ A110.out).mono ?_); rintro e w129 ⟨rfl, hb⟩; refine ⟨_, rfl, ?_⟩; have n0_ := Aside0.mk (blk_below (g := gb370) (o := .cells #[.int .u64 a0_0, .int .u64 a0_1] 24 (0, 0)) (by (with_reducible repeat (first | refine blk_drewN ?_ _ | refine blk_drew ?_ | refine blk_alloc ?_ _)); exact BK370.out) hb); have n1_ := Aside0.mk (blk_below (g := gb371) (o := .cells #[.int .u64 a1_0, .int .u64 a1_1] 24 (0, 0)) (by (with_reducible repeat (first | refine blk_drewN ?_ _ | refine blk_drew ?_ | refine blk_alloc ?_ _)); exact BK371.out) hb); have n2_ := Aside0.mk (blk_below (g := gb376) (o := .cells #[.int .u64 t387, .int .u64 t388] 24 (0, 0)) (by (with_reducible repeat (first | refine blk_drewN ?_ _ | refine blk_drew ?_ | refine blk_alloc ?_ _)); exact BK376.out) hb); have n3_ := Aside0.mk (blk_below (g := gb380) (o := .cells #[.int .u64 t390, .int .u64 t391] 24 (0, 0)) (by (with_reducible repeat (first | refine blk_drewN ?_ _ | refine blk_drew ?_ | refine blk_alloc ?_ _)); exact BK380.out) hb); have n4_ := Aside0.mk (below_step (by repeat (first | (with_reducible first | exact HB.out | apply below_alloc | apply pw_below_drewN | apply below_drew1 | refine below_set ?_ GE370.out | refine below_set ?_ GE371.out | refine below_set ?_ GE376.out | refine below_set ?_ GE380.out) | exact HB.out)) hb); clear BK370; clear BK371; clear BK376; clear BK380; clear HB; have BK370 := n0_; have BK371 := n1_; have BK376 := n2_; have BK380 := n3_; have HB := n4_; clear n0_ n1_ n2_ n3_ n4_; (try clear hb); (try clear hb2); (try clear hk); (try clear hi); have hcz130_0 : w129.cell? ⟨gb370, 0, none⟩ = some (.int .u64 a0_0) := (blk_cell BK370.out 0).trans rfl; have hcz130_1 : w129.cell? ⟨gb370, 1, none⟩ = some (.int .u64 a0_1) := (blk_cell BK370.out 1).trans rfl; have hfz130_0 := blk_frozen BK370.out 0; have hfz130_1 := blk_frozen BK370.out 1) | ((with_reducible refine gate_callee (f := 26) rfl ?_); refine goesL_ (some 82) rfl rfl Try.func26 (by kernel_rfl) rfl #[.agg #[.int .u64 a0_0, .int .u64 a0_1]] rfl (by (try simp only [List.map_toArray, List.map_cons, List.map_nil]); first | done | rfl | (simp only [List.length_drop, List.length_take]; rfl)) ?_; (with_reducible refine (tenancyref01_To4.calls kj78 a0_0 a0_1 t395 t396 _ A111.out).mono ?_); rintro e w131 ⟨rfl, hb⟩; refine ⟨_, rfl, ?_⟩; have n0_ := Aside0.mk (blk_below (g := gb370) (o := .cells #[.int .u64 a0_0, .int .u64 a0_1] 24 (0, 0)) (by (with_reducible repeat (first | refine blk_drewN ?_ _ | refine blk_drew ?_ | refine blk_alloc ?_ _)); exact BK370.out) hb); have n1_ := Aside0.mk (blk_below (g := gb371) (o := .cells #[.int .u64 a1_0, .int .u64 a1_1] 24 (0, 0)) (by (with_reducible repeat (first | refine blk_drewN ?_ _ | refine blk_drew ?_ | refine blk_alloc ?_ _)); exact BK371.out) hb); have n2_ := Aside0.mk (blk_below (g := gb376) (o := .cells #[.int .u64 t387, .int .u64 t388] 24 (0, 0)) (by (with_reducible repeat (first | refine blk_drewN ?_ _ | refine blk_drew ?_ | refine blk_alloc ?_ _)); exact BK376.out) hb); have n3_ := Aside0.mk (blk_below (g := gb380) (o := .cells #[.int .u64 t390, .int .u64 t391] 24 (0, 0)) (by (with_reducible repeat (first | refine blk_drewN ?_ _ | refine blk_drew ?_ | refine blk_alloc ?_ _)); exact BK380.out) hb); have n4_ := Aside0.mk (below_step (by repeat (first | (with_reducible first | exact HB.out | apply below_alloc | apply pw_below_drewN | apply below_drew1 | refine below_set ?_ GE370.out | refine below_set ?_ GE371.out | refine below_set ?_ GE376.out | refine below_set ?_ GE380.out) | exact HB.out)) hb); clear BK370; clear BK371; clear BK376; clear BK380; clear HB; have BK370 := n0_; have BK371 := n1_; have BK376 := n2_; have BK380 := n3_; have HB := n4_; clear n0_ n1_ n2_ n3_ n4_; (try clear hb); (try clear hb2); (try clear hk); (try clear hi)))
                                have n0_ := Aside0.mk (blk_drew BK370.out)
                                have n1_ := Aside0.mk (blk_drew BK371.out)
                                have n2_ := Aside0.mk (blk_drew BK376.out)
                                have n3_ := Aside0.mk (blk_drew BK380.out)
                                have n4_ := Aside0.mk (below_drew1 HB.out)
                                clear BK370
                                clear BK371
                                clear BK376
                                clear BK380
                                clear HB
                                have BK370 := n0_
                                have BK371 := n1_
                                have BK376 := n2_
                                have BK380 := n3_
                                have HB := n4_
                                clear n0_ n1_ n2_ n3_ n4_
                                refine start_ (n := 47) (S := fun w' => w'.cell? ⟨gb370, 0, none⟩ = some (.int .u64 a0_0) ∧ w'.cell? ⟨gb370, 1, none⟩ = some (.int .u64 a0_1) ∧ w'.cell? ⟨gb371, 0, none⟩ = some (.int .u64 a1_0) ∧ w'.cell? ⟨gb371, 1, none⟩ = some (.int .u64 a1_1)) (ds := []) #[false, false, false, false, false, false, false, false, false, false, false, false, false, false, false, false, false, false, false, false, false, false, false, false, false, false, false, false, false, false, false, false, false, false, false, false, false, false, false, false, false, false, false, false, false, false, false] (by kernel_rfl) rfl rfl ⟨(blk_cell BK370.out 0).trans rfl, (blk_cell BK370.out 1).trans rfl, (blk_cell BK371.out 0).trans rfl, (blk_cell BK371.out 1).trans rfl⟩ (fun hHeld => ?_); refine with_tabW tenancylaw01_AddrNumbers.tab17 tenancylaw01_AddrNumbers.bits17 (fun HT_ HW_ => ?_)
                                generalize w131.drew = w132 at BK370 BK371 BK376 BK380 HB hHeld ⊢
                                refine pure_ (i := 0) (N := some 85) (v := ?_) (a' := ?_) #[true, false, false, false, false, false, false, false, false, false, false, false, false, false, false, false, false, false, false, false, false, false, false, false, false, false, false, false, false, false, false, false, false, false, false, false, false, false, false, false, false, false, false, false, false, false, false] rfl rfl (any_of HT_.out (by kernel_rfl)) (fun _ _ _ h => h) (Or.inl ⟨by rfl, ?_⟩) ?_ ?_
                                rotate_left
                                · intro w'
                                  go_simp
                                  with_reducible rfl
                                rotate_left
                                · simp only [Act.put, List.setIfInBounds_toArray, List.set_cons_zero, List.set_cons_succ, i64_w, i32_w]
                                  rfl
                                refine pure_ (i := 1) (N := some 86) (v := ?_) (a' := ?_) #[true, true, false, false, false, false, false, false, false, false, false, false, false, false, false, false, false, false, false, false, false, false, false, false, false, false, false, false, false, false, false, false, false, false, false, false, false, false, false, false, false, false, false, false, false, false, false] rfl rfl (any_of HT_.out (by kernel_rfl)) (fun _ _ _ h => h) (Or.inl ⟨by rfl, ?_⟩) ?_ ?_
                                rotate_left
                                · intro w'
                                  go_simp
                                  with_reducible rfl
                                rotate_left
                                · simp only [Act.put, List.setIfInBounds_toArray, List.set_cons_zero, List.set_cons_succ, i64_w, i32_w]
                                  rfl
                                refine pure_ (i := 2) (N := some 87) (v := ?_) (a' := ?_) #[true, true, true, false, false, false, false, false, false, false, false, false, false, false, false, false, false, false, false, false, false, false, false, false, false, false, false, false, false, false, false, false, false, false, false, false, false, false, false, false, false, false, false, false, false, false, false] rfl rfl (any_of HT_.out (by kernel_rfl)) (fun _ _ _ h => h) (Or.inl ⟨by rfl, ?_⟩) ?_ ?_
                                rotate_left
                                · intro w'
                                  go_simp
                                  with_reducible rfl
                                rotate_left
                                · simp only [Act.put, List.setIfInBounds_toArray, List.set_cons_zero, List.set_cons_succ, i64_w, i32_w]
                                  rfl
                                refine pure_ (i := 3) (N := some 88) (v := ?_) (a' := ?_) #[true, true, true, true, false, false, false, false, false, false, false, false, false, false, false, false, false, false, false, false, false, false, false, false, false, false, false, false, false, false, false, false, false, false, false, false, false, false, false, false, false, false, false, false, false, false, false] rfl rfl (any_of HT_.out (by kernel_rfl)) (fun _ _ _ h => h) (Or.inl ⟨by rfl, ?_⟩) ?_ ?_
                                rotate_left
                                · intro w'
                                  go_simp
                                  with_reducible rfl
                                rotate_left
                                · simp only [Act.put, List.setIfInBounds_toArray, List.set_cons_zero, List.set_cons_succ, i64_w, i32_w]
                                  rfl
                                refine pure_ (i := 4) (N := some 89) (v := ?_) (a' := ?_) #[true, true, true, true, true, false, false, false, false, false, false, false, false, false, false, false, false, false, false, false, false, false, false, false, false, false, false, false, false, false, false, false, false, false, false, false, false, false, false, false, false, false, false, false, false, false, false] rfl rfl (any_of HT_.out (by kernel_rfl)) (fun _ _ _ h => h) (Or.inl ⟨by rfl, ?_⟩) ?_ ?_
                                rotate_left
                                · intro w'
                                  go_simp
                                  with_reducible rfl
                                rotate_left
                                · simp only [Act.put, List.setIfInBounds_toArray, List.set_cons_zero, List.set_cons_succ, i64_w, i32_w]
                                  rfl
                                refine pure_ (i := 5) (N := some 90) (v := ?_) (a' := ?_) #[true, true, true, true, true, true, false, false, false, false, false, false, false, false, false, false, false, false, false, false, false, false, false, false, false, false, false, false, false, false, false, false, false, false, false, false, false, false, false, false, false, false, false, false, false, false, false] rfl rfl (any_of HT_.out (by kernel_rfl)) (fun _ _ _ h => h) (Or.inl ⟨by rfl, ?_⟩) ?_ ?_
                                rotate_left
                                · intro w'
                                  go_simp
                                  with_reducible rfl
                                rotate_left
                                · simp only [Act.put, List.setIfInBounds_toArray, List.set_cons_zero, List.set_cons_succ, i64_w, i32_w]
                                  rfl
                                refine pure_ (i := 6) (N := some 91) (v := ?_) (a' := ?_) #[true, true, true, true, true, true, true, false, false, false, false, false, false, false, false, false, false, false, false, false, false, false, false, false, false, false, false, false, false, false, false, false, false, false, false, false, false, false, false, false, false, false, false, false, false, false, false] rfl rfl (any_of HT_.out (by kernel_rfl)) (fun _ _ _ h => h) (Or.inl ⟨by rfl, ?_⟩) ?_ ?_
                                rotate_left
                                · intro w'
                                  go_simp
                                  with_reducible rfl
                                rotate_left
                                · simp only [Act.put, List.setIfInBounds_toArray, List.set_cons_zero, List.set_cons_succ, i64_w, i32_w]
                                  rfl
                                refine pure_ (i := 7) (N := some 92) (v := ?_) (a' := ?_) #[true, true, true, true, true, true, true, true, false, false, false, false, false, false, false, false, false, false, false, false, false, false, false, false, false, false, false, false, false, false, false, false, false, false, false, false, false, false, false, false, false, false, false, false, false, false, false] rfl rfl (any_of HT_.out (by kernel_rfl)) (fun _ _ _ h => h) (Or.inl ⟨by rfl, ?_⟩) ?_ ?_
                                rotate_left
                                · intro w'
                                  go_simp
                                  with_reducible rfl
                                rotate_left
                                · simp only [Act.put, List.setIfInBounds_toArray, List.set_cons_zero, List.set_cons_succ, i64_w, i32_w]
                                  rfl
                                refine pure_ (i := 8) (N := some 93) (v := ?_) (a' := ?_) #[true, true, true, true, true, true, true, true, true, false, false, false, false, false, false, false, false, false, false, false, false, false, false, false, false, false, false, false, false, false, false, false, false, false, false, false, false, false, false, false, false, false, false, false, false, false, false] rfl rfl (any_of HT_.out (by kernel_rfl)) (fun _ _ _ h => h) (Or.inl ⟨by rfl, ?_⟩) ?_ ?_
                                rotate_left
                                · intro w'
                                  go_simp
                                  with_reducible rfl
                                rotate_left
                                · simp only [Act.put, List.setIfInBounds_toArray, List.set_cons_zero, List.set_cons_succ, i64_w, i32_w]
                                  rfl
                                refine take_ (i := 9) (N := some 94) (v := ?_) (a' := ?_) #[true, true, true, true, true, true, true, true, true, true, false, false, false, false, false, false, false, false, false, false, false, false, false, false, false, false, false, false, false, false, false, false, false, false, false, false, false, false, false, false, false, false, false, false, false, false, false] rfl rfl (take_ofW HT_.out HW_.out (by kernel_rfl)) (fun _ _ _ h => h) (Or.inl ⟨by rfl, ?_⟩) hHeld ?_ ?_
                                rotate_left
                                · rintro w' ⟨s0, s1, s2, s3⟩
                                  go_simp
                                  with_reducible rfl
                                rotate_left
                                · simp only [Act.put, List.setIfInBounds_toArray, List.set_cons_zero, List.set_cons_succ, i64_w, i32_w]
                                  rfl
                                refine take_ (i := 10) (N := some 95) (v := ?_) (a' := ?_) #[true, true, true, true, true, true, true, true, true, true, true, false, false, false, false, false, false, false, false, false, false, false, false, false, false, false, false, false, false, false, false, false, false, false, false, false, false, false, false, false, false, false, false, false, false, false, false] rfl rfl (take_ofW HT_.out HW_.out (by kernel_rfl)) (fun _ _ _ h => h) (Or.inl ⟨by rfl, ?_⟩) hHeld ?_ ?_
                                rotate_left
                                · rintro w' ⟨s0, s1, s2, s3⟩
                                  go_simp
                                  with_reducible rfl
                                rotate_left
                                · simp only [Act.put, List.setIfInBounds_toArray, List.set_cons_zero, List.set_cons_succ, i64_w, i32_w]
                                  rfl
                                refine take_ (i := 12) (N := some 97) (v := ?_) (a' := ?_) #[true, true, true, true, true, true, true, true, true, true, true, false, true, false, false, false, false, false, false, false, false, false, false, false, false, false, false, false, false, false, false, false, false, false, false, false, false, false, false, false, false, false, false, false, false, false, false] rfl rfl (take_ofW HT_.out HW_.out (by kernel_rfl)) (fun _ _ _ h => h) (Or.inl ⟨by rfl, ?_⟩) hHeld ?_ ?_
                                rotate_left
                                · rintro w' ⟨s0, s1, s2, s3⟩
                                  go_simp
                                  with_reducible rfl
                                rotate_left
                                · simp only [Act.put, List.setIfInBounds_toArray, List.set_cons_zero, List.set_cons_succ, i64_w, i32_w]
                                  rfl
                                refine take_ (i := 13) (N := some 98) (v := ?_) (a' := ?_) #[true, true, true, true, true, true, true, true, true, true, true, false, true, true, false, false, false, false, false, false, false, false, false, false, false, false, false, false, false, false, false, false, false, false, false, false, false, false, false, false, false, false, false, false, false, false, false] rfl rfl (take_ofW HT_.out HW_.out (by kernel_rfl)) (fun _ _ _ h => h) (Or.inl ⟨by rfl, ?_⟩) hHeld ?_ ?_
                                rotate_left
                                · rintro w' ⟨s0, s1, s2, s3⟩
                                  go_simp
                                  with_reducible rfl
                                rotate_left
                                · simp only [Act.put, List.setIfInBounds_toArray, List.set_cons_zero, List.set_cons_succ, i64_w, i32_w]
                                  rfl
                                refine one_ (i := 11) (N := some 96) #[true, true, true, true, true, true, true, true, true, true, true, true, true, true, false, false, false, false, false, false, false, false, false, false, false, false, false, false, false, false, false, false, false, false, false, false, false, false, false, false, false, false, false, false, false, false, false] rfl rfl (one_of HT_.out (by kernel_rfl)) (by decide) (fun K hK => ?_)
                                refine goes_ Try.func13 (by kernel_rfl) rfl #[.agg #[.int .u64 a0_0, .int .u64 a0_1], .agg #[.int .u64 a1_0, .int .u64 a1_1]] (by rfl) rfl rfl (by (try simp only [List.map_toArray, List.map_cons, List.map_nil]); first | done | rfl | (simp only [List.length_drop, List.length_take]; rfl)) ?_
                                with_reducible refine (addr_Cmp.calls kj78 a0_0 a0_1 a1_0 a1_1 t397 _ A114.out).mono ?_
                                rintro e w133 ⟨rfl, hb⟩
                                refine ⟨_, rfl, ?_⟩
                                have n0_ := Aside0.mk (blk_below (g := gb370) (o := .cells #[.int .u64 a0_0, .int .u64 a0_1] 24 (0, 0)) (by (with_reducible repeat (first | refine blk_drewN ?_ _ | refine blk_drew ?_ | refine blk_alloc ?_ _)); exact BK370.out) hb)
                                have n1_ := Aside0.mk (blk_below (g := gb371) (o := .cells #[.int .u64 a1_0, .int .u64 a1_1] 24 (0, 0)) (by (with_reducible repeat (first | refine blk_drewN ?_ _ | refine blk_drew ?_ | refine blk_alloc ?_ _)); exact BK371.out) hb)
                                have n2_ := Aside0.mk (blk_below (g := gb376) (o := .cells #[.int .u64 t387, .int .u64 t388] 24 (0, 0)) (by (with_reducible repeat (first | refine blk_drewN ?_ _ | refine blk_drew ?_ | refine blk_alloc ?_ _)); exact BK376.out) hb)
                                have n3_ := Aside0.mk (blk_below (g := gb380) (o := .cells #[.int .u64 t390, .int .u64 t391] 24 (0, 0)) (by (with_reducible repeat (first | refine blk_drewN ?_ _ | refine blk_drew ?_ | refine blk_alloc ?_ _)); exact BK380.out) hb)
                                have n4_ := Aside0.mk (below_step (by repeat (first | (with_reducible first | exact HB.out | apply below_alloc | apply pw_below_drewN | apply below_drew1 | refine below_set ?_ GE370.out | refine below_set ?_ GE371.out | refine below_set ?_ GE376.out | refine below_set ?_ GE380.out) | exact HB.out)) hb)
                                clear BK370
                                clear BK371
                                clear BK376
                                clear BK380
                                clear HB
                                have BK370 := n0_
                                have BK371 := n1_
                                have BK376 := n2_
                                have BK380 := n3_
                                have HB := n4_
                                clear n0_ n1_ n2_ n3_ n4_
                                (try clear hb)
                                (try clear hb2)
                                (try clear hk)
                                (try clear hi)
                                refine hK.out _ _ ⟨(blk_cell BK370.out 0).trans rfl, (blk_cell BK370.out 1).trans rfl, (blk_cell BK371.out 0).trans rfl, (blk_cell BK371.out 1).trans rfl⟩ (fun hHeld => ?_)
                                clear hK K
                                refine norm_ (a' := ?_) ?_ ?_
                                rotate_left
                                · show Act.put _ (some 96) _ = _
                                  simp only [Act.put, List.setIfInBounds_toArray, List.set_cons_zero, List.set_cons_succ, i64_w, i32_w]
                                  rfl
                                refine one_ (i := 14) (N := some 99) #[true, true, true, true, true, true, true, true, true, true, true, true, true, true, true, false, false, false, false, false, false, false, false, false, false, false, false, false, false, false, false, false, false, false, false, false, false, false, false, false, false, false, false, false, false, false, false] rfl rfl (one_of HT_.out (by kernel_rfl)) (by decide) (fun K hK => ?_)
                                refine goes_ Try.func27 (by kernel_rfl) rfl #[.agg #[.int .u64 a0_0, .int .u64 a0_1], .agg #[.int .u64 a1_0, .int .u64 a1_1]] (by rfl) rfl rfl (by (try simp only [List.map_toArray, List.map_cons, List.map_nil]); first | done | rfl | (simp only [List.length_drop, List.length_take]; rfl)) ?_
                                with_reducible refine (tenancyref01_Cmp.calls kj78 a0_0 a0_1 a1_0 a1_1 t398 _ A115.out).mono ?_
                                rintro e w134 ⟨rfl, hb⟩
                                refine ⟨_, rfl, ?_⟩
                                have n0_ := Aside0.mk (blk_below (g := gb370) (o := .cells #[.int .u64 a0_0, .int .u64 a0_1] 24 (0, 0)) (by (with_reducible repeat (first | refine blk_drewN ?_ _ | refine blk_drew ?_ | refine blk_alloc ?_ _)); exact BK370.out) hb)
                                have n1_ := Aside0.mk (blk_below (g := gb371) (o := .cells #[.int .u64 a1_0, .int .u64 a1_1] 24 (0, 0)) (by (with_reducible repeat (first | refine blk_drewN ?_ _ | refine blk_drew ?_ | refine blk_alloc ?_ _)); exact BK371.out) hb)
                                have n2_ := Aside0.mk (blk_below (g := gb376) (o := .cells #[.int .u64 t387, .int .u64 t388] 24 (0, 0)) (by (with_reducible repeat (first | refine blk_drewN ?_ _ | refine blk_drew ?_ | refine blk_alloc ?_ _)); exact BK376.out) hb)
                                have n3_ := Aside0.mk (blk_below (g := gb380) (o := .cells #[.int .u64 t390, .int .u64 t391] 24 (0, 0)) (by (with_reducible repeat (first | refine blk_drewN ?_ _ | refine blk_drew ?_ | refine blk_alloc ?_ _)); exact BK380.out) hb)
                                have n4_ := Aside0.mk (below_step (by repeat (first | (with_reducible first | exact HB.out | apply below_alloc | apply pw_below_drewN | apply below_drew1 | refine below_set ?_ GE370.out | refine below_set ?_ GE371.out | refine below_set ?_ GE376.out | refine below_set ?_ GE380.out) | exact HB.out)) hb)
                                clear BK370
                                clear BK371
                                clear BK376
                                clear BK380
                                clear HB
                                have BK370 := n0_
                                have BK371 := n1_
                                have BK376 := n2_
                                have BK380 := n3_
                                have HB := n4_
                                clear n0_ n1_ n2_ n3_ n4_
                                (try clear hb)
                                (try clear hb2)
                                (try clear hk)
                                (try clear hi)
                                refine hK.out _ _ ⟨(blk_cell BK370.out 0).trans rfl, (blk_cell BK370.out 1).trans rfl, (blk_cell BK371.out 0).trans rfl, (blk_cell BK371.out 1).trans rfl⟩ (fun hHeld => ?_)
                                clear hK K
                                refine norm_ (a' := ?_) ?_ ?_
                                rotate_left
                                · show Act.put _ (some 99) _ = _
                                  simp only [Act.put, List.setIfInBounds_toArray, List.set_cons_zero, List.set_cons_succ, i64_w, i32_w]
                                  rfl
                                refine pure_ (i := 15) (N := some 100) (v := ?_) (a' := ?_) #[true, true, true, true, true, true, true, true, true, true, true, true, true, true, true, true, false, false, false, false, false, false, false, false, false, false, false, false, false, false, false, false, false, false, false, false, false, false, false, false, false, false, false, false, false, false, false] rfl rfl (any_of HT_.out (by kernel_rfl)) (fun _ _ _ h => h) (Or.inl ⟨by rfl, ?_⟩) ?_ ?_
                                rotate_left
                                · intro w'
                                  go_simp
                                  with_reducible rfl
                                rotate_left
                                · simp only [Act.put, List.setIfInBounds_toArray, List.set_cons_zero, List.set_cons_succ, i64_w, i32_w]
                                  rfl
                                refine pure_ (i := 16) (N := some 101) (v := ?_) (a' := ?_) #[true, true, true, true, true, true, true, true, true, true, true, true, true, true, true, true, true, false, false, false, false, false, false, false, false, false, false, false, false, false, false, false, false, false, false, false, false, false, false, false, false, false, false, false, false, false, false] rfl rfl (any_of HT_.out (by kernel_rfl)) (fun _ _ _ h => h) (Or.inl ⟨by rfl, ?_⟩) ?_ ?_
                                rotate_left
                                · intro w'
                                  go_simp
                                  with_reducible rfl
                                rotate_left
                                · simp only [Act.put, List.setIfInBounds_toArray, List.set_cons_zero, List.set_cons_succ, i64_w, i32_w]
                                  rfl
                                refine pure_ (i := 17) (N := some 102) (v := ?_) (a' := ?_) #[true, true, true, true, true, true, true, true, true, true, true, true, true, true, true, true, true, true, false, false, false, false, false, false, false, false, false, false, false, false, false, false, false, false, false, false, false, false, false, false, false, false, false, false, false, false, false] rfl rfl (any_of HT_.out (by kernel_rfl)) (fun _ _ _ h => h) (Or.inl ⟨by rfl, ?_⟩) ?_ ?_
                                rotate_left
                                · intro w'
                                  go_simp
                                  with_reducible rfl
                                rotate_left
                                · simp only [Act.put, List.setIfInBounds_toArray, List.set_cons_zero, List.set_cons_succ, i64_w, i32_w]
                                  rfl
                                refine pure_ (i := 19) (N := some 104) (v := ?_) (a' := ?_) #[true, true, true, true, true, true, true, true, true, true, true, true, true, true, true, true, true, true, false, true, false, false, false, false, false, false, false, false, false, false, false, false, false, false, false, false, false, false, false, false, false, false, false, false, false, false, false] rfl rfl (any_of HT_.out (by kernel_rfl)) (fun _ _ _ h => h) (Or.inl ⟨by rfl, ?_⟩) ?_ ?_
                                rotate_left
                                · intro w'
                                  go_simp
                                  with_reducible rfl
                                rotate_left
                                · simp only [Act.put, List.setIfInBounds_toArray, List.set_cons_zero, List.set_cons_succ, i64_w, i32_w]
                                  rfl
                                refine pure_ (i := 22) (N := some 107) (v := ?_) (a' := ?_) #[true, true, true, true, true, true, true, true, true, true, true, true, true, true, true, true, true, true, false, true, false, false, true, false, false, false, false, false, false, false, false, false, false, false, false, false, false, false, false, false, false, false, false, false, false, false, false] rfl rfl (any_of HT_.out (by kernel_rfl)) (fun _ _ _ h => h) (Or.inl ⟨by rfl, ?_⟩) ?_ ?_
                                rotate_left
                                · intro w'
                                  go_simp
                                  with_reducible rfl
                                rotate_left
                                · simp only [Act.put, List.setIfInBounds_toArray, List.set_cons_zero, List.set_cons_succ, i64_w, i32_w]
                                  rfl
                                refine take_ (i := 18) (N := some 103) (v := ?_) (a' := ?_) #[true, true, true, true, true, true, true, true, true, true, true, true, true, true, true, true, true, true, true, true, false, false, true, false, false, false, false, false, false, false, false, false, false, false, false, false, false, false, false, false, false, false, false, false, false, false, false] rfl rfl (take_ofW HT_.out HW_.out (by kernel_rfl)) (fun _ _ _ h => h) (Or.inl ⟨by rfl, ?_⟩) hHeld ?_ ?_
                                rotate_left
                                · rintro w' ⟨s0, s1, s2, s3⟩
                                  go_simp
                                  with_reducible rfl
                                rotate_left
                                · simp only [Act.put, List.setIfInBounds_toArray, List.set_cons_zero, List.set_cons_succ, i64_w, i32_w]
                                  rfl
                                refine take_ (i := 21) (N := some 106) (v := ?_) (a' := ?_) #[true, true, true, true, true, true, true, true, true, true, true, true, true, true, true, true, true, true, true, true, false, true, true, false, false, false, false, false, false, false, false, false, false, false, false, false, false, false, false, false, false, false, false, false, false, false, false] rfl rfl (take_ofW HT_.out HW_.out (by kernel_rfl)) (fun _ _ _ h => h) (Or.inl ⟨by rfl, ?_⟩) hHeld ?_ ?_
                                rotate_left
                                · rintro w' ⟨s0, s1, s2, s3⟩
                                  go_simp
                                  with_reducible rfl
                                rotate_left
                                · simp only [Act.put, List.setIfInBounds_toArray, List.set_cons_zero, List.set_cons_succ, i64_w, i32_w]
                                  rfl
                                refine one_ (i := 20) (N := some 105) #[true, true, true, true, true, true, true, true, true, true, true, true, true, true, true, true, true, true, true, true, true, true, true, false, false, false, false, false, false, false, false, false, false, false, false, false, false, false, false, false, false, false, false, false, false, false, false] rfl rfl (one_of HT_.out (by kernel_rfl)) (by decide) (fun K hK => ?_)
                                refine goes_ Try.func15 (by kernel_rfl) rfl #[.agg #[.int .u64 a0_0, .int .u64 a0_1], .int .i64 a2] (by rfl) rfl rfl (by (try simp only [List.map_toArray, List.map_cons, List.map_nil]); first | done | rfl | (simp only [List.length_drop, List.length_take]; rfl)) ?_
                                with_reducible refine (addr_Up.calls a0_0 a0_1 a2 t399 t400 _ A117.out).mono ?_
                                rintro e w135 ⟨rfl, hb⟩
                                refine ⟨_, rfl, ?_⟩
                                have n0_ := Aside0.mk (blk_below (g := gb370) (o := .cells #[.int .u64 a0_0, .int .u64 a0_1] 24 (0, 0)) (by (with_reducible repeat (first | refine blk_drewN ?_ _ | refine blk_drew ?_ | refine blk_alloc ?_ _)); exact BK370.out) hb)
                                have n1_ := Aside0.mk (blk_below (g := gb371) (o := .cells #[.int .u64 a1_0, .int .u64 a1_1] 24 (0, 0)) (by (with_reducible repeat (first | refine blk_drewN ?_ _ | refine blk_drew ?_ | refine blk_alloc ?_ _)); exact BK371.out) hb)
                                have n2_ := Aside0.mk (blk_below (g := gb376) (o := .cells #[.int .u64 t387, .int .u64 t388] 24 (0, 0)) (by (with_reducible repeat (first | refine blk_drewN ?_ _ | refine blk_drew ?_ | refine blk_alloc ?_ _)); exact BK376.out) hb)
                                have n3_ := Aside0.mk (blk_below (g := gb380) (o := .cells #[.int .u64 t390, .int .u64 t391] 24 (0, 0)) (by (with_reducible repeat (first | refine blk_drewN ?_ _ | refine blk_drew ?_ | refine blk_alloc ?_ _)); exact BK380.out) hb)
                                have n4_ := Aside0.mk (below_step (by repeat (first | (with_reducible first | exact HB.out | apply below_alloc | apply pw_below_drewN | apply below_drew1 | refine below_set ?_ GE370.out | refine below_set ?_ GE371.out | refine below_set ?_ GE376.out | refine below_set ?_ GE380.out) | exact HB.out)) hb)
                                clear BK370
                                clear BK371
                                clear BK376
                                clear BK380
                                clear HB
                                have BK370 := n0_
                                have BK371 := n1_
                                have BK376 := n2_
                                have BK380 := n3_
                                have HB := n4_
                                clear n0_ n1_ n2_ n3_ n4_
                                (try clear hb)
                                (try clear hb2)
                                (try clear hk)
                                (try clear hi)
                                refine hK.out _ _ ⟨(blk_cell BK370.out 0).trans rfl, (blk_cell BK370.out 1).trans rfl, (blk_cell BK371.out 0).trans rfl, (blk_cell BK371.out 1).trans rfl⟩ (fun hHeld => ?_)
                                clear hK K
                                refine norm_ (a' := ?_) ?_ ?_
                                rotate_left
                                · show Act.put _ (some 105) _ = _
                                  simp only [Act.put, List.setIfInBounds_toArray, List.set_cons_zero, List.set_cons_succ, i64_w, i32_w]
                                  rfl
                                refine one_ (i := 23) (N := some 108) #[true, true, true, true, true, true, true, true, true, true, true, true, true, true, true, true, true, true, true, true, true, true, true, true, false, false, false, false, false, false, false, false, false, false, false, false, false, false, false, false, false, false, false, false, false, false, false] rfl rfl (one_of HT_.out (by kernel_rfl)) (by decide) (fun K hK => ?_)
                                refine goes_ Try.func28 (by kernel_rfl) rfl #[.agg #[.int .u64 a0_0, .int .u64 a0_1], .int .i64 a2] (by rfl) rfl rfl (by (try simp only [List.map_toArray, List.map_cons, List.map_nil]); first | done | rfl | (simp only [List.length_drop, List.length_take]; rfl)) ?_
                                with_reducible refine (tenancyref01_Up.calls kj78 a0_0 a0_1 a2 t401 t402 _ A118.out).mono ?_
                                rintro e w136 ⟨rfl, hb⟩
                                refine ⟨_, rfl, ?_⟩
                                have n0_ := Aside0.mk (blk_below (g := gb370) (o := .cells #[.int .u64 a0_0, .int .u64 a0_1] 24 (0, 0)) (by (with_reducible repeat (first | refine blk_drewN ?_ _ | refine blk_drew ?_ | refine blk_alloc ?_ _)); exact BK370.out) hb)
                                have n1_ := Aside0.mk (blk_below (g := gb371) (o := .cells #[.int .u64 a1_0, .int .u64 a1_1] 24 (0, 0)) (by (with_reducible repeat (first | refine blk_drewN ?_ _ | refine blk_drew ?_ | refine blk_alloc ?_ _)); exact BK371.out) hb)
                                have n2_ := Aside0.mk (blk_below (g := gb376) (o := .cells #[.int .u64 t387, .int .u64 t388] 24 (0, 0)) (by (with_reducible repeat (first | refine blk_drewN ?_ _ | refine blk_drew ?_ | refine blk_alloc ?_ _)); exact BK376.out) hb)
                                have n3_ := Aside0.mk (blk_below (g := gb380) (o := .cells #[.int .u64 t390, .int .u64 t391] 24 (0, 0)) (by (with_reducible repeat (first | refine blk_drewN ?_ _ | refine blk_drew ?_ | refine blk_alloc ?_ _)); exact BK380.out) hb)
                                have n4_ := Aside0.mk (below_step (by repeat (first | (with_reducible first | exact HB.out | apply below_alloc | apply pw_below_drewN | apply below_drew1 | refine below_set ?_ GE370.out | refine below_set ?_ GE371.out | refine below_set ?_ GE376.out | refine below_set ?_ GE380.out) | exact HB.out)) hb)
                                clear BK370
                                clear BK371
                                clear BK376
                                clear BK380
                                clear HB
                                have BK370 := n0_
                                have BK371 := n1_
                                have BK376 := n2_
                                have BK380 := n3_
                                have HB := n4_
                                clear n0_ n1_ n2_ n3_ n4_
                                (try clear hb)
                                (try clear hb2)
                                (try clear hk)
                                (try clear hi)
                                refine hK.out _ _ ⟨(blk_cell BK370.out 0).trans rfl, (blk_cell BK370.out 1).trans rfl, (blk_cell BK371.out 0).trans rfl, (blk_cell BK371.out 1).trans rfl⟩ (fun hHeld => ?_)
                                clear hK K
                                refine norm_ (a' := ?_) ?_ ?_
                                rotate_left
                                · show Act.put _ (some 108) _ = _
                                  simp only [Act.put, List.setIfInBounds_toArray, List.set_cons_zero, List.set_cons_succ, i64_w, i32_w]
                                  rfl
                                refine pure_ (i := 24) (N := some 109) (v := ?_) (a' := ?_) #[true, true, true, true, true, true, true, true, true, true, true, true, true, true, true, true, true, true, true, true, true, true, true, true, true, false, false, false, false, false, false, false, false, false, false, false, false, false, false, false, false, false, false, false, false, false, false] rfl rfl (any_of HT_.out (by kernel_rfl)) (fun _ _ _ h => h) (Or.inl ⟨by rfl, ?_⟩) ?_ ?_
                                rotate_left
                                · intro w'
                                  go_simp
                                  with_reducible rfl
                                rotate_left
                                · simp only [Act.put, List.setIfInBounds_toArray, List.set_cons_zero, List.set_cons_succ, i64_w, i32_w]
                                  rfl
                                refine pure_ (i := 25) (N := some 110) (v := ?_) (a' := ?_) #[true, true, true, true, true, true, true, true, true, true, true, true, true, true, true, true, true, true, true, true, true, true, true, true, true, true, false, false, false, false, false, false, false, false, false, false, false, false, false, false, false, false, false, false, false, false, false] rfl rfl (any_of HT_.out (by kernel_rfl)) (fun _ _ _ h => h) (Or.inl ⟨by rfl, ?_⟩) ?_ ?_
                                rotate_left
                                · intro w'
                                  go_simp
                                  with_reducible rfl
                                rotate_left
                                · simp only [Act.put, List.setIfInBounds_toArray, List.set_cons_zero, List.set_cons_succ, i64_w, i32_w]
                                  rfl
                                refine pure_ (i := 26) (N := some 111) (v := ?_) (a' := ?_) #[true, true, true, true, true, true, true, true, true, true, true, true, true, true, true, true, true, true, true, true, true, true, true, true, true, true, true, false, false, false, false, false, false, false, false, false, false, false, false, false, false, false, false, false, false, false, false] rfl rfl (any_of HT_.out (by kernel_rfl)) (fun _ _ _ h => h) (Or.inl ⟨by rfl, ?_⟩) ?_ ?_
                                rotate_left
                                · intro w'
                                  go_simp
                                  with_reducible rfl
                                rotate_left
                                · simp only [Act.put, List.setIfInBounds_toArray, List.set_cons_zero, List.set_cons_succ, i64_w, i32_w]
                                  rfl
                                refine pure_ (i := 28) (N := some 113) (v := ?_) (a' := ?_) #[true, true, true, true, true, true, true, true, true, true, true, true, true, true, true, true, true, true, true, true, true, true, true, true, true, true, true, false, true, false, false, false, false, false, false, false, false, false, false, false, false, false, false, false, false, false, false] rfl rfl (any_of HT_.out (by kernel_rfl)) (fun _ _ _ h => h) (Or.inl ⟨by rfl, ?_⟩) ?_ ?_
                                rotate_left
                                · intro w'
                                  go_simp
                                  with_reducible rfl
                                rotate_left
                                · simp only [Act.put, List.setIfInBounds_toArray, List.set_cons_zero, List.set_cons_succ, i64_w, i32_w]
                                  rfl
                                refine pure_ (i := 31) (N := some 116) (v := ?_) (a' := ?_) #[true, true, true, true, true, true, true, true, true, true, true, true, true, true, true, true, true, true, true, true, true, true, true, true, true, true, true, false, true, false, false, true, false, false, false, false, false, false, false, false, false, false, false, false, false, false, false] rfl rfl (any_of HT_.out (by kernel_rfl)) (fun _ _ _ h => h) (Or.inl ⟨by rfl, ?_⟩) ?_ ?_
                                rotate_left
                                · intro w'
                                  go_simp
                                  with_reducible rfl
                                rotate_left
                                · simp only [Act.put, List.setIfInBounds_toArray, List.set_cons_zero, List.set_cons_succ, i64_w, i32_w]
                                  rfl
                                refine take_ (i := 27) (N := some 112) (v := ?_) (a' := ?_) #[true, true, true, true, true, true, true, true, true, true, true, true, true, true, true, true, true, true, true, true, true, true, true, true, true, true, true, true, true, false, false, true, false, false, false, false, false, false, false, false, false, false, false, false, false, false, false] rfl rfl (take_ofW HT_.out HW_.out (by kernel_rfl)) (fun _ _ _ h => h) (Or.inl ⟨by rfl, ?_⟩) hHeld ?_ ?_
                                rotate_left
                                · rintro w' ⟨s0, s1, s2, s3⟩
                                  go_simp
                                  with_reducible rfl
                                rotate_left
                                · simp only [Act.put, List.setIfInBounds_toArray, List.set_cons_zero, List.set_cons_succ, i64_w, i32_w]
                                  rfl
                                refine take_ (i := 30) (N := some 115) (v := ?_) (a' := ?_) #[true, true, true, true, true, true, true, true, true, true, true, true, true, true, true, true, true, true, true, true, true, true, true, true, true, true, true, true, true, false, true, true, false, false, false, false, false, false, false, false, false, false, false, false, false, false, false] rfl rfl (take_ofW HT_.out HW_.out (by kernel_rfl)) (fun _ _ _ h => h) (Or.inl ⟨by rfl, ?_⟩) hHeld ?_ ?_
                                rotate_left
                                · rintro w' ⟨s0, s1, s2, s3⟩
                                  go_simp
                                  with_reducible rfl
                                rotate_left
                                · simp only [Act.put, List.setIfInBounds_toArray, List.set_cons_zero, List.set_cons_succ, i64_w, i32_w]
                                  rfl
                                refine one_ (i := 29) (N := some 114) #[true, true, true, true, true, true, true, true, true, true, true, true, true, true, true, true, true, true, true, true, true, true, true, true, true, true, true, true, true, true, true, true, false, false, false, false, false, false, false, false, false, false, false, false, false, false, false] rfl rfl (one_of HT_.out (by kernel_rfl)) (by decide) (fun K hK => ?_)
                                refine goes_ Try.func16 (by kernel_rfl) rfl #[.agg #[.int .u64 a0_0, .int .u64 a0_1], .int .i64 a2] (by rfl) rfl rfl (by (try simp only [List.map_toArray, List.map_cons, List.map_nil]); first | done | rfl | (simp only [List.length_drop, List.length_take]; rfl)) ?_
                                with_reducible refine (addr_Down.calls a0_0 a0_1 a2 t403 t404 _ A120.out).mono ?_
                                rintro e w137 ⟨rfl, hb⟩
                                refine ⟨_, rfl, ?_⟩
                                have n0_ := Aside0.mk (blk_below (g := gb370) (o := .cells #[.int .u64 a0_0, .int .u64 a0_1] 24 (0, 0)) (by (with_reducible repeat (first | refine blk_drewN ?_ _ | refine blk_drew ?_ | refine blk_alloc ?_ _)); exact BK370.out) hb)
                                have n1_ := Aside0.mk (blk_below (g := gb371) (o := .cells #[.int .u64 a1_0, .int .u64 a1_1] 24 (0, 0)) (by (with_reducible repeat (first | refine blk_drewN ?_ _ | refine blk_drew ?_ | refine blk_alloc ?_ _)); exact BK371.out) hb)
                                have n2_ := Aside0.mk (blk_below (g := gb376) (o := .cells #[.int .u64 t387, .int .u64 t388] 24 (0, 0)) (by (with_reducible repeat (first | refine blk_drewN ?_ _ | refine blk_drew ?_ | refine blk_alloc ?_ _)); exact BK376.out) hb)
                                have n3_ := Aside0.mk (blk_below (g := gb380) (o := .cells #[.int .u64 t390, .int .u64 t391] 24 (0, 0)) (by (with_reducible repeat (first | refine blk_drewN ?_ _ | refine blk_drew ?_ | refine blk_alloc ?_ _)); exact BK380.out) hb)
                                have n4_ := Aside0.mk (below_step (by repeat (first | (with_reducible first | exact HB.out | apply below_alloc | apply pw_below_drewN | apply below_drew1 | refine below_set ?_ GE370.out | refine below_set ?_ GE371.out | refine below_set ?_ GE376.out | refine below_set ?_ GE380.out) | exact HB.out)) hb)
                                clear BK370
                                clear BK371
                                clear BK376
                                clear BK380
                                clear HB
                                have BK370 := n0_
                                have BK371 := n1_
                                have BK376 := n2_
                                have BK380 := n3_
                                have HB := n4_
                                clear n0_ n1_ n2_ n3_ n4_
                                (try clear hb)
                                (try clear hb2)
                                (try clear hk)
                                (try clear hi)
                                refine hK.out _ _ ⟨(blk_cell BK370.out 0).trans rfl, (blk_cell BK370.out 1).trans rfl, (blk_cell BK371.out 0).trans rfl, (blk_cell BK371.out 1).trans rfl⟩ (fun hHeld => ?_)
                                clear hK K
                                refine norm_ (a' := ?_) ?_ ?_
                                rotate_left
                                · show Act.put _ (some 114) _ = _
                                  simp only [Act.put, List.setIfInBounds_toArray, List.set_cons_zero, List.set_cons_succ, i64_w, i32_w]
                                  rfl
                                refine one_ (i := 32) (N := some 117) #[true, true, true, true, true, true, true, true, true, true, true, true, true, true, true, true, true, true, true, true, true, true, true, true, true, true, true, true, true, true, true, true, true, false, false, false, false, false, false, false, false, false, false, false, false, false, false] rfl rfl (one_of HT_.out (by kernel_rfl)) (by decide) (fun K hK => ?_)
                                refine goes_ Try.func29 (by kernel_rfl) rfl #[.agg #[.int .u64 a0_0, .int .u64 a0_1], .int .i64 a2] (by rfl) rfl rfl (by (try simp only [List.map_toArray, List.map_cons, List.map_nil]); first | done | rfl | (simp only [List.length_drop, List.length_take]; rfl)) ?_
                                with_reducible refine (tenancyref01_Down.calls kj78 a0_0 a0_1 a2 t405 t406 _ A121.out).mono ?_
                                rintro e w138 ⟨rfl, hb⟩
                                refine ⟨_, rfl, ?_⟩
                                have n0_ := Aside0.mk (blk_below (g := gb370) (o := .cells #[.int .u64 a0_0, .int .u64 a0_1] 24 (0, 0)) (by (with_reducible repeat (first | refine blk_drewN ?_ _ | refine blk_drew ?_ | refine blk_alloc ?_ _)); exact BK370.out) hb)
                                have n1_ := Aside0.mk (blk_below (g := gb371) (o := .cells #[.int .u64 a1_0, .int .u64 a1_1] 24 (0, 0)) (by (with_reducible repeat (first | refine blk_drewN ?_ _ | refine blk_drew ?_ | refine blk_alloc ?_ _)); exact BK371.out) hb)
                                have n2_ := Aside0.mk (blk_below (g := gb376) (o := .cells #[.int .u64 t387, .int .u64 t388] 24 (0, 0)) (by (with_reducible repeat (first | refine blk_drewN ?_ _ | refine blk_drew ?_ | refine blk_alloc ?_ _)); exact BK376.out) hb)
                                have n3_ := Aside0.mk (blk_below (g := gb380) (o := .cells #[.int .u64 t390, .int .u64 t391] 24 (0, 0)) (by (with_reducible repeat (first | refine blk_drewN ?_ _ | refine blk_drew ?_ | refine blk_alloc ?_ _)); exact BK380.out) hb)
                                have n4_ := Aside0.mk (below_step (by repeat (first | (with_reducible first | exact HB.out | apply below_alloc | apply pw_below_drewN | apply below_drew1 | refine below_set ?_ GE370.out | refine below_set ?_ GE371.out | refine below_set ?_ GE376.out | refine below_set ?_ GE380.out) | exact HB.out)) hb)
                                clear BK370
                                clear BK371
                                clear BK376
                                clear BK380
                                clear HB
                                have BK370 := n0_
                                have BK371 := n1_
                                have BK376 := n2_
                                have BK380 := n3_
                                have HB := n4_
                                clear n0_ n1_ n2_ n3_ n4_
                                (try clear hb)
                                (try clear hb2)
                                (try clear hk)
                                (try clear hi)
                                refine hK.out _ _ ⟨(blk_cell BK370.out 0).trans rfl, (blk_cell BK370.out 1).trans rfl, (blk_cell BK371.out 0).trans rfl, (blk_cell BK371.out 1).trans rfl⟩ (fun hHeld => ?_)
                                clear hK K
                                refine norm_ (a' := ?_) ?_ ?_
                                rotate_left
                                · show Act.put _ (some 117) _ = _
                                  simp only [Act.put, List.setIfInBounds_toArray, List.set_cons_zero, List.set_cons_succ, i64_w, i32_w]
                                  rfl
                                refine pure_ (i := 33) (N := some 118) (v := ?_) (a' := ?_) #[true, true, true, true, true, true, true, true, true, true, true, true, true, true, true, true, true, true, true, true, true, true, true, true, true, true, true, true, true, true, true, true, true, true, false, false, false, false, false, false, false, false, false, false, false, false, false] rfl rfl (any_of HT_.out (by kernel_rfl)) (fun _ _ _ h => h) (Or.inl ⟨by rfl, ?_⟩) ?_ ?_
                                rotate_left
                                · intro w'
                                  go_simp
                                  with_reducible rfl
                                rotate_left
                                · simp only [Act.put, List.setIfInBounds_toArray, List.set_cons_zero, List.set_cons_succ, i64_w, i32_w]
                                  rfl
                                refine pure_ (i := 34) (N := some 119) (v := ?_) (a' := ?_) #[true, true, true, true, true, true, true, true, true, true, true, true, true, true, true, true, true, true, true, true, true, true, true, true, true, true, true, true, true, true, true, true, true, true, true, false, false, false, false, false, false, false, false, false, false, false, false] rfl rfl (any_of HT_.out (by kernel_rfl)) (fun _ _ _ h => h) (Or.inl ⟨by rfl, ?_⟩) ?_ ?_
                                rotate_left
                                · intro w'
                                  go_simp
                                  with_reducible rfl
                                rotate_left
                                · simp only [Act.put, List.setIfInBounds_toArray, List.set_cons_zero, List.set_cons_succ, i64_w, i32_w]
                                  rfl
                                refine pure_ (i := 35) (N := some 120) (v := ?_) (a' := ?_) #[true, true, true, true, true, true, true, true, true, true, true, true, true, true, true, true, true, true, true, true, true, true, true, true, true, true, true, true, true, true, true, true, true, true, true, true, false, false, false, false, false, false, false, false, false, false, false] rfl rfl (any_of HT_.out (by kernel_rfl)) (fun _ _ _ h => h) (Or.inl ⟨by rfl, ?_⟩) ?_ ?_
                                rotate_left
                                · intro w'
                                  go_simp
                                  with_reducible rfl
                                rotate_left
                                · simp only [Act.put, List.setIfInBounds_toArray, List.set_cons_zero, List.set_cons_succ, i64_w, i32_w]
                                  rfl
                                refine pure_ (i := 36) (N := some 121) (v := ?_) (a' := ?_) #[true, true, true, true, true, true, true, true, true, true, true, true, true, true, true, true, true, true, true, true, true, true, true, true, true, true, true, true, true, true, true, true, true, true, true, true, true, false, false, false, false, false, false, false, false, false, false] rfl rfl (any_of HT_.out (by kernel_rfl)) (fun _ _ _ h => h) (Or.inl ⟨by rfl, ?_⟩) ?_ ?_
                                rotate_left
                                · intro w'
                                  go_simp
                                  with_reducible rfl
                                rotate_left
                                · simp only [Act.put, List.setIfInBounds_toArray, List.set_cons_zero, List.set_cons_succ, i64_w, i32_w]
                                  rfl
                                refine pure_ (i := 40) (N := some 125) (v := ?_) (a' := ?_) #[true, true, true, true, true, true, true, true, true, true, true, true, true, true, true, true, true, true, true, true, true, true, true, true, true, true, true, true, true, true, true, true, true, true, true, true, true, false, false, false, true, false, false, false, false, false, false] rfl rfl (any_of HT_.out (by kernel_rfl)) (fun _ _ _ h => h) (Or.inl ⟨by rfl, ?_⟩) ?_ ?_
                                rotate_left
                                · intro w'
                                  go_simp
                                  with_reducible rfl
                                rotate_left
                                · simp only [Act.put, List.setIfInBounds_toArray, List.set_cons_zero, List.set_cons_succ, i64_w, i32_w]
                                  rfl
                                refine take_ (i := 37) (N := some 122) (v := ?_) (a' := ?_) #[true, true, true, true, true, true, true, true, true, true, true, true, true, true, true, true, true, true, true, true, true, true, true, true, true, true, true, true, true, true, true, true, true, true, true, true, true, true, false, false, true, false, false, false, false, false, false] rfl rfl (take_ofW HT_.out HW_.out (by kernel_rfl)) (fun _ _ _ h => h) (Or.inl ⟨by rfl, ?_⟩) hHeld ?_ ?_
                                rotate_left
                                · rintro w' ⟨s0, s1, s2, s3⟩
                                  go_simp
                                  with_reducible rfl
                                rotate_left
                                · simp only [Act.put, List.setIfInBounds_toArray, List.set_cons_zero, List.set_cons_succ, i64_w, i32_w]
                                  rfl
                                refine pure_ (i := 38) (N := some 123) (v := ?_) (a' := ?_) #[true, true, true, true, true, true, true, true, true, true, true, true, true, true, true, true, true, true, true, true, true, true, true, true, true, true, true, true, true, true, true, true, true, true, true, true, true, true, true, false, true, false, false, false, false, false, false] rfl rfl (any_of HT_.out (by kernel_rfl)) (fun _ _ _ h => h) (Or.inl ⟨by rfl, ?_⟩) ?_ ?_
                                rotate_left
                                · intro w'
                                  go_simp
                                  with_reducible rfl
                                rotate_left
                                · simp only [Act.put, List.setIfInBounds_toArray, List.set_cons_zero, List.set_cons_succ, i64_w, i32_w]
                                  rfl
                                refine take_ (i := 41) (N := some 126) (v := ?_) (a' := ?_) #[true, true, true, true, true, true, true, true, true, true, true, true, true, true, true, true, true, true, true, true, true, true, true, true, true, true, true, true, true, true, true, true, true, true, true, true, true, true, true, false, true, true, false, false, false, false, false] rfl rfl (take_ofW HT_.out HW_.out (by kernel_rfl)) (fun _ _ _ h => h) (Or.inl ⟨by rfl, ?_⟩) hHeld ?_ ?_
                                rotate_left
                                · rintro w' ⟨s0, s1, s2, s3⟩
                                  go_simp
                                  with_reducible rfl
                                rotate_left
                                · simp only [Act.put, List.setIfInBounds_toArray, List.set_cons_zero, List.set_cons_succ, i64_w, i32_w]
                                  rfl
                                refine pure_ (i := 42) (N := some 127) (v := ?_) (a' := ?_) #[true, true, true, true, true, true, true, true, true, true, true, true, true, true, true, true, true, true, true, true, true, true, true, true, true, true, true, true, true, true, true, true, true, true, true, true, true, true, true, false, true, true, true, false, false, false, false] rfl rfl (any_of HT_.out (by kernel_rfl)) (fun _ _ _ h => h) (Or.inl ⟨by rfl, ?_⟩) ?_ ?_
                                rotate_left
                                · intro w'
                                  go_simp
                                  with_reducible rfl
                                rotate_left
                                · simp only [Act.put, List.setIfInBounds_toArray, List.set_cons_zero, List.set_cons_succ, i64_w, i32_w]
                                  rfl
                                refine one_ (i := 39) (N := some 124) #[true, true, true, true, true, true, true, true, true, true, true, true, true, true, true, true, true, true, true, true, true, true, true, true, true, true, true, true, true, true, true, true, true, true, true, true, true, true, true, true, true, true, true, false, false, false, false] rfl rfl (one_of HT_.out (by kernel_rfl)) (by decide) (fun K hK => ?_)
                                refine goes_ Try.func30 (by kernel_rfl) rfl #[.int .u32 ((a0_1) % 4294967296)] (by rfl) rfl rfl (by (try simp only [List.map_toArray, List.map_cons, List.map_nil]); first | done | rfl | (simp only [List.length_drop, List.length_take]; rfl)) ?_
                                with_reducible refine (addr_Of4.calls ((a0_1) % 4294967296) t407 t408 _ A123.out).mono ?_
                                rintro e w139 ⟨rfl, hb⟩
                                refine ⟨_, rfl, ?_⟩
                                have n0_ := Aside0.mk (blk_below (g := gb370) (o := .cells #[.int .u64 a0_0, .int .u64 a0_1] 24 (0, 0)) (by (with_reducible repeat (first | refine blk_drewN ?_ _ | refine blk_drew ?_ | refine blk_alloc ?_ _)); exact BK370.out) hb)
                                have n1_ := Aside0.mk (blk_below (g := gb371) (o := .cells #[.int .u64 a1_0, .int .u64 a1_1] 24 (0, 0)) (by (with_reducible repeat (first | refine blk_drewN ?_ _ | refine blk_drew ?_ | refine blk_alloc ?_ _)); exact BK371.out) hb)
                                have n2_ := Aside0.mk (blk_below (g := gb376) (o := .cells #[.int .u64 t387, .int .u64 t388] 24 (0, 0)) (by (with_reducible repeat (first | refine blk_drewN ?_ _ | refine blk_drew ?_ | refine blk_alloc ?_ _)); exact BK376.out) hb)
                                have n3_ := Aside0.mk (blk_below (g := gb380) (o := .cells #[.int .u64 t390, .int .u64 t391] 24 (0, 0)) (by (with_reducible repeat (first | refine blk_drewN ?_ _ | refine blk_drew ?_ | refine blk_alloc ?_ _)); exact BK380.out) hb)
                                have n4_ := Aside0.mk (below_step (by repeat (first | (with_reducible first | exact HB.out | apply below_alloc | apply pw_below_drewN | apply below_drew1 | refine below_set ?_ GE370.out | refine below_set ?_ GE371.out | refine below_set ?_ GE376.out | refine below_set ?_ GE380.out) | exact HB.out)) hb)
                                clear BK370
                                clear BK371
                                clear BK376
                                clear BK380
                                clear HB
                                have BK370 := n0_
                                have BK371 := n1_
                                have BK376 := n2_
                                have BK380 := n3_
                                have HB := n4_
                                clear n0_ n1_ n2_ n3_ n4_
                                (try clear hb)
                                (try clear hb2)
                                (try clear hk)
                                (try clear hi)
                                refine hK.out _ _ ⟨(blk_cell BK370.out 0).trans rfl, (blk_cell BK370.out 1).trans rfl, (blk_cell BK371.out 0).trans rfl, (blk_cell BK371.out 1).trans rfl⟩ (fun hHeld => ?_)
                                clear hK K
                                refine norm_ (a' := ?_) ?_ ?_
                                rotate_left
                                · show Act.put _ (some 124) _ = _
                                  simp only [Act.put, List.setIfInBounds_toArray, List.set_cons_zero, List.set_cons_succ, i64_w, i32_w]
                                  rfl
                                refine one_ (i := 43) (N := some 128) #[true, true, true, true, true, true, true, true, true, true, true, true, true, true, true, true, true, true, true, true, true, true, true, true, true, true, true, true, true, true, true, true, true, true, true, true, true, true, true, true, true, true, true, true, false, false, false] rfl rfl (one_of HT_.out (by kernel_rfl)) (by decide) (fun K hK => ?_)
                                refine goes_ Try.func31 (by kernel_rfl) rfl #[.int .u32 ((a0_1) % 4294967296)] (by rfl) rfl rfl (by (try simp only [List.map_toArray, List.map_cons, List.map_nil]); first | done | rfl | (simp only [List.length_drop, List.length_take]; rfl)) ?_
                                with_reducible refine (tenancyref01_Of4.calls ((a0_1) % 4294967296) t409 t410 _ A124.out).mono ?_
                                rintro e w140 ⟨rfl, hb⟩
                                refine ⟨_, rfl, ?_⟩
                                have n0_ := Aside0.mk (blk_below (g := gb370) (o := .cells #[.int .u64 a0_0, .int .u64 a0_1] 24 (0, 0)) (by (with_reducible repeat (first | refine blk_drewN ?_ _ | refine blk_drew ?_ | refine blk_alloc ?_ _)); exact BK370.out) hb)
                                have n1_ := Aside0.mk (blk_below (g := gb371) (o := .cells #[.int .u64 a1_0, .int .u64 a1_1] 24 (0, 0)) (by (with_reducible repeat (first | refine blk_drewN ?_ _ | refine blk_drew ?_ | refine blk_alloc ?_ _)); exact BK371.out) hb)
                                have n2_ := Aside0.mk (blk_below (g := gb376) (o := .cells #[.int .u64 t387, .int .u64 t388] 24 (0, 0)) (by (with_reducible repeat (first | refine blk_drewN ?_ _ | refine blk_drew ?_ | refine blk_alloc ?_ _)); exact BK376.out) hb)
                                have n3_ := Aside0.mk (blk_below (g := gb380) (o := .cells #[.int .u64 t390, .int .u64 t391] 24 (0, 0)) (by (with_reducible repeat (first | refine blk_drewN ?_ _ | refine blk_drew ?_ | refine blk_alloc ?_ _)); exact BK380.out) hb)
                                have n4_ := Aside0.mk (below_step (by repeat (first | (with_reducible first | exact HB.out | apply below_alloc | apply pw_below_drewN | apply below_drew1 | refine below_set ?_ GE370.out | refine below_set ?_ GE371.out | refine below_set ?_ GE376.out | refine below_set ?_ GE380.out) | exact HB.out)) hb)
                                clear BK370
                                clear BK371
                                clear BK376
                                clear BK380
                                clear HB
                                have BK370 := n0_
                                have BK371 := n1_
                                have BK376 := n2_
                                have BK380 := n3_
                                have HB := n4_
                                clear n0_ n1_ n2_ n3_ n4_
                                (try clear hb)
                                (try clear hb2)
                                (try clear hk)
                                (try clear hi)
                                refine hK.out _ _ ⟨(blk_cell BK370.out 0).trans rfl, (blk_cell BK370.out 1).trans rfl, (blk_cell BK371.out 0).trans rfl, (blk_cell BK371.out 1).trans rfl⟩ (fun hHeld => ?_)
                                clear hK K
                                refine norm_ (a' := ?_) ?_ ?_
                                rotate_left
                                · show Act.put _ (some 128) _ = _
                                  simp only [Act.put, List.setIfInBounds_toArray, List.set_cons_zero, List.set_cons_succ, i64_w, i32_w]
                                  rfl
                                refine pure_ (i := 44) (N := some 129) (v := ?_) (a' := ?_) #[true, true, true, true, true, true, true, true, true, true, true, true, true, true, true, true, true, true, true, true, true, true, true, true, true, true, true, true, true, true, true, true, true, true, true, true, true, true, true, true, true, true, true, true, true, false, false] rfl rfl (any_of HT_.out (by kernel_rfl)) (fun _ _ _ h => h) (Or.inl ⟨by rfl, ?_⟩) ?_ ?_
                                rotate_left
                                · intro w'
                                  go_simp
                                  with_reducible rfl
                                rotate_left
                                · simp only [Act.put, List.setIfInBounds_toArray, List.set_cons_zero, List.set_cons_succ, i64_w, i32_w]
                                  rfl
                                refine pure_ (i := 45) (N := some 130) (v := ?_) (a' := ?_) #[true, true, true, true, true, true, true, true, true, true, true, true, true, true, true, true, true, true, true, true, true, true, true, true, true, true, true, true, true, true, true, true, true, true, true, true, true, true, true, true, true, true, true, true, true, true, false] rfl rfl (any_of HT_.out (by kernel_rfl)) (fun _ _ _ h => h) (Or.inl ⟨by rfl, ?_⟩) ?_ ?_
                                rotate_left
                                · intro w'
                                  go_simp
                                  with_reducible rfl
                                rotate_left
                                · simp only [Act.put, List.setIfInBounds_toArray, List.set_cons_zero, List.set_cons_succ, i64_w, i32_w]
                                  rfl
                                refine pure_ (i := 46) (N := some 6) (v := ?_) (a' := ?_) #[true, true, true, true, true, true, true, true, true, true, true, true, true, true, true, true, true, true, true, true, true, true, true, true, true, true, true, true, true, true, true, true, true, true, true, true, true, true, true, true, true, true, true, true, true, true, true] rfl rfl (any_of HT_.out (by kernel_rfl)) (fun _ _ _ h => h) (Or.inl ⟨by rfl, ?_⟩) ?_ ?_
                                rotate_left
                                · intro w'
                                  go_simp
                                  with_reducible rfl
                                rotate_left
                                · simp only [Act.put, List.setIfInBounds_toArray, List.set_cons_zero, List.set_cons_succ, i64_w, i32_w]
                                  rfl
                                refine done_ (done_of HT_.out (by kernel_rfl)) ?_
                                try go_wp2
                                go_ret
                                exact ⟨by first | rfl | (simp [errW_none, errW_some] <;> rfl) | (simp [*, errW_none, errW_some] <;> rfl), by repeat (first | (with_reducible first | exact HB.out | apply below_alloc | apply pw_below_drewN | apply below_drew1 | refine below_set ?_ GE370.out | refine below_set ?_ GE371.out | refine below_set ?_ GE376.out | refine below_set ?_ GE380.out) | exact HB.out)⟩
                              · rw [if_neg c122] at H
                                have c122b0 : (t403 == t405 && (t404 == t406)) = false := by simpa using c122
                                (try (have c122b1 : decide (t403 = t405 && (t404 == t406)) = false := by simpa using c122))
                                (try (have c122b2 : (t403 == t405 && (t404 == t406)) = false := by simpa using c122))
                                (try (have c122b3 : ¬ (t403 = t405 && (t404 == t406)) := by simpa using c122))
                                clear c122
                                exact absurd H (by simp)
                            · rw [if_neg c119] at H
                              have c119b0 : (t399 == t401 && (t400 == t402)) = false := by simpa using c119
                              (try (have c119b1 : decide (t399 = t401 && (t400 == t402)) = false := by simpa using c119))
                              (try (have c119b2 : (t399 == t401 && (t400 == t402)) = false := by simpa using c119))
                              (try (have c119b3 : ¬ (t399 = t401 && (t400 == t402)) := by simpa using c119))
                              clear c119
                              exact absurd H (by simp)
                          · rw [if_neg c116] at H
                            have c116b0 : (t397 == t398) = false := beq_eq_false_iff_ne.mpr c116
                            have c116b1 : (t397 != t398) = true := bne_iff_ne.mpr c116
                            exact absurd H (by simp)
                        · rw [if_neg c113] at H
                          have c113b0 : (t394 == t396) = false := by simpa using c113
                          (try (have c113b1 : decide (t394 = t396) = false := by simpa using c113))
                          (try (have c113b2 : (t394 == t396) = false := by simpa using c113))
                          (try (have c113b3 : ¬ (t394 = t396) := by simpa using c113))
                          clear c113
                          exact absurd H (by simp)
                      · rw [if_neg c112] at H
                        have c112b0 : (t393 == t395) = false := beq_eq_false_iff_ne.mpr c112
                        have c112b1 : (t393 != t395) = true := bne_iff_ne.mpr c112
                        exact absurd H (by simp)
  · replace c5 := Bool.eq_false_iff.mpr c5
    subst c5
    have H1 : (none) = some r := by rw [if_neg (show ¬ (false = true) by decide)] at H; exact H
    clear H
    have H := H1
    clear H1
    exact absurd H (by simp)

/-- The one pure statement of tenancylaw01_AddrNumbers. -/
def tenancylaw01_AddrNumbers.Pure : Prop := ∀ (a0_0 : Int) (a0_1 : Int) (a1_0 : Int) (a1_1 : Int) (a2 : Int), (Lit.int .u64 a0_0).wf = true → (Lit.int .u64 a0_1).wf = true → (Lit.int .u64 a1_0).wf = true → (Lit.int .u64 a1_1).wf = true → (Lit.int .i64 a2).wf = true → ∃ k, tenancylaw01_AddrNumbers.f k a0_0 a0_1 a1_0 a1_1 a2 = some true

end Go.Proofs.Ytpllddgbfhnghaa.P
