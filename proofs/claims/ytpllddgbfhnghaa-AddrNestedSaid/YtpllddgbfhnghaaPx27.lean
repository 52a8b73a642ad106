-- Written by pp.py, a program of this session, out of the translation.
import Derived.Test.YtpllddgbfhnghaaPx0
import Derived.Test.YtpllddgbfhnghaaPx4
import Derived.Test.YtpllddgbfhnghaaPx6
import Derived.Test.YtpllddgbfhnghaaPx10
namespace Go.Proofs.Ytpllddgbfhnghaa.P
open Go.RowKit Go.Proofs.YtpllddgbfhnghaaW.PrintWords Go.Proofs.YtpllddgbfhnghaaW.PrintLast Go.Proofs.YtpllddgbfhnghaaW.PrintMore
attribute [local go_sem] max2_int min2_int max_two min_two max_three min_three max_four min_four   -- for this text's walks alone
set_option linter.unusedVariables false
set_option linter.unusedSimpArgs false

/-! ### addr_Halves: function 35 -/
def addr_Halves.j0 : Nat → Bool → Int → Int → Int → Option (Int × Int × Int × Int × Int × Int × Bool)
 | 0, _, _, _, _ => none
 | k + 1, x15, x430000, x430001, x430002 => if x15 = true then (some (0, 0, 0, 0, 0, 0, false)) else ((addr_Up.f 0 1 (wrap64 (127 - x430002))).bind fun bt433 => ((addr_Add.f x430000 x430001 bt433.1 bt433.2).bind fun bt436 => (some (x430000, x430001, wrap64 (x430002 + 1), bt436.1, bt436.2.1, wrap64 (x430002 + 1), true))))
def addr_Halves.f (k : Nat) (a0_0 : Int) (a0_1 : Int) (a0_2 : Int) : Option (Int × Int × Int × Int × Int × Int × Bool) := (addr_Sound.f k a0_0 a0_1 a0_2).bind fun t432 => (if t432 = true then (addr_Halves.j0 k (a0_2 == 128) a0_0 a0_1 a0_2) else (addr_Halves.j0 k true a0_0 a0_1 a0_2))
theorem addr_Halves.mono_l : ∀ k, (∀ y0 y1 y2 y3, LeO (addr_Halves.j0 k y0 y1 y2 y3) (addr_Halves.j0 (k + 1) y0 y1 y2 y3))
 | 0 => fun _ _ _ _ r h => by simp [addr_Halves.j0] at h
 | k + 1 => by
  have ih0 := addr_Halves.mono_l k
  ·intro y0 y1 y2 y3
   unfold addr_Halves.j0
   repeat' first
   | (with_reducible exact ih0 _ _ _ _)
   | (with_reducible exact addr_Sound.mono _ _ _ _)
   | (with_reducible exact LeO.refl _)
   | (with_reducible exact LeO.none _)
   | (with_reducible refine LeO.ite ?_ ?_)
   | (with_reducible refine LeO.bind ?_ (fun _ => ?_))
   | exact ih0 _ _ _ _
   | exact addr_Sound.mono _ _ _ _
   | exact LeO.none _
   | refine LeO.ite ?_ ?_
   | refine LeO.bind ?_ (fun _ => ?_)
theorem addr_Halves.mono : ∀ a0 a1 a2 k, LeO (addr_Halves.f k a0 a1 a2) (addr_Halves.f (k + 1) a0 a1 a2) := by
 intro a0 a1 a2 k
 have ih0 := addr_Halves.mono_l k
 unfold addr_Halves.f
 repeat' first
   | (with_reducible exact ih0 _ _ _ _)
   | (with_reducible exact addr_Sound.mono _ _ _ _)
   | (with_reducible exact LeO.refl _)
   | (with_reducible exact LeO.none _)
   | (with_reducible refine LeO.ite ?_ ?_)
   | (with_reducible refine LeO.bind ?_ (fun _ => ?_))
   | exact ih0 _ _ _ _
   | exact addr_Sound.mono _ _ _ _
   | exact LeO.none _
   | refine LeO.ite ?_ ?_
   | refine LeO.bind ?_ (fun _ => ?_)
def addr_Halves.T5 : Bool × List (List Nat × List Nat) := (true, [([], []), ([0], [0]), ([], []), ([2], [2]), ([3], [3]), ([1, 4], [1, 4]), ([], []), ([], []), ([7], [7]), ([8], [8]), ([6, 9], [6, 9]), ([5, 0, 1, 2, 3, 4, 5], [5]), ([10, 11, 0, 1, 2, 3, 4, 5, 6, 7, 8, 9, 10, 11], [10]), ([12, 0, 1, 2, 3, 4, 5, 6, 7, 8, 9, 10, 11, 12], [])])
def addr_Halves.B5 : List Nat := [0, 1, 0, 4, 12, 31, 0, 0, 128, 384, 960, 63, 4095, 8191]
theorem addr_Halves.tab5 : rtab .any (opsOf Try.f35 5) = addr_Halves.T5 := by kernel_rfl
theorem addr_Halves.bits5 : waitsOk addr_Halves.T5.2 addr_Halves.B5 = true := by kernel_rfl
set_option maxHeartbeats 8000000 in
set_option maxRecDepth 100000 in
theorem addr_Halves.calls (k : Nat) (a0_0 : Int) (a0_1 : Int) (a0_2 : Int) (r1 : Int) (r2 : Int) (r3 : Int) (r4 : Int) (r5 : Int) (r6 : Int) (r7 : Bool) (w : World) (h : addr_Halves.f k a0_0 a0_1 a0_2 = some (r1, r2, r3, r4, r5, r6, r7)) :
  Calls Try.prog 35 #[.agg #[.int .u64 a0_0, .int .u64 a0_1, .int .i64 a0_2]] w fun e w' => e = .returned (.tuple #[.agg #[.int .u64 r1, .int .u64 r2, .int .i64 r3], .agg #[.int .u64 r4, .int .u64 r5, .int .i64 r6], .bool r7]) ∧ Below w.heap.size w w' := by
 have hu33 := Try.underlying33
 have hu24 := Try.underlying24
 have HB := Aside0.mk (Below.refl w.heap.size w)
 have H : ((addr_Sound.f k a0_0 a0_1 a0_2).bind fun t432 => (if t432 = true then (addr_Halves.j0 k (a0_2 == 128) a0_0 a0_1 a0_2) else (addr_Halves.j0 k true a0_0 a0_1 a0_2))) = some (r1, r2, r3, r4, r5, r6, r7) := h
 clear h
 have HC2 := Aside0.mk H
 clear H
 go_enter Try.func35, Try.ntmps35
 go_upto_region 1 with (first | ((with_reducible refine gate_dst (N := 1) rfl ?_); refine box_event ?hg (N := 1) ?hd (cs := #[.int .u64 a0_0, .int .u64 a0_1, .int .i64 a0_2]) (t := 33) ?hr ?_; (case hd => rfl); (case hg => rfl); (case hr => first | (go_simp; done) | (go_simp; rfl)); intro gb429 hg w3 hbox hb; have n0_ := Aside0.mk (zbP (by repeat (first | (with_reducible first | exact HB.out | apply zbA | apply zbN | apply zb1) | exact HB.out)) hb); have n1_ := Aside0.mk (hbox); have n2_ := Aside0.mk ((by rw [hg]; exact (zbZ (by repeat (first | (with_reducible first | exact HB.out | apply zbA | apply zbN | apply zb1) | exact HB.out))) : w.heap.size ≤ gb429)); have n3_ := n2_; clear HB; have HB := n0_; have BK429 := n1_; have GW429 := n2_; have GE429 := n3_; clear n0_ n1_ n2_ n3_; clear hb hbox hg) | ((with_reducible refine gate_dst (N := 2) rfl ?_); refine box_event ?hg (N := 2) ?hd (cs := #[.int .u64 0, .int .u64 0, .int .i64 0]) (t := 33) ?hr ?_; (case hd => rfl); (case hg => rfl); (case hr => first | (go_simp; done) | (go_simp; rfl)); intro gb430 hg w4 hbox hb; have n0_ := Aside0.mk (zkB (by (with_reducible repeat (first | refine zkN ?_ _ | refine zk1 ?_ | refine zkA ?_ _)); exact BK429.out) hb); have n1_ := Aside0.mk (zbP (by repeat (first | (with_reducible first | exact HB.out | apply zbA | apply zbN | apply zb1 | refine zbS ?_ GE429.out) | exact HB.out)) hb); have n2_ := Aside0.mk (hbox); have n3_ := Aside0.mk ((by rw [hg]; exact (zbZ (by repeat (first | (with_reducible first | exact HB.out | apply zbA | apply zbN | apply zb1 | refine zbS ?_ GE429.out) | exact HB.out))) : w.heap.size ≤ gb430)); have n4_ := n3_; have n5_ := Aside0.mk ((by rw [hg]; exact Nat.ne_of_lt (zkL (by (with_reducible repeat (first | refine zkN ?_ _ | refine zk1 ?_ | refine zkA ?_ _)); exact BK429.out)) : gb429 ≠ gb430)); have n6_ := Aside0.mk (Ne.symm n5_.out); clear BK429; clear HB; have BK429 := n0_; have HB := n1_; have BK430 := n2_; have GW430 := n3_; have GE430 := n4_; have NB429_430 := n5_; have NB430_429 := n6_; clear n0_ n1_ n2_ n3_ n4_ n5_ n6_; clear hb hbox hg) | ((with_reducible refine gate_dst (N := 3) rfl ?_); refine box_event ?hg (N := 3) ?hd (cs := #[.int .u64 0, .int .u64 0, .int .i64 0]) (t := 33) ?hr ?_; (case hd => rfl); (case hg => rfl); (case hr => first | (go_simp; done) | (go_simp; rfl)); intro gb431 hg w5 hbox hb; have n0_ := Aside0.mk (zkB (by (with_reducible repeat (first | refine zkN ?_ _ | refine zk1 ?_ | refine zkA ?_ _)); exact BK429.out) hb); have n1_ := Aside0.mk (zkB (by (with_reducible repeat (first | refine zkN ?_ _ | refine zk1 ?_ | refine zkA ?_ _)); exact BK430.out) hb); have n2_ := Aside0.mk (zbP (by repeat (first | (with_reducible first | exact HB.out | apply zbA | apply zbN | apply zb1 | refine zbS ?_ GE429.out | refine zbS ?_ GE430.out) | exact HB.out)) hb); have n3_ := Aside0.mk (hbox); have n4_ := Aside0.mk ((by rw [hg]; exact (zbZ (by repeat (first | (with_reducible first | exact HB.out | apply zbA | apply zbN | apply zb1 | refine zbS ?_ GE429.out | refine zbS ?_ GE430.out) | exact HB.out))) : w.heap.size ≤ gb431)); have n5_ := n4_; have n6_ := Aside0.mk ((by rw [hg]; exact Nat.ne_of_lt (zkL (by (with_reducible repeat (first | refine zkN ?_ _ | refine zk1 ?_ | refine zkA ?_ _)); exact BK429.out)) : gb429 ≠ gb431)); have n7_ := Aside0.mk (Ne.symm n6_.out); have n8_ := Aside0.mk ((by rw [hg]; exact Nat.ne_of_lt (zkL (by (with_reducible repeat (first | refine zkN ?_ _ | refine zk1 ?_ | refine zkA ?_ _)); exact BK430.out)) : gb430 ≠ gb431)); have n9_ := Aside0.mk (Ne.symm n8_.out); clear BK429; clear BK430; clear HB; have BK429 := n0_; have BK430 := n1_; have HB := n2_; have BK431 := n3_; have GW431 := n4_; have GE431 := n5_; have NB429_431 := n6_; have NB431_429 := n7_; have NB430_431 := n8_; have NB431_430 := n9_; clear n0_ n1_ n2_ n3_ n4_ n5_ n6_ n7_ n8_ n9_; clear hb hbox hg))
 (try simp only [Act.put, List.setIfInBounds_toArray, List.set_cons_zero, List.set_cons_succ])
 go_cut [15] (fun v15 wc => ∃ (kq : Nat) (x15_1 : Bool), v15 = .bool x15_1 ∧ Aside0 (addr_Halves.j0 kq x15_1 a0_0 a0_1 a0_2 = some (r1, r2, r3, r4, r5, r6, r7)) ∧ Aside0 (kq ≤ k) ∧ Aside0 (wc.heap[gb429]? = some (.cells #[.int .u64 a0_0, .int .u64 a0_1, .int .i64 a0_2] 33 (0, 0))) ∧ Aside0 (wc.heap[gb430]? = some (.cells #[.int .u64 0, .int .u64 0, .int .i64 0] 33 (0, 0))) ∧ Aside0 (wc.heap[gb431]? = some (.cells #[.int .u64 0, .int .u64 0, .int .i64 0] 33 (0, 0))) ∧ Aside0 (Below w.heap.size w wc))
 case first =>
  have H := HC2.out
  clear HC2
  replace H := Option.bind_eq_some_iff.mp H
  obtain ⟨t432, A60, H⟩ := H
  replace H : (if t432 = true then (addr_Halves.j0 k (a0_2 == 128) a0_0 a0_1 a0_2) else (addr_Halves.j0 k true a0_0 a0_1 a0_2)) = some (r1, r2, r3, r4, r5, r6, r7) := H
  have A6 := Aside0.mk A60
  clear A60
  by_cases c7 : t432 = true
  ·subst c7
   have H1 : (addr_Halves.j0 k (a0_2 == 128) a0_0 a0_1 a0_2) = some (r1, r2, r3, r4, r5, r6, r7) := by rw [if_pos rfl] at H; exact H
   clear H
   have H := H1
   clear H1
   have H' := Aside0.mk H
   clear H
   have hnb8 := NB429_430.out
   have hnc8 := NB430_429.out
   have hnb9 := NB429_431.out
   have hnc9 := NB431_429.out
   obtain ⟨hcz10_0, hcz10_1, hcz10_2, hfz10_0, hfz10_1, hfz10_2⟩ := zc3 BK429.out
   go_wp2_with (first | ((with_reducible refine gate_callee (f := 19) rfl ?_); refine goesL_ (some 9) rfl rfl Try.func19 (by kernel_rfl) rfl #[.agg #[.int .u64 a0_0, .int .u64 a0_1, .int .i64 a0_2]] rfl (by (try simp only [List.map_toArray, List.map_cons, List.map_nil]); first | done | rfl | (simp only [List.length_drop, List.length_take]; rfl)) ?_; (with_reducible refine (addr_Sound.calls k a0_0 a0_1 a0_2 true _ A6.out).mono ?_); rintro e w11 ⟨rfl, hb⟩; refine ⟨_, rfl, ?_⟩; have n0_ := Aside0.mk (zkB (by (with_reducible repeat (first | refine zkN ?_ _ | refine zk1 ?_ | refine zkA ?_ _)); exact BK429.out) hb); have n1_ := Aside0.mk (zkB (by (with_reducible repeat (first | refine zkN ?_ _ | refine zk1 ?_ | refine zkA ?_ _)); exact BK430.out) hb); have n2_ := Aside0.mk (zkB (by (with_reducible repeat (first | refine zkN ?_ _ | refine zk1 ?_ | refine zkA ?_ _)); exact BK431.out) hb); have n3_ := Aside0.mk (zbP (by repeat (first | (with_reducible first | exact HB.out | apply zbA | apply zbN | apply zb1 | refine zbS ?_ GE429.out | refine zbS ?_ GE430.out | refine zbS ?_ GE431.out) | exact HB.out)) hb); clear BK429; clear BK430; clear BK431; clear HB; have BK429 := n0_; have BK430 := n1_; have BK431 := n2_; have HB := n3_; clear n0_ n1_ n2_ n3_; (try clear hb); (try clear hb2); (try clear hk); (try clear hi); obtain ⟨hcz12_0, hcz12_1, hcz12_2, hfz12_0, hfz12_1, hfz12_2⟩ := zc3 BK429.out))
   go_meet
   case rel => exact ⟨_, ((a0_2 == 128)), (by first | rfl | (simp; done) | (simp [*]; done)), H', ⟨by first | omega | exact Nat.le_refl _⟩, ⟨by (with_reducible repeat (first | refine zkN ?_ _ | refine zk1 ?_ | refine zkA ?_ _)); exact BK429.out⟩, ⟨by (with_reducible repeat (first | refine zkN ?_ _ | refine zk1 ?_ | refine zkA ?_ _)); exact BK430.out⟩, ⟨by (with_reducible repeat (first | refine zkN ?_ _ | refine zk1 ?_ | refine zkA ?_ _)); exact BK431.out⟩, ⟨by repeat (first | (with_reducible first | exact HB.out | apply zbA | apply zbN | apply zb1 | refine zbS ?_ GE429.out | refine zbS ?_ GE430.out | refine zbS ?_ GE431.out) | exact HB.out)⟩⟩
  ·replace c7 := Bool.eq_false_iff.mpr c7
   subst c7
   have H1 : (addr_Halves.j0 k true a0_0 a0_1 a0_2) = some (r1, r2, r3, r4, r5, r6, r7) := by rw [if_neg (show ¬ (false = true) by decide)] at H; exact H
   clear H
   have H := H1
   clear H1
   have H' := Aside0.mk H
   clear H
   have hnb13 := NB429_430.out
   have hnc13 := NB430_429.out
   have hnb14 := NB429_431.out
   have hnc14 := NB431_429.out
   obtain ⟨hcz15_0, hcz15_1, hcz15_2, hfz15_0, hfz15_1, hfz15_2⟩ := zc3 BK429.out
   go_wp2_with (first | ((with_reducible refine gate_callee (f := 19) rfl ?_); refine goesL_ (some 9) rfl rfl Try.func19 (by kernel_rfl) rfl #[.agg #[.int .u64 a0_0, .int .u64 a0_1, .int .i64 a0_2]] rfl (by (try simp only [List.map_toArray, List.map_cons, List.map_nil]); first | done | rfl | (simp only [List.length_drop, List.length_take]; rfl)) ?_; (with_reducible refine (addr_Sound.calls k a0_0 a0_1 a0_2 false _ A6.out).mono ?_); rintro e w16 ⟨rfl, hb⟩; refine ⟨_, rfl, ?_⟩; have n0_ := Aside0.mk (zkB (by (with_reducible repeat (first | refine zkN ?_ _ | refine zk1 ?_ | refine zkA ?_ _)); exact BK429.out) hb); have n1_ := Aside0.mk (zkB (by (with_reducible repeat (first | refine zkN ?_ _ | refine zk1 ?_ | refine zkA ?_ _)); exact BK430.out) hb); have n2_ := Aside0.mk (zkB (by (with_reducible repeat (first | refine zkN ?_ _ | refine zk1 ?_ | refine zkA ?_ _)); exact BK431.out) hb); have n3_ := Aside0.mk (zbP (by repeat (first | (with_reducible first | exact HB.out | apply zbA | apply zbN | apply zb1 | refine zbS ?_ GE429.out | refine zbS ?_ GE430.out | refine zbS ?_ GE431.out) | exact HB.out)) hb); clear BK429; clear BK430; clear BK431; clear HB; have BK429 := n0_; have BK430 := n1_; have BK431 := n2_; have HB := n3_; clear n0_ n1_ n2_ n3_; (try clear hb); (try clear hb2); (try clear hk); (try clear hi)))
   go_meet
   case rel => exact ⟨_, (true), (by first | rfl | (simp; done) | (simp [*]; done)), H', ⟨by first | omega | exact Nat.le_refl _⟩, ⟨by (with_reducible repeat (first | refine zkN ?_ _ | refine zk1 ?_ | refine zkA ?_ _)); exact BK429.out⟩, ⟨by (with_reducible repeat (first | refine zkN ?_ _ | refine zk1 ?_ | refine zkA ?_ _)); exact BK430.out⟩, ⟨by (with_reducible repeat (first | refine zkN ?_ _ | refine zk1 ?_ | refine zkA ?_ _)); exact BK431.out⟩, ⟨by repeat (first | (with_reducible first | exact HB.out | apply zbA | apply zbN | apply zb1 | refine zbS ?_ GE429.out | refine zbS ?_ GE430.out | refine zbS ?_ GE431.out) | exact HB.out)⟩⟩
 case rest =>
  clear HC2
  (try clear c1); (try clear p2); (try clear c3); (try clear c7); (try clear c8); (try clear c9); (try clear c13); (try clear c14); (try clear hcz10_0 hcz10_1 hcz10_2 hfz10_0 hfz10_1 hfz10_2); (try clear hcz12_0 hcz12_1 hcz12_2 hfz12_0 hfz12_1 hfz12_2); (try clear hcz15_0 hcz15_1 hcz15_2 hfz15_0 hfz15_1 hfz15_2)
  obtain ⟨kq, x15_1, rfl, HA, HJ1, BK429, BK430, BK431, HB⟩ := hcut
  cases kq with
  | zero => exact absurd HA.out (by simp [addr_Halves.j0])
  | succ kj1 =>
   have H := HA.out
   clear HA
   simp only [addr_Halves.j0] at H
   by_cases c17 : x15_1 = true
   ·subst c17
    have H1 : (some (0, 0, 0, 0, 0, 0, false)) = some (r1, r2, r3, r4, r5, r6, r7) := by rw [if_pos rfl] at H; exact H
    clear H
    have H := H1
    clear H1
    simp only [Option.some.injEq, Prod.mk.injEq] at H
    obtain ⟨rfl, rfl, rfl, rfl, rfl, rfl, rfl⟩ := H
    have hnb18 := NB430_429.out
    have hnc18 := NB429_430.out
    have hnb19 := NB430_431.out
    have hnc19 := NB431_430.out
    obtain ⟨hcz20_0, hcz20_1, hcz20_2, hfz20_0, hfz20_1, hfz20_2⟩ := zc3 BK430.out
    have hnb21 := NB431_429.out
    have hnc21 := NB429_431.out
    obtain ⟨hcz22_0, hcz22_1, hcz22_2, hfz22_0, hfz22_1, hfz22_2⟩ := zc3 BK431.out
    go_wp2
    refine bodyPost_ret (results_list (rs := [.cell 2 33, .cell 3 33, .tmp 4]) rfl (by simp) (.cell gb430 33 #[.int .u64 0, .int .u64 0, .int .i64 0] (0, 0) _ rfl (by (with_reducible repeat (first | refine zkN ?_ _ | refine zk1 ?_ | refine zkA ?_ _)); refine blk_far ?_ NB430_431.out _; (with_reducible repeat (first | refine zkN ?_ _ | refine zk1 ?_ | refine zkA ?_ _)); refine blk_far ?_ NB430_431.out _; (with_reducible repeat (first | refine zkN ?_ _ | refine zk1 ?_ | refine zkA ?_ _)); refine blk_far ?_ NB430_431.out _; (with_reducible repeat (first | refine zkN ?_ _ | refine zk1 ?_ | refine zkA ?_ _)); refine zkP (cs := #[.int .u64 0, .int .u64 0, .int .i64 0]) ?_ 2 _ rfl; (with_reducible repeat (first | refine zkN ?_ _ | refine zk1 ?_ | refine zkA ?_ _)); refine zkP (cs := #[.int .u64 0, .int .u64 0, .int .i64 0]) ?_ 1 _ rfl; (with_reducible repeat (first | refine zkN ?_ _ | refine zk1 ?_ | refine zkA ?_ _)); refine zkP (cs := #[.int .u64 0, .int .u64 0, .int .i64 0]) ?_ 0 _ rfl; (with_reducible repeat (first | refine zkN ?_ _ | refine zk1 ?_ | refine zkA ?_ _)); exact BK430.out) Try.underlying33 rfl (by kernel_rfl) (.cell gb431 33 #[.int .u64 0, .int .u64 0, .int .i64 0] (0, 0) _ rfl (by (with_reducible repeat (first | refine zkN ?_ _ | refine zk1 ?_ | refine zkA ?_ _)); refine zkP (cs := #[.int .u64 0, .int .u64 0, .int .i64 0]) ?_ 2 _ rfl; (with_reducible repeat (first | refine zkN ?_ _ | refine zk1 ?_ | refine zkA ?_ _)); refine zkP (cs := #[.int .u64 0, .int .u64 0, .int .i64 0]) ?_ 1 _ rfl; (with_reducible repeat (first | refine zkN ?_ _ | refine zk1 ?_ | refine zkA ?_ _)); refine zkP (cs := #[.int .u64 0, .int .u64 0, .int .i64 0]) ?_ 0 _ rfl; (with_reducible repeat (first | refine zkN ?_ _ | refine zk1 ?_ | refine zkA ?_ _)); refine blk_far ?_ NB431_430.out _; (with_reducible repeat (first | refine zkN ?_ _ | refine zk1 ?_ | refine zkA ?_ _)); refine blk_far ?_ NB431_430.out _; (with_reducible repeat (first | refine zkN ?_ _ | refine zk1 ?_ | refine zkA ?_ _)); refine blk_far ?_ NB431_430.out _; (with_reducible repeat (first | refine zkN ?_ _ | refine zk1 ?_ | refine zkA ?_ _)); exact BK431.out) Try.underlying33 rfl (by kernel_rfl) (.tmp .nil)))) rfl ?_
    exact ⟨by first | rfl | (simp [errW_none, errW_some] <;> rfl) | (simp [*, errW_none, errW_some] <;> rfl), by repeat (first | (with_reducible first | exact HB.out | apply zbA | apply zbN | apply zb1 | refine zbS ?_ GE429.out | refine zbS ?_ GE430.out | refine zbS ?_ GE431.out) | exact HB.out)⟩
   ·replace c17 := Bool.eq_false_iff.mpr c17
    subst c17
    have H1 : ((addr_Up.f 0 1 (wrap64 (127 - a0_2))).bind fun bt433 => ((addr_Add.f a0_0 a0_1 bt433.1 bt433.2).bind fun bt436 => (some (a0_0, a0_1, wrap64 (a0_2 + 1), bt436.1, bt436.2.1, wrap64 (a0_2 + 1), true)))) = some (r1, r2, r3, r4, r5, r6, r7) := by rw [if_neg (show ¬ (false = true) by decide)] at H; exact H
    clear H
    have H := H1
    clear H1
    replace H := Option.bind_eq_some_iff.mp H
    obtain ⟨⟨t433, t434⟩, A230, H⟩ := H
    replace H : ((addr_Add.f a0_0 a0_1 t433 t434).bind fun bt436 => (some (a0_0, a0_1, wrap64 (a0_2 + 1), bt436.1, bt436.2.1, wrap64 (a0_2 + 1), true))) = some (r1, r2, r3, r4, r5, r6, r7) := H
    have A23 := Aside0.mk A230
    clear A230
    replace H := Option.bind_eq_some_iff.mp H
    obtain ⟨⟨t436, t437, t438⟩, A240, H⟩ := H
    replace H : (some (a0_0, a0_1, wrap64 (a0_2 + 1), t436, t437, wrap64 (a0_2 + 1), true)) = some (r1, r2, r3, r4, r5, r6, r7) := H
    have A24 := Aside0.mk A240
    clear A240
    simp only [Option.some.injEq, Prod.mk.injEq] at H
    obtain ⟨rfl, rfl, rfl, rfl, rfl, rfl, rfl⟩ := H
    have hnb25 := NB429_430.out
    have hnc25 := NB430_429.out
    have hnb26 := NB429_431.out
    have hnc26 := NB431_429.out
    obtain ⟨hcz27_0, hcz27_1, hcz27_2, hfz27_0, hfz27_1, hfz27_2⟩ := zc3 BK429.out
    try go_wp2_with (first | ((with_reducible refine gate_callee (f := 15) rfl ?_); refine goesL_ (some 22) rfl rfl Try.func15 (by kernel_rfl) rfl #[.agg #[.int .u64 0, .int .u64 1], .int .i64 (wrap64 (127 - a0_2))] rfl (by (try simp only [List.map_toArray, List.map_cons, List.map_nil]); first | done | rfl | (simp only [List.length_drop, List.length_take]; rfl)) ?_; (with_reducible refine (addr_Up.calls 0 1 (wrap64 (127 - a0_2)) t433 t434 _ A23.out).mono ?_); rintro e w28 ⟨rfl, hb⟩; refine ⟨_, rfl, ?_⟩; have n0_ := Aside0.mk (zkB (by (with_reducible repeat (first | refine zkN ?_ _ | refine zk1 ?_ | refine zkA ?_ _)); exact BK429.out) hb); have n1_ := Aside0.mk (zkB (by (with_reducible repeat (first | refine zkN ?_ _ | refine zk1 ?_ | refine zkA ?_ _)); exact BK430.out) hb); have n2_ := Aside0.mk (zkB (by (with_reducible repeat (first | refine zkN ?_ _ | refine zk1 ?_ | refine zkA ?_ _)); exact BK431.out) hb); have n3_ := Aside0.mk (zbP (by repeat (first | (with_reducible first | exact HB.out | apply zbA | apply zbN | apply zb1 | refine zbS ?_ GE429.out | refine zbS ?_ GE430.out | refine zbS ?_ GE431.out) | exact HB.out)) hb); clear BK429; clear BK430; clear BK431; clear HB; have BK429 := n0_; have BK430 := n1_; have BK431 := n2_; have HB := n3_; clear n0_ n1_ n2_ n3_; (try clear hb); (try clear hb2); (try clear hk); (try clear hi)) | ((with_reducible refine gate_dst (N := 5) rfl ?_); refine box_event ?hg (N := 5) ?hd (cs := #[.int .u64 0, .int .u64 0]) (t := 24) ?hr ?_; (case hd => rfl); (case hg => rfl); (case hr => first | (go_simp; done) | (go_simp; rfl)); intro gb435 hg w29 hbox hb; have n0_ := Aside0.mk (zkB (by (with_reducible repeat (first | refine zkN ?_ _ | refine zk1 ?_ | refine zkA ?_ _)); exact BK429.out) hb); have n1_ := Aside0.mk (zkB (by (with_reducible repeat (first | refine zkN ?_ _ | refine zk1 ?_ | refine zkA ?_ _)); exact BK430.out) hb); have n2_ := Aside0.mk (zkB (by (with_reducible repeat (first | refine zkN ?_ _ | refine zk1 ?_ | refine zkA ?_ _)); exact BK431.out) hb); have n3_ := Aside0.mk (zbP (by repeat (first | (with_reducible first | exact HB.out | apply zbA | apply zbN | apply zb1 | refine zbS ?_ GE429.out | refine zbS ?_ GE430.out | refine zbS ?_ GE431.out) | exact HB.out)) hb); have n4_ := Aside0.mk (hbox); have n5_ := Aside0.mk ((by rw [hg]; exact (zbZ (by repeat (first | (with_reducible first | exact HB.out | apply zbA | apply zbN | apply zb1 | refine zbS ?_ GE429.out | refine zbS ?_ GE430.out | refine zbS ?_ GE431.out) | exact HB.out))) : w.heap.size ≤ gb435)); have n6_ := n5_; have n7_ := Aside0.mk ((by rw [hg]; exact Nat.ne_of_lt (zkL (by (with_reducible repeat (first | refine zkN ?_ _ | refine zk1 ?_ | refine zkA ?_ _)); exact BK429.out)) : gb429 ≠ gb435)); have n8_ := Aside0.mk (Ne.symm n7_.out); have n9_ := Aside0.mk ((by rw [hg]; exact Nat.ne_of_lt (zkL (by (with_reducible repeat (first | refine zkN ?_ _ | refine zk1 ?_ | refine zkA ?_ _)); exact BK430.out)) : gb430 ≠ gb435)); have n10_ := Aside0.mk (Ne.symm n9_.out); have n11_ := Aside0.mk ((by rw [hg]; exact Nat.ne_of_lt (zkL (by (with_reducible repeat (first | refine zkN ?_ _ | refine zk1 ?_ | refine zkA ?_ _)); exact BK431.out)) : gb431 ≠ gb435)); have n12_ := Aside0.mk (Ne.symm n11_.out); clear BK429; clear BK430; clear BK431; clear HB; have BK429 := n0_; have BK430 := n1_; have BK431 := n2_; have HB := n3_; have BK435 := n4_; have GW435 := n5_; have GE435 := n6_; have NB429_435 := n7_; have NB435_429 := n8_; have NB430_435 := n9_; have NB435_430 := n10_; have NB431_435 := n11_; have NB435_431 := n12_; clear n0_ n1_ n2_ n3_ n4_ n5_ n6_ n7_ n8_ n9_ n10_ n11_ n12_; clear hb hbox hg; have hnb30 := NB435_429.out; have hnc30 := NB429_435.out; have hnb31 := NB435_430.out; have hnc31 := NB430_435.out; have hnb32 := NB435_431.out; have hnc32 := NB431_435.out; obtain ⟨hcz33_0, hcz33_1, hfz33_0, hfz33_1⟩ := zc2 BK435.out; obtain ⟨hcz34_0, hcz34_1, hcz34_2, hfz34_0, hfz34_1, hfz34_2⟩ := zc3 BK429.out) | ((with_reducible refine gate_callee (f := 11) rfl ?_); refine goesL_ (some 27) rfl rfl Try.func11 (by kernel_rfl) rfl #[.agg #[.int .u64 a0_0, .int .u64 a0_1], .agg #[.int .u64 t433, .int .u64 t434]] rfl (by (try simp only [List.map_toArray, List.map_cons, List.map_nil]); first | done | rfl | (simp only [List.length_drop, List.length_take]; rfl)) ?_; (with_reducible refine (addr_Add.calls a0_0 a0_1 t433 t434 t436 t437 t438 _ A24.out).mono ?_); rintro e w35 ⟨rfl, hb⟩; refine ⟨_, rfl, ?_⟩; have n0_ := Aside0.mk (zkB (g := gb429) (o := .cells #[.int .u64 a0_0, .int .u64 a0_1, .int .i64 a0_2] 33 (0, 0)) (by (with_reducible repeat (first | refine zkN ?_ _ | refine zk1 ?_ | refine zkA ?_ _)); refine blk_far ?_ NB429_435.out _; (with_reducible repeat (first | refine zkN ?_ _ | refine zk1 ?_ | refine zkA ?_ _)); refine blk_far ?_ NB429_435.out _; (with_reducible repeat (first | refine zkN ?_ _ | refine zk1 ?_ | refine zkA ?_ _)); exact BK429.out) hb); have n1_ := Aside0.mk (zkB (g := gb430) (o := .cells #[.int .u64 0, .int .u64 0, .int .i64 0] 33 (0, 0)) (by (with_reducible repeat (first | refine zkN ?_ _ | refine zk1 ?_ | refine zkA ?_ _)); refine blk_far ?_ NB430_435.out _; (with_reducible repeat (first | refine zkN ?_ _ | refine zk1 ?_ | refine zkA ?_ _)); refine blk_far ?_ NB430_435.out _; (with_reducible repeat (first | refine zkN ?_ _ | refine zk1 ?_ | refine zkA ?_ _)); exact BK430.out) hb); have n2_ := Aside0.mk (zkB (g := gb431) (o := .cells #[.int .u64 0, .int .u64 0, .int .i64 0] 33 (0, 0)) (by (with_reducible repeat (first | refine zkN ?_ _ | refine zk1 ?_ | refine zkA ?_ _)); refine blk_far ?_ NB431_435.out _; (with_reducible repeat (first | refine zkN ?_ _ | refine zk1 ?_ | refine zkA ?_ _)); refine blk_far ?_ NB431_435.out _; (with_reducible repeat (first | refine zkN ?_ _ | refine zk1 ?_ | refine zkA ?_ _)); exact BK431.out) hb); have n3_ := Aside0.mk (zkB (g := gb435) (o := .cells #[.int .u64 t433, .int .u64 t434] 24 (0, 0)) (by (with_reducible repeat (first | refine zkN ?_ _ | refine zk1 ?_ | refine zkA ?_ _)); refine zkP (cs := #[.int .u64 t433, .int .u64 0]) ?_ 1 _ rfl; (with_reducible repeat (first | refine zkN ?_ _ | refine zk1 ?_ | refine zkA ?_ _)); refine zkP (cs := #[.int .u64 0, .int .u64 0]) ?_ 0 _ rfl; (with_reducible repeat (first | refine zkN ?_ _ | refine zk1 ?_ | refine zkA ?_ _)); exact BK435.out) hb); have n4_ := Aside0.mk (zbP (by repeat (first | (with_reducible first | exact HB.out | apply zbA | apply zbN | apply zb1 | refine zbS ?_ GE429.out | refine zbS ?_ GE430.out | refine zbS ?_ GE431.out | refine zbS ?_ GE435.out) | exact HB.out)) hb); clear BK429; clear BK430; clear BK431; clear BK435; clear HB; have BK429 := n0_; have BK430 := n1_; have BK431 := n2_; have BK435 := n3_; have HB := n4_; clear n0_ n1_ n2_ n3_ n4_; (try clear hb); (try clear hb2); (try clear hk); (try clear hi)) | ((with_reducible refine gate_dst (N := 6) rfl ?_); refine box_event ?hg (N := 6) ?hd (cs := #[.int .u64 0, .int .u64 0]) (t := 24) ?hr ?_; (case hd => rfl); (case hg => rfl); (case hr => first | (go_simp; done) | (go_simp; rfl)); intro gb439 hg w36 hbox hb; have n0_ := Aside0.mk (zkB (by (with_reducible repeat (first | refine zkN ?_ _ | refine zk1 ?_ | refine zkA ?_ _)); exact BK429.out) hb); have n1_ := Aside0.mk (zkB (by (with_reducible repeat (first | refine zkN ?_ _ | refine zk1 ?_ | refine zkA ?_ _)); exact BK430.out) hb); have n2_ := Aside0.mk (zkB (by (with_reducible repeat (first | refine zkN ?_ _ | refine zk1 ?_ | refine zkA ?_ _)); exact BK431.out) hb); have n3_ := Aside0.mk (zkB (by (with_reducible repeat (first | refine zkN ?_ _ | refine zk1 ?_ | refine zkA ?_ _)); exact BK435.out) hb); have n4_ := Aside0.mk (zbP (by repeat (first | (with_reducible first | exact HB.out | apply zbA | apply zbN | apply zb1 | refine zbS ?_ GE429.out | refine zbS ?_ GE430.out | refine zbS ?_ GE431.out | refine zbS ?_ GE435.out) | exact HB.out)) hb); have n5_ := Aside0.mk (hbox); have n6_ := Aside0.mk ((by rw [hg]; exact (zbZ (by repeat (first | (with_reducible first | exact HB.out | apply zbA | apply zbN | apply zb1 | refine zbS ?_ GE429.out | refine zbS ?_ GE430.out | refine zbS ?_ GE431.out | refine zbS ?_ GE435.out) | exact HB.out))) : w.heap.size ≤ gb439)); have n7_ := n6_; have n8_ := Aside0.mk ((by rw [hg]; exact Nat.ne_of_lt (zkL (by (with_reducible repeat (first | refine zkN ?_ _ | refine zk1 ?_ | refine zkA ?_ _)); exact BK429.out)) : gb429 ≠ gb439)); have n9_ := Aside0.mk (Ne.symm n8_.out); have n10_ := Aside0.mk ((by rw [hg]; exact Nat.ne_of_lt (zkL (by (with_reducible repeat (first | refine zkN ?_ _ | refine zk1 ?_ | refine zkA ?_ _)); exact BK430.out)) : gb430 ≠ gb439)); have n11_ := Aside0.mk (Ne.symm n10_.out); have n12_ := Aside0.mk ((by rw [hg]; exact Nat.ne_of_lt (zkL (by (with_reducible repeat (first | refine zkN ?_ _ | refine zk1 ?_ | refine zkA ?_ _)); exact BK431.out)) : gb431 ≠ gb439)); have n13_ := Aside0.mk (Ne.symm n12_.out); have n14_ := Aside0.mk ((by rw [hg]; exact Nat.ne_of_lt (zkL (by (with_reducible repeat (first | refine zkN ?_ _ | refine zk1 ?_ | refine zkA ?_ _)); exact BK435.out)) : gb435 ≠ gb439)); have n15_ := Aside0.mk (Ne.symm n14_.out); clear BK429; clear BK430; clear BK431; clear BK435; clear HB; have BK429 := n0_; have BK430 := n1_; have BK431 := n2_; have BK435 := n3_; have HB := n4_; have BK439 := n5_; have GW439 := n6_; have GE439 := n7_; have NB429_439 := n8_; have NB439_429 := n9_; have NB430_439 := n10_; have NB439_430 := n11_; have NB431_439 := n12_; have NB439_431 := n13_; have NB435_439 := n14_; have NB439_435 := n15_; clear n0_ n1_ n2_ n3_ n4_ n5_ n6_ n7_ n8_ n9_ n10_ n11_ n12_ n13_ n14_ n15_; clear hb hbox hg; have hnb37 := NB439_429.out; have hnc37 := NB429_439.out; have hnb38 := NB439_430.out; have hnc38 := NB430_439.out; have hnb39 := NB439_431.out; have hnc39 := NB431_439.out; have hnb40 := NB439_435.out; have hnc40 := NB435_439.out; obtain ⟨hcz41_0, hcz41_1, hfz41_0, hfz41_1⟩ := zc2 BK439.out))
    have n0_ : Aside0 (((w36.setCell ⟨gb439, 0, none⟩ (.int .u64 t436)).setCell ⟨gb439, 1, none⟩ (.int .u64 t437)).heap[gb429]? = some (.cells #[.int .u64 a0_0, .int .u64 a0_1, .int .i64 a0_2] 33 (0, 0))) := ⟨by (with_reducible repeat (first | refine zkN ?_ _ | refine zk1 ?_ | refine zkA ?_ _)); refine blk_far ?_ NB429_439.out _; (with_reducible repeat (first | refine zkN ?_ _ | refine zk1 ?_ | refine zkA ?_ _)); refine blk_far ?_ NB429_439.out _; (with_reducible repeat (first | refine zkN ?_ _ | refine zk1 ?_ | refine zkA ?_ _)); exact BK429.out⟩
    have n1_ : Aside0 (((w36.setCell ⟨gb439, 0, none⟩ (.int .u64 t436)).setCell ⟨gb439, 1, none⟩ (.int .u64 t437)).heap[gb430]? = some (.cells #[.int .u64 0, .int .u64 0, .int .i64 0] 33 (0, 0))) := ⟨by (with_reducible repeat (first | refine zkN ?_ _ | refine zk1 ?_ | refine zkA ?_ _)); refine blk_far ?_ NB430_439.out _; (with_reducible repeat (first | refine zkN ?_ _ | refine zk1 ?_ | refine zkA ?_ _)); refine blk_far ?_ NB430_439.out _; (with_reducible repeat (first | refine zkN ?_ _ | refine zk1 ?_ | refine zkA ?_ _)); exact BK430.out⟩
    have n2_ : Aside0 (((w36.setCell ⟨gb439, 0, none⟩ (.int .u64 t436)).setCell ⟨gb439, 1, none⟩ (.int .u64 t437)).heap[gb431]? = some (.cells #[.int .u64 0, .int .u64 0, .int .i64 0] 33 (0, 0))) := ⟨by (with_reducible repeat (first | refine zkN ?_ _ | refine zk1 ?_ | refine zkA ?_ _)); refine blk_far ?_ NB431_439.out _; (with_reducible repeat (first | refine zkN ?_ _ | refine zk1 ?_ | refine zkA ?_ _)); refine blk_far ?_ NB431_439.out _; (with_reducible repeat (first | refine zkN ?_ _ | refine zk1 ?_ | refine zkA ?_ _)); exact BK431.out⟩
    have n3_ : Aside0 (((w36.setCell ⟨gb439, 0, none⟩ (.int .u64 t436)).setCell ⟨gb439, 1, none⟩ (.int .u64 t437)).heap[gb435]? = some (.cells #[.int .u64 t433, .int .u64 t434] 24 (0, 0))) := ⟨by (with_reducible repeat (first | refine zkN ?_ _ | refine zk1 ?_ | refine zkA ?_ _)); refine blk_far ?_ NB435_439.out _; (with_reducible repeat (first | refine zkN ?_ _ | refine zk1 ?_ | refine zkA ?_ _)); refine blk_far ?_ NB435_439.out _; (with_reducible repeat (first | refine zkN ?_ _ | refine zk1 ?_ | refine zkA ?_ _)); exact BK435.out⟩
    have n4_ : Aside0 (((w36.setCell ⟨gb439, 0, none⟩ (.int .u64 t436)).setCell ⟨gb439, 1, none⟩ (.int .u64 t437)).heap[gb439]? = some (.cells #[.int .u64 t436, .int .u64 t437] 24 (0, 0))) := ⟨by (with_reducible repeat (first | refine zkN ?_ _ | refine zk1 ?_ | refine zkA ?_ _)); refine zkP (cs := #[.int .u64 t436, .int .u64 0]) ?_ 1 _ rfl; (with_reducible repeat (first | refine zkN ?_ _ | refine zk1 ?_ | refine zkA ?_ _)); refine zkP (cs := #[.int .u64 0, .int .u64 0]) ?_ 0 _ rfl; (with_reducible repeat (first | refine zkN ?_ _ | refine zk1 ?_ | refine zkA ?_ _)); exact BK439.out⟩
    have n5_ : Aside0 (Below w.heap.size w ((w36.setCell ⟨gb439, 0, none⟩ (.int .u64 t436)).setCell ⟨gb439, 1, none⟩ (.int .u64 t437))) := ⟨by repeat (first | (with_reducible first | exact HB.out | apply zbA | apply zbN | apply zb1 | refine zbS ?_ GE429.out | refine zbS ?_ GE430.out | refine zbS ?_ GE431.out | refine zbS ?_ GE435.out | refine zbS ?_ GE439.out) | exact HB.out)⟩
    (try clear BK429)
    (try clear BK430)
    (try clear BK431)
    (try clear BK435)
    (try clear BK439)
    (try clear HB)
    generalize ((w36.setCell ⟨gb439, 0, none⟩ (.int .u64 t436)).setCell ⟨gb439, 1, none⟩ (.int .u64 t437)) = w42 at n0_ n1_ n2_ n3_ n4_ n5_ ⊢
    have BK429 := n0_
    have BK430 := n1_
    have BK431 := n2_
    have BK435 := n3_
    have BK439 := n4_
    have HB := n5_
    clear n0_ n1_ n2_ n3_ n4_ n5_
    have n0_ := Aside0.mk (zk1 BK429.out)
    have n1_ := Aside0.mk (zk1 BK430.out)
    have n2_ := Aside0.mk (zk1 BK431.out)
    have n3_ := Aside0.mk (zk1 BK435.out)
    have n4_ := Aside0.mk (zk1 BK439.out)
    have n5_ := Aside0.mk (zb1 HB.out)
    clear BK429
    clear BK430
    clear BK431
    clear BK435
    clear BK439
    clear HB
    have BK429 := n0_
    have BK430 := n1_
    have BK431 := n2_
    have BK435 := n3_
    have BK439 := n4_
    have HB := n5_
    clear n0_ n1_ n2_ n3_ n4_ n5_
    refine start_ (n := 14) (S := fun w' => w'.cell? ⟨gb429, 0, none⟩ = some (.int .u64 a0_0) ∧ w'.cell? ⟨gb429, 1, none⟩ = some (.int .u64 a0_1) ∧ w'.cell? ⟨gb429, 2, none⟩ = some (.int .i64 a0_2) ∧ w'.cell? ⟨gb439, 0, none⟩ = some (.int .u64 t436) ∧ w'.cell? ⟨gb439, 1, none⟩ = some (.int .u64 t437)) (ds := []) #[false, false, false, false, false, false, false, false, false, false, false, false, false, false] (by kernel_rfl) rfl rfl ⟨(zkC BK429.out 0).trans rfl, (zkC BK429.out 1).trans rfl, (zkC BK429.out 2).trans rfl, (zkC BK439.out 0).trans rfl, (zkC BK439.out 1).trans rfl⟩ (fun hHeld => ?_); refine with_tabW addr_Halves.tab5 addr_Halves.bits5 (fun HT_ HW_ => ?_)
    generalize w42.drew = w43 at BK429 BK430 BK431 BK435 BK439 HB hHeld ⊢
    refine pure_ (i := 0) (N := some 30) (v := ?_) (a' := ?_) #[true, false, false, false, false, false, false, false, false, false, false, false, false, false] rfl rfl (any_of HT_.out (by kernel_rfl)) (fun _ _ _ h => h) (Or.inl ⟨by rfl, ?_⟩) ?_ ?_
    rotate_left
    ·intro w'
     go_simp
     with_reducible rfl
    rotate_left
    ·simp only [Act.put, List.setIfInBounds_toArray, List.set_cons_zero, List.set_cons_succ, i64_w, i32_w]
     rfl
    refine pure_ (i := 2) (N := some 32) (v := ?_) (a' := ?_) #[true, false, true, false, false, false, false, false, false, false, false, false, false, false] rfl rfl (any_of HT_.out (by kernel_rfl)) (fun _ _ _ h => h) (Or.inl ⟨by rfl, ?_⟩) ?_ ?_
    rotate_left
    ·intro w'
     go_simp
     with_reducible rfl
    rotate_left
    ·simp only [Act.put, List.setIfInBounds_toArray, List.set_cons_zero, List.set_cons_succ, i64_w, i32_w]
     rfl
    refine pure_ (i := 7) (N := some 37) (v := ?_) (a' := ?_) #[true, false, true, false, false, false, false, true, false, false, false, false, false, false] rfl rfl (any_of HT_.out (by kernel_rfl)) (fun _ _ _ h => h) (Or.inl ⟨by rfl, ?_⟩) ?_ ?_
    rotate_left
    ·intro w'
     go_simp
     with_reducible rfl
    rotate_left
    ·simp only [Act.put, List.setIfInBounds_toArray, List.set_cons_zero, List.set_cons_succ, i64_w, i32_w]
     rfl
    refine take_ (i := 1) (N := some 31) (v := ?_) (a' := ?_) #[true, true, true, false, false, false, false, true, false, false, false, false, false, false] rfl rfl (take_ofW HT_.out HW_.out (by kernel_rfl)) (fun _ _ _ h => h) (Or.inl ⟨by rfl, ?_⟩) hHeld ?_ ?_
    rotate_left
    ·rintro w' ⟨s0, s1, s2, s3, s4⟩
     go_simp
     with_reducible rfl
    rotate_left
    ·simp only [Act.put, List.setIfInBounds_toArray, List.set_cons_zero, List.set_cons_succ, i64_w, i32_w]
     rfl
    refine take_ (i := 3) (N := some 33) (v := ?_) (a' := ?_) #[true, true, true, true, false, false, false, true, false, false, false, false, false, false] rfl rfl (take_ofW HT_.out HW_.out (by kernel_rfl)) (fun _ _ _ h => h) (Or.inl ⟨by rfl, ?_⟩) hHeld ?_ ?_
    rotate_left
    ·rintro w' ⟨s0, s1, s2, s3, s4⟩
     go_simp
     with_reducible rfl
    rotate_left
    ·simp only [Act.put, List.setIfInBounds_toArray, List.set_cons_zero, List.set_cons_succ, i64_w, i32_w]
     rfl
    refine pure_ (i := 4) (N := some 34) (v := ?_) (a' := ?_) #[true, true, true, true, true, false, false, true, false, false, false, false, false, false] rfl rfl (any_of HT_.out (by kernel_rfl)) (fun _ _ _ h => h) (Or.inl ⟨by rfl, ?_⟩) ?_ ?_
    rotate_left
    ·intro w'
     go_simp
     with_reducible rfl
    rotate_left
    ·simp only [Act.put, List.setIfInBounds_toArray, List.set_cons_zero, List.set_cons_succ, i64_w, i32_w]
     rfl
    refine pure_ (i := 5) (N := some 35) (v := ?_) (a' := ?_) #[true, true, true, true, true, true, false, true, false, false, false, false, false, false] rfl rfl (any_of HT_.out (by kernel_rfl)) (fun _ _ _ h => h) (Or.inl ⟨by rfl, ?_⟩) ?_ ?_
    rotate_left
    ·intro w'
     go_simp
     with_reducible rfl
    rotate_left
    ·simp only [Act.put, List.setIfInBounds_toArray, List.set_cons_zero, List.set_cons_succ, i64_w, i32_w]
     rfl
    refine take_ (i := 6) (N := some 36) (v := ?_) (a' := ?_) #[true, true, true, true, true, true, true, true, false, false, false, false, false, false] rfl rfl (take_ofW HT_.out HW_.out (by kernel_rfl)) (fun _ _ _ h => h) (Or.inl ⟨by rfl, ?_⟩) hHeld ?_ ?_
    rotate_left
    ·rintro w' ⟨s0, s1, s2, s3, s4⟩
     go_simp
     with_reducible rfl
    rotate_left
    ·simp only [Act.put, List.setIfInBounds_toArray, List.set_cons_zero, List.set_cons_succ, i64_w, i32_w]
     rfl
    refine take_ (i := 8) (N := some 38) (v := ?_) (a' := ?_) #[true, true, true, true, true, true, true, true, true, false, false, false, false, false] rfl rfl (take_ofW HT_.out HW_.out (by kernel_rfl)) (fun _ _ _ h => h) (Or.inl ⟨by rfl, ?_⟩) hHeld ?_ ?_
    rotate_left
    ·rintro w' ⟨s0, s1, s2, s3, s4⟩
     go_simp
     with_reducible rfl
    rotate_left
    ·simp only [Act.put, List.setIfInBounds_toArray, List.set_cons_zero, List.set_cons_succ, i64_w, i32_w]
     rfl
    refine pure_ (i := 9) (N := some 39) (v := ?_) (a' := ?_) #[true, true, true, true, true, true, true, true, true, true, false, false, false, false] rfl rfl (any_of HT_.out (by kernel_rfl)) (fun _ _ _ h => h) (Or.inl ⟨by rfl, ?_⟩) ?_ ?_
    rotate_left
    ·intro w'
     go_simp
     with_reducible rfl
    rotate_left
    ·simp only [Act.put, List.setIfInBounds_toArray, List.set_cons_zero, List.set_cons_succ, i64_w, i32_w]
     rfl
    refine pure_ (i := 10) (N := some 40) (v := ?_) (a' := ?_) #[true, true, true, true, true, true, true, true, true, true, true, false, false, false] rfl rfl (any_of HT_.out (by kernel_rfl)) (fun _ _ _ h => h) (Or.inl ⟨by rfl, ?_⟩) ?_ ?_
    rotate_left
    ·intro w'
     go_simp
     with_reducible rfl
    rotate_left
    ·simp only [Act.put, List.setIfInBounds_toArray, List.set_cons_zero, List.set_cons_succ, i64_w, i32_w]
     rfl
    refine one_ (i := 11) (N := none) #[true, true, true, true, true, true, true, true, true, true, true, true, false, false] rfl rfl (one_of HT_.out (by kernel_rfl)) (by decide) (fun K hK => ?_)
    have hs44 : w43.cell? ⟨gb430, 0, none⟩ = some (.int .u64 0) := (zkC BK430.out 0).trans rfl
    have hfs44 := zkF BK430.out 0
    have hns44_0 := NB429_430.out
    have hns44_2 := NB431_430.out
    have hns44_3 := NB435_430.out
    have hns44_4 := NB439_430.out
    have hms44_0 := NB430_429.out
    have hms44_2 := NB430_431.out
    have hms44_3 := NB430_435.out
    have hms44_4 := NB430_439.out
    have hs45 : w43.cell? ⟨gb430, 1, none⟩ = some (.int .u64 0) := (zkC BK430.out 1).trans rfl
    have hfs45 := zkF BK430.out 1
    have hns45_0 := NB429_430.out
    have hns45_2 := NB431_430.out
    have hns45_3 := NB435_430.out
    have hns45_4 := NB439_430.out
    have hms45_0 := NB430_429.out
    have hms45_2 := NB430_431.out
    have hms45_3 := NB430_435.out
    have hms45_4 := NB430_439.out
    have hs46 : w43.cell? ⟨gb430, 2, none⟩ = some (.int .i64 0) := (zkC BK430.out 2).trans rfl
    have hfs46 := zkF BK430.out 2
    have hns46_0 := NB429_430.out
    have hns46_2 := NB431_430.out
    have hns46_3 := NB435_430.out
    have hns46_4 := NB439_430.out
    have hms46_0 := NB430_429.out
    have hms46_2 := NB430_431.out
    have hms46_3 := NB430_435.out
    have hms46_4 := NB430_439.out
    refine skip_ (w1 := ?_) (by rfl) rfl ?_ ?_
    rotate_left
    ·go_simp
     rfl
    refine hK.out _ _ ⟨((cell_far (p := ⟨gb430, _, none⟩) NB429_430.out _).trans (((cell_far (p := ⟨gb430, _, none⟩) NB429_430.out _).trans (((cell_far (p := ⟨gb430, _, none⟩) NB429_430.out _).trans (hHeld.1)))))), ((cell_far (p := ⟨gb430, _, none⟩) NB429_430.out _).trans (((cell_far (p := ⟨gb430, _, none⟩) NB429_430.out _).trans (((cell_far (p := ⟨gb430, _, none⟩) NB429_430.out _).trans (hHeld.2.1)))))), ((cell_far (p := ⟨gb430, _, none⟩) NB429_430.out _).trans (((cell_far (p := ⟨gb430, _, none⟩) NB429_430.out _).trans (((cell_far (p := ⟨gb430, _, none⟩) NB429_430.out _).trans (hHeld.2.2.1)))))), ((cell_far (p := ⟨gb430, _, none⟩) NB439_430.out _).trans (((cell_far (p := ⟨gb430, _, none⟩) NB439_430.out _).trans (((cell_far (p := ⟨gb430, _, none⟩) NB439_430.out _).trans (hHeld.2.2.2.1)))))), ((cell_far (p := ⟨gb430, _, none⟩) NB439_430.out _).trans (((cell_far (p := ⟨gb430, _, none⟩) NB439_430.out _).trans (((cell_far (p := ⟨gb430, _, none⟩) NB439_430.out _).trans (hHeld.2.2.2.2))))))⟩ (fun hHeld => ?_)
    clear hK K
    refine one_ (i := 12) (N := none) #[true, true, true, true, true, true, true, true, true, true, true, true, true, false] rfl rfl (one_of HT_.out (by kernel_rfl)) (by decide) (fun K hK => ?_)
    have hs47 : w43.cell? ⟨gb431, 0, none⟩ = some (.int .u64 0) := (zkC BK431.out 0).trans rfl
    have hfs47 := zkF BK431.out 0
    have hns47_0 := NB429_431.out
    have hns47_1 := NB430_431.out
    have hns47_3 := NB435_431.out
    have hns47_4 := NB439_431.out
    have hms47_0 := NB431_429.out
    have hms47_1 := NB431_430.out
    have hms47_3 := NB431_435.out
    have hms47_4 := NB431_439.out
    have hs48 : w43.cell? ⟨gb431, 1, none⟩ = some (.int .u64 0) := (zkC BK431.out 1).trans rfl
    have hfs48 := zkF BK431.out 1
    have hns48_0 := NB429_431.out
    have hns48_1 := NB430_431.out
    have hns48_3 := NB435_431.out
    have hns48_4 := NB439_431.out
    have hms48_0 := NB431_429.out
    have hms48_1 := NB431_430.out
    have hms48_3 := NB431_435.out
    have hms48_4 := NB431_439.out
    have hs49 : w43.cell? ⟨gb431, 2, none⟩ = some (.int .i64 0) := (zkC BK431.out 2).trans rfl
    have hfs49 := zkF BK431.out 2
    have hns49_0 := NB429_431.out
    have hns49_1 := NB430_431.out
    have hns49_3 := NB435_431.out
    have hns49_4 := NB439_431.out
    have hms49_0 := NB431_429.out
    have hms49_1 := NB431_430.out
    have hms49_3 := NB431_435.out
    have hms49_4 := NB431_439.out
    refine skip_ (w1 := ?_) (by rfl) rfl ?_ ?_
    rotate_left
    ·go_simp
     rfl
    refine hK.out _ _ ⟨((cell_far (p := ⟨gb431, _, none⟩) NB429_431.out _).trans (((cell_far (p := ⟨gb431, _, none⟩) NB429_431.out _).trans (((cell_far (p := ⟨gb431, _, none⟩) NB429_431.out _).trans (hHeld.1)))))), ((cell_far (p := ⟨gb431, _, none⟩) NB429_431.out _).trans (((cell_far (p := ⟨gb431, _, none⟩) NB429_431.out _).trans (((cell_far (p := ⟨gb431, _, none⟩) NB429_431.out _).trans (hHeld.2.1)))))), ((cell_far (p := ⟨gb431, _, none⟩) NB429_431.out _).trans (((cell_far (p := ⟨gb431, _, none⟩) NB429_431.out _).trans (((cell_far (p := ⟨gb431, _, none⟩) NB429_431.out _).trans (hHeld.2.2.1)))))), ((cell_far (p := ⟨gb431, _, none⟩) NB439_431.out _).trans (((cell_far (p := ⟨gb431, _, none⟩) NB439_431.out _).trans (((cell_far (p := ⟨gb431, _, none⟩) NB439_431.out _).trans (hHeld.2.2.2.1)))))), ((cell_far (p := ⟨gb431, _, none⟩) NB439_431.out _).trans (((cell_far (p := ⟨gb431, _, none⟩) NB439_431.out _).trans (((cell_far (p := ⟨gb431, _, none⟩) NB439_431.out _).trans (hHeld.2.2.2.2))))))⟩ (fun hHeld => ?_)
    clear hK K
    refine pure_ (i := 13) (N := some 4) (v := ?_) (a' := ?_) #[true, true, true, true, true, true, true, true, true, true, true, true, true, true] rfl rfl (any_of HT_.out (by kernel_rfl)) (fun _ _ _ h => h) (Or.inl ⟨by rfl, ?_⟩) ?_ ?_
    rotate_left
    ·intro w'
     go_simp
     with_reducible rfl
    rotate_left
    ·simp only [Act.put, List.setIfInBounds_toArray, List.set_cons_zero, List.set_cons_succ, i64_w, i32_w]
     rfl
    refine done_ (done_of HT_.out (by kernel_rfl)) ?_
    try go_wp2
    refine bodyPost_ret (results_list (rs := [.cell 2 33, .cell 3 33, .tmp 4]) rfl (by simp) (.cell gb430 33 #[.int .u64 a0_0, .int .u64 a0_1, .int .i64 (wrap64 (a0_2 + 1))] (0, 0) _ rfl (by (with_reducible repeat (first | refine zkN ?_ _ | refine zk1 ?_ | refine zkA ?_ _)); refine blk_far ?_ NB430_431.out _; (with_reducible repeat (first | refine zkN ?_ _ | refine zk1 ?_ | refine zkA ?_ _)); refine blk_far ?_ NB430_431.out _; (with_reducible repeat (first | refine zkN ?_ _ | refine zk1 ?_ | refine zkA ?_ _)); refine blk_far ?_ NB430_431.out _; (with_reducible repeat (first | refine zkN ?_ _ | refine zk1 ?_ | refine zkA ?_ _)); refine zkP (cs := #[.int .u64 a0_0, .int .u64 a0_1, .int .i64 0]) ?_ 2 _ rfl; (with_reducible repeat (first | refine zkN ?_ _ | refine zk1 ?_ | refine zkA ?_ _)); refine zkP (cs := #[.int .u64 a0_0, .int .u64 0, .int .i64 0]) ?_ 1 _ rfl; (with_reducible repeat (first | refine zkN ?_ _ | refine zk1 ?_ | refine zkA ?_ _)); refine zkP (cs := #[.int .u64 0, .int .u64 0, .int .i64 0]) ?_ 0 _ rfl; (with_reducible repeat (first | refine zkN ?_ _ | refine zk1 ?_ | refine zkA ?_ _)); exact BK430.out) Try.underlying33 rfl (by kernel_rfl) (.cell gb431 33 #[.int .u64 t436, .int .u64 t437, .int .i64 (wrap64 (a0_2 + 1))] (0, 0) _ rfl (by (with_reducible repeat (first | refine zkN ?_ _ | refine zk1 ?_ | refine zkA ?_ _)); refine zkP (cs := #[.int .u64 t436, .int .u64 t437, .int .i64 0]) ?_ 2 _ rfl; (with_reducible repeat (first | refine zkN ?_ _ | refine zk1 ?_ | refine zkA ?_ _)); refine zkP (cs := #[.int .u64 t436, .int .u64 0, .int .i64 0]) ?_ 1 _ rfl; (with_reducible repeat (first | refine zkN ?_ _ | refine zk1 ?_ | refine zkA ?_ _)); refine zkP (cs := #[.int .u64 0, .int .u64 0, .int .i64 0]) ?_ 0 _ rfl; (with_reducible repeat (first | refine zkN ?_ _ | refine zk1 ?_ | refine zkA ?_ _)); refine blk_far ?_ NB431_430.out _; (with_reducible repeat (first | refine zkN ?_ _ | refine zk1 ?_ | refine zkA ?_ _)); refine blk_far ?_ NB431_430.out _; (with_reducible repeat (first | refine zkN ?_ _ | refine zk1 ?_ | refine zkA ?_ _)); refine blk_far ?_ NB431_430.out _; (with_reducible repeat (first | refine zkN ?_ _ | refine zk1 ?_ | refine zkA ?_ _)); exact BK431.out) Try.underlying33 rfl (by kernel_rfl) (.tmp .nil)))) rfl ?_
    exact ⟨by first | rfl | (simp [errW_none, errW_some] <;> rfl) | (simp [*, errW_none, errW_some] <;> rfl), by repeat (first | (with_reducible first | exact HB.out | apply zbA | apply zbN | apply zb1 | refine zbS ?_ GE429.out | refine zbS ?_ GE430.out | refine zbS ?_ GE431.out | refine zbS ?_ GE435.out | refine zbS ?_ GE439.out) | exact HB.out)⟩

end Go.Proofs.Ytpllddgbfhnghaa.P
