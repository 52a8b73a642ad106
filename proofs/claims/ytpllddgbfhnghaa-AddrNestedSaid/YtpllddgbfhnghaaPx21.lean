-- Written by pp.py, a program of this session, out of the translation.
import Derived.Test.YtpllddgbfhnghaaPx0
import Derived.Test.YtpllddgbfhnghaaPx17
namespace Go.Proofs.Ytpllddgbfhnghaa.P
open Go.RowKit Go.Proofs.YtpllddgbfhnghaaW.PrintWords Go.Proofs.YtpllddgbfhnghaaW.PrintLast Go.Proofs.YtpllddgbfhnghaaW.PrintMore
attribute [local go_sem] max2_int min2_int max_two min_two max_three min_three max_four min_four   -- for this text's walks alone
set_option linter.unusedVariables false
set_option linter.unusedSimpArgs false

/-! ### tenancyref01_Up: function 28 -/
mutual
def tenancyref01_Up.l0 : Nat → Int → Int → Int → Int → Int → Int → Option (Int × Int)
 | 0, _, _, _, _, _, _ => none
 | k + 1, x1, x6, x337000, x337001, x339000, x339001 => if x6 < 128 then (if x1 < 128 then (tenancyref01_Up.j1 k x1 x6 (decide ((wrap64 (x6 + x1)) < 128)) x337000 x337001 x339000 x339001) else (tenancyref01_Up.j1 k x1 x6 false x337000 x337001 x339000 x339001)) else (tenancyref01_Up.j1 k x1 x6 false x337000 x337001 x339000 x339001)
def tenancyref01_Up.j1 : Nat → Int → Int → Bool → Int → Int → Int → Int → Option (Int × Int)
 | 0, _, _, _, _, _, _, _ => none
 | k + 1, x1, x6, x22, x337000, x337001, x339000, x339001 => if x22 = true then ((tenancyref01_bit.f x337000 x337001 (wrap64 (x6 + x1))).bind fun t339 => (if t339 = 1 then ((tenancyref01_with.f x339000 x339001 x6).bind fun bt340 => (tenancyref01_Up.l0 k x1 (wrap64 (x6 + 1)) x337000 x337001 bt340.1 bt340.2)) else (tenancyref01_Up.l0 k x1 (wrap64 (x6 + 1)) x337000 x337001 x339000 x339001))) else (some (x339000, x339001))
end
def tenancyref01_Up.f (k : Nat) (a0_0 : Int) (a0_1 : Int) (a1 : Int) : Option (Int × Int) := if a1 < 0 then (some (a0_0, a0_1)) else (tenancyref01_Up.l0 k a1 0 a0_0 a0_1 0 0)
theorem tenancyref01_Up.mono_l : ∀ k, (∀ y0 y1 y2 y3 y4 y5, LeO (tenancyref01_Up.l0 k y0 y1 y2 y3 y4 y5) (tenancyref01_Up.l0 (k + 1) y0 y1 y2 y3 y4 y5)) ∧ (∀ y0 y1 y2 y3 y4 y5 y6, LeO (tenancyref01_Up.j1 k y0 y1 y2 y3 y4 y5 y6) (tenancyref01_Up.j1 (k + 1) y0 y1 y2 y3 y4 y5 y6))
 | 0 => ⟨fun _ _ _ _ _ _ r h => by simp [tenancyref01_Up.l0] at h, fun _ _ _ _ _ _ _ r h => by simp [tenancyref01_Up.j1] at h⟩
 | k + 1 => by
  obtain ⟨ih0, ih1⟩ := tenancyref01_Up.mono_l k
  refine ⟨?_, ?_⟩
  ·intro y0 y1 y2 y3 y4 y5
   unfold tenancyref01_Up.l0
   repeat' first
   | (with_reducible exact ih0 _ _ _ _ _ _)
   | (with_reducible exact ih1 _ _ _ _ _ _ _)
   | (with_reducible exact LeO.refl _)
   | (with_reducible exact LeO.none _)
   | (with_reducible refine LeO.ite ?_ ?_)
   | (with_reducible refine LeO.bind ?_ (fun _ => ?_))
   | exact ih0 _ _ _ _ _ _
   | exact ih1 _ _ _ _ _ _ _
   | exact LeO.none _
   | refine LeO.ite ?_ ?_
   | refine LeO.bind ?_ (fun _ => ?_)
  ·intro y0 y1 y2 y3 y4 y5 y6
   unfold tenancyref01_Up.j1
   repeat' first
   | (with_reducible exact ih0 _ _ _ _ _ _)
   | (with_reducible exact ih1 _ _ _ _ _ _ _)
   | (with_reducible exact LeO.refl _)
   | (with_reducible exact LeO.none _)
   | (with_reducible refine LeO.ite ?_ ?_)
   | (with_reducible refine LeO.bind ?_ (fun _ => ?_))
   | exact ih0 _ _ _ _ _ _
   | exact ih1 _ _ _ _ _ _ _
   | exact LeO.none _
   | refine LeO.ite ?_ ?_
   | refine LeO.bind ?_ (fun _ => ?_)
theorem tenancyref01_Up.mono : ∀ a0 a1 a2 k, LeO (tenancyref01_Up.f k a0 a1 a2) (tenancyref01_Up.f (k + 1) a0 a1 a2) := by
 intro a0 a1 a2 k
 obtain ⟨ih0, ih1⟩ := tenancyref01_Up.mono_l k
 unfold tenancyref01_Up.f
 repeat' first
   | (with_reducible exact ih0 _ _ _ _ _ _)
   | (with_reducible exact ih1 _ _ _ _ _ _ _)
   | (with_reducible exact LeO.refl _)
   | (with_reducible exact LeO.none _)
   | (with_reducible refine LeO.ite ?_ ?_)
   | (with_reducible refine LeO.bind ?_ (fun _ => ?_))
   | exact ih0 _ _ _ _ _ _
   | exact ih1 _ _ _ _ _ _ _
   | exact LeO.none _
   | refine LeO.ite ?_ ?_
   | refine LeO.bind ?_ (fun _ => ?_)
set_option maxHeartbeats 8000000 in
set_option maxRecDepth 100000 in
theorem tenancyref01_Up.calls (k : Nat) (a0_0 : Int) (a0_1 : Int) (a1 : Int) (r1 : Int) (r2 : Int) (w : World) (h : tenancyref01_Up.f k a0_0 a0_1 a1 = some (r1, r2)) :
  Calls Try.prog 28 #[.agg #[.int .u64 a0_0, .int .u64 a0_1], .int .i64 a1] w fun e w' => e = .returned (.agg #[.int .u64 r1, .int .u64 r2]) ∧ Below w.heap.size w w' := by
 have hu24 := Try.underlying24
 have HB := Aside0.mk (Below.refl w.heap.size w)
 have H : (if a1 < 0 then (some (a0_0, a0_1)) else (tenancyref01_Up.l0 k a1 0 a0_0 a0_1 0 0)) = some (r1, r2) := h
 clear h
 by_cases c3 : a1 < 0
 ·rw [if_pos c3] at H
  have c3b0 : decide (a1 < 0) = true := decide_eq_true c3
  clear c3
  simp only [Option.some.injEq, Prod.mk.injEq] at H
  obtain ⟨rfl, rfl⟩ := H
  go_enter Try.func28, Try.ntmps28
  go_wp2_with (first | ((with_reducible refine gate_dst (N := 2) rfl ?_); refine box_event ?hg (N := 2) ?hd (cs := #[.int .u64 a0_0, .int .u64 a0_1]) (t := 24) ?hr ?_; (case hd => rfl); (case hg => rfl); (case hr => first | (go_simp; done) | (go_simp; rfl)); intro gb336 hg w4 hbox hb; have n0_ := Aside0.mk (zbP (by repeat (first | (with_reducible first | exact HB.out | apply zbA | apply zbN | apply zb1) | exact HB.out)) hb); have n1_ := Aside0.mk (hbox); have n2_ := Aside0.mk ((by rw [hg]; exact (zbZ (by repeat (first | (with_reducible first | exact HB.out | apply zbA | apply zbN | apply zb1) | exact HB.out))) : w.heap.size ≤ gb336)); have n3_ := n2_; clear HB; have HB := n0_; have BK336 := n1_; have GW336 := n2_; have GE336 := n3_; clear n0_ n1_ n2_ n3_; clear hb hbox hg) | ((with_reducible refine gate_dst (N := 4) rfl ?_); refine box_event ?hg (N := 4) ?hd (cs := #[.int .u64 0, .int .u64 0]) (t := 24) ?hr ?_; (case hd => rfl); (case hg => rfl); (case hr => first | (go_simp; done) | (go_simp; rfl)); intro gb337 hg w5 hbox hb; have n0_ := Aside0.mk (zkB (by (with_reducible repeat (first | refine zkN ?_ _ | refine zk1 ?_ | refine zkA ?_ _)); exact BK336.out) hb); have n1_ := Aside0.mk (zbP (by repeat (first | (with_reducible first | exact HB.out | apply zbA | apply zbN | apply zb1 | refine zbS ?_ GE336.out) | exact HB.out)) hb); have n2_ := Aside0.mk (hbox); have n3_ := Aside0.mk ((by rw [hg]; exact (zbZ (by repeat (first | (with_reducible first | exact HB.out | apply zbA | apply zbN | apply zb1 | refine zbS ?_ GE336.out) | exact HB.out))) : w.heap.size ≤ gb337)); have n4_ := n3_; have n5_ := Aside0.mk ((by rw [hg]; exact Nat.ne_of_lt (zkL (by (with_reducible repeat (first | refine zkN ?_ _ | refine zk1 ?_ | refine zkA ?_ _)); exact BK336.out)) : gb336 ≠ gb337)); have n6_ := Aside0.mk (Ne.symm n5_.out); clear BK336; clear HB; have BK336 := n0_; have HB := n1_; have BK337 := n2_; have GW337 := n3_; have GE337 := n4_; have NB336_337 := n5_; have NB337_336 := n6_; clear n0_ n1_ n2_ n3_ n4_ n5_ n6_; clear hb hbox hg; have hnb6 := NB336_337.out; have hnc6 := NB337_336.out; obtain ⟨hcz7_0, hcz7_1, hfz7_0, hfz7_1⟩ := zc2 BK336.out; obtain ⟨hcz8_0, hcz8_1, hfz8_0, hfz8_1⟩ := zc2 BK337.out))
  refine bodyPost_ret (results_cell_row rfl _ _ gb337 24 #[.int .u64 a0_0, .int .u64 a0_1] (0, 0) _ rfl (by (with_reducible repeat (first | refine zkN ?_ _ | refine zk1 ?_ | refine zkA ?_ _)); refine zkP (cs := #[.int .u64 a0_0, .int .u64 0]) ?_ 1 _ rfl; (with_reducible repeat (first | refine zkN ?_ _ | refine zk1 ?_ | refine zkA ?_ _)); refine zkP (cs := #[.int .u64 0, .int .u64 0]) ?_ 0 _ rfl; (with_reducible repeat (first | refine zkN ?_ _ | refine zk1 ?_ | refine zkA ?_ _)); exact BK337.out) Try.underlying24 rfl (by kernel_rfl)) rfl ?_
  exact ⟨by first | rfl | (simp [errW_none, errW_some] <;> rfl) | (simp [*, errW_none, errW_some] <;> rfl), by repeat (first | (with_reducible first | exact HB.out | apply zbA | apply zbN | apply zb1 | refine zbS ?_ GE336.out | refine zbS ?_ GE337.out) | exact HB.out)⟩
 ·rw [if_neg c3] at H
  have c3b0 : decide (a1 < 0) = false := decide_eq_false c3
  clear c3
  have H' := Aside0.mk H
  clear H
  go_enter Try.func28, Try.ntmps28
  go_wp2_with (first | ((with_reducible refine gate_dst (N := 2) rfl ?_); refine box_event ?hg (N := 2) ?hd (cs := #[.int .u64 a0_0, .int .u64 a0_1]) (t := 24) ?hr ?_; (case hd => rfl); (case hg => rfl); (case hr => first | (go_simp; done) | (go_simp; rfl)); intro gb336 hg w9 hbox hb; have n0_ := Aside0.mk (zbP (by repeat (first | (with_reducible first | exact HB.out | apply zbA | apply zbN | apply zb1) | exact HB.out)) hb); have n1_ := Aside0.mk (hbox); have n2_ := Aside0.mk ((by rw [hg]; exact (zbZ (by repeat (first | (with_reducible first | exact HB.out | apply zbA | apply zbN | apply zb1) | exact HB.out))) : w.heap.size ≤ gb336)); have n3_ := n2_; clear HB; have HB := n0_; have BK336 := n1_; have GW336 := n2_; have GE336 := n3_; clear n0_ n1_ n2_ n3_; clear hb hbox hg) | ((with_reducible refine gate_dst (N := 4) rfl ?_); refine box_event ?hg (N := 4) ?hd (cs := #[.int .u64 0, .int .u64 0]) (t := 24) ?hr ?_; (case hd => rfl); (case hg => rfl); (case hr => first | (go_simp; done) | (go_simp; rfl)); intro gb337 hg w10 hbox hb; have n0_ := Aside0.mk (zkB (by (with_reducible repeat (first | refine zkN ?_ _ | refine zk1 ?_ | refine zkA ?_ _)); exact BK336.out) hb); have n1_ := Aside0.mk (zbP (by repeat (first | (with_reducible first | exact HB.out | apply zbA | apply zbN | apply zb1 | refine zbS ?_ GE336.out) | exact HB.out)) hb); have n2_ := Aside0.mk (hbox); have n3_ := Aside0.mk ((by rw [hg]; exact (zbZ (by repeat (first | (with_reducible first | exact HB.out | apply zbA | apply zbN | apply zb1 | refine zbS ?_ GE336.out) | exact HB.out))) : w.heap.size ≤ gb337)); have n4_ := n3_; have n5_ := Aside0.mk ((by rw [hg]; exact Nat.ne_of_lt (zkL (by (with_reducible repeat (first | refine zkN ?_ _ | refine zk1 ?_ | refine zkA ?_ _)); exact BK336.out)) : gb336 ≠ gb337)); have n6_ := Aside0.mk (Ne.symm n5_.out); clear BK336; clear HB; have BK336 := n0_; have HB := n1_; have BK337 := n2_; have GW337 := n3_; have GE337 := n4_; have NB336_337 := n5_; have NB337_336 := n6_; clear n0_ n1_ n2_ n3_ n4_ n5_ n6_; clear hb hbox hg) | ((with_reducible refine gate_dst (N := 5) rfl ?_); refine box_event ?hg (N := 5) ?hd (cs := #[.int .u64 0, .int .u64 0]) (t := 24) ?hr ?_; (case hd => rfl); (case hg => rfl); (case hr => first | (go_simp; done) | (go_simp; rfl)); intro gb338 hg w11 hbox hb; have n0_ := Aside0.mk (zkB (by (with_reducible repeat (first | refine zkN ?_ _ | refine zk1 ?_ | refine zkA ?_ _)); exact BK336.out) hb); have n1_ := Aside0.mk (zkB (by (with_reducible repeat (first | refine zkN ?_ _ | refine zk1 ?_ | refine zkA ?_ _)); exact BK337.out) hb); have n2_ := Aside0.mk (zbP (by repeat (first | (with_reducible first | exact HB.out | apply zbA | apply zbN | apply zb1 | refine zbS ?_ GE336.out | refine zbS ?_ GE337.out) | exact HB.out)) hb); have n3_ := Aside0.mk (hbox); have n4_ := Aside0.mk ((by rw [hg]; exact (zbZ (by repeat (first | (with_reducible first | exact HB.out | apply zbA | apply zbN | apply zb1 | refine zbS ?_ GE336.out | refine zbS ?_ GE337.out) | exact HB.out))) : w.heap.size ≤ gb338)); have n5_ := n4_; have n6_ := Aside0.mk ((by rw [hg]; exact Nat.ne_of_lt (zkL (by (with_reducible repeat (first | refine zkN ?_ _ | refine zk1 ?_ | refine zkA ?_ _)); exact BK336.out)) : gb336 ≠ gb338)); have n7_ := Aside0.mk (Ne.symm n6_.out); have n8_ := Aside0.mk ((by rw [hg]; exact Nat.ne_of_lt (zkL (by (with_reducible repeat (first | refine zkN ?_ _ | refine zk1 ?_ | refine zkA ?_ _)); exact BK337.out)) : gb337 ≠ gb338)); have n9_ := Aside0.mk (Ne.symm n8_.out); clear BK336; clear BK337; clear HB; have BK336 := n0_; have BK337 := n1_; have HB := n2_; have BK338 := n3_; have GW338 := n4_; have GE338 := n5_; have NB336_338 := n6_; have NB338_336 := n7_; have NB337_338 := n8_; have NB338_337 := n9_; clear n0_ n1_ n2_ n3_ n4_ n5_ n6_ n7_ n8_ n9_; clear hb hbox hg; have hnb12 := NB338_336.out; have hnc12 := NB336_338.out; have hnb13 := NB338_337.out; have hnc13 := NB337_338.out; obtain ⟨hcz14_0, hcz14_1, hfz14_0, hfz14_1⟩ := zc2 BK338.out))
  go_loopg [6] k (fun kq v6 w' => ∃ (x6_1 : Int) (x339000_1 : Int) (x339001_1 : Int), v6 = .int .i64 x6_1 ∧ Aside0 (tenancyref01_Up.l0 kq a1 x6_1 a0_0 a0_1 x339000_1 x339001_1 = some (r1, r2)) ∧ Aside0 (kq ≤ k) ∧ Aside0 (w'.heap[gb336]? = some (.cells #[.int .u64 a0_0, .int .u64 a0_1] 24 (0, 0))) ∧ Aside0 (w'.heap[gb337]? = some (.cells #[.int .u64 0, .int .u64 0] 24 (0, 0))) ∧ Aside0 (w'.heap[gb338]? = some (.cells #[.int .u64 x339000_1, .int .u64 x339001_1] 24 (0, 0))) ∧ Aside0 (Below w.heap.size w w'))
  case atStart => exact ⟨(0), (0), (0), (by first | rfl | (simp; done) | (simp [*]; done)), H', ⟨Nat.le_refl _⟩, ⟨by (with_reducible repeat (first | refine zkN ?_ _ | refine zk1 ?_ | refine zkA ?_ _)); refine blk_far ?_ NB336_338.out _; (with_reducible repeat (first | refine zkN ?_ _ | refine zk1 ?_ | refine zkA ?_ _)); refine blk_far ?_ NB336_338.out _; (with_reducible repeat (first | refine zkN ?_ _ | refine zk1 ?_ | refine zkA ?_ _)); exact BK336.out⟩, ⟨by (with_reducible repeat (first | refine zkN ?_ _ | refine zk1 ?_ | refine zkA ?_ _)); refine blk_far ?_ NB337_338.out _; (with_reducible repeat (first | refine zkN ?_ _ | refine zk1 ?_ | refine zkA ?_ _)); refine blk_far ?_ NB337_338.out _; (with_reducible repeat (first | refine zkN ?_ _ | refine zk1 ?_ | refine zkA ?_ _)); exact BK337.out⟩, ⟨by (with_reducible repeat (first | refine zkN ?_ _ | refine zk1 ?_ | refine zkA ?_ _)); refine zkP (cs := #[.int .u64 0, .int .u64 0]) ?_ 1 _ rfl; (with_reducible repeat (first | refine zkN ?_ _ | refine zk1 ?_ | refine zkA ?_ _)); refine zkP (cs := #[.int .u64 0, .int .u64 0]) ?_ 0 _ rfl; (with_reducible repeat (first | refine zkN ?_ _ | refine zk1 ?_ | refine zkA ?_ _)); exact BK338.out⟩, ⟨by repeat (first | (with_reducible first | exact HB.out | apply zbA | apply zbN | apply zb1 | refine zbS ?_ GE336.out | refine zbS ?_ GE337.out | refine zbS ?_ GE338.out) | exact HB.out)⟩⟩
  case round =>
   clear H'
   (try clear c1); (try clear c2); (try clear p2); (try clear c3); (try clear c3b0); (try clear c6); (try clear c12); (try clear c13); (try clear hcz14_0 hcz14_1 hfz14_0 hfz14_1); (try clear hcz7_0 hcz7_1 hfz7_0 hfz7_1); (try clear hcz8_0 hcz8_1 hfz8_0 hfz8_1)
   obtain ⟨x6_1, x339000_1, x339001_1, rfl, HA, HK1, BK336, BK337, BK338, HB⟩ := hrel
   cases gk with
   | zero => exact absurd HA.out (by simp [tenancyref01_Up.l0])
   | succ k1 =>
    have H := HA.out
    clear HA
    simp only [tenancyref01_Up.l0] at H
    have HC15 := Aside0.mk H
    clear H
    go_upto_region 5 with (fail)
    go_cut [22] (fun v22 wc => ∃ (kq : Nat) (x22_14 : Bool), v22 = .bool x22_14 ∧ Aside0 (tenancyref01_Up.j1 kq a1 x6_1 x22_14 a0_0 a0_1 x339000_1 x339001_1 = some (r1, r2)) ∧ Aside0 (kq ≤ k1) ∧ Aside0 (wc.heap[gb336]? = some (.cells #[.int .u64 a0_0, .int .u64 a0_1] 24 (0, 0))) ∧ Aside0 (wc.heap[gb337]? = some (.cells #[.int .u64 0, .int .u64 0] 24 (0, 0))) ∧ Aside0 (wc.heap[gb338]? = some (.cells #[.int .u64 x339000_1, .int .u64 x339001_1] 24 (0, 0))) ∧ Aside0 (Below w.heap.size w wc))
    case first =>
     have H := HC15.out
     clear HC15
     by_cases c16 : x6_1 < 128
     ·rw [if_pos c16] at H
      have c16b0 : decide (x6_1 < 128) = true := decide_eq_true c16
      clear c16
      (first | rw [c16b0] | (simp only [i64_w, i32_w]; rw [c16b0]) | skip)
      by_cases c17 : a1 < 128
      ·rw [if_pos c17] at H
       have c17b0 : decide (a1 < 128) = true := decide_eq_true c17
       clear c17
       have H' := Aside0.mk H
       clear H
       go_wp2
       go_meet
       case rel => exact ⟨_, (decide ((wrap64 (x6_1 + a1)) < 128)), (by first | rfl | (simp; done) | (simp [*]; done)), H', ⟨by have := HK1.out; first | omega | exact Nat.le_refl _⟩, ⟨by (with_reducible repeat (first | refine zkN ?_ _ | refine zk1 ?_ | refine zkA ?_ _)); exact BK336.out⟩, ⟨by (with_reducible repeat (first | refine zkN ?_ _ | refine zk1 ?_ | refine zkA ?_ _)); exact BK337.out⟩, ⟨by (with_reducible repeat (first | refine zkN ?_ _ | refine zk1 ?_ | refine zkA ?_ _)); exact BK338.out⟩, ⟨by repeat (first | (with_reducible first | exact HB.out | apply zbA | apply zbN | apply zb1 | refine zbS ?_ GE336.out | refine zbS ?_ GE337.out | refine zbS ?_ GE338.out) | exact HB.out)⟩⟩
      ·rw [if_neg c17] at H
       have c17b0 : decide (a1 < 128) = false := decide_eq_false c17
       clear c17
       have H' := Aside0.mk H
       clear H
       go_wp2
       go_meet
       case rel => exact ⟨_, (false), (by first | rfl | (simp; done) | (simp [*]; done)), H', ⟨by have := HK1.out; first | omega | exact Nat.le_refl _⟩, ⟨by (with_reducible repeat (first | refine zkN ?_ _ | refine zk1 ?_ | refine zkA ?_ _)); exact BK336.out⟩, ⟨by (with_reducible repeat (first | refine zkN ?_ _ | refine zk1 ?_ | refine zkA ?_ _)); exact BK337.out⟩, ⟨by (with_reducible repeat (first | refine zkN ?_ _ | refine zk1 ?_ | refine zkA ?_ _)); exact BK338.out⟩, ⟨by repeat (first | (with_reducible first | exact HB.out | apply zbA | apply zbN | apply zb1 | refine zbS ?_ GE336.out | refine zbS ?_ GE337.out | refine zbS ?_ GE338.out) | exact HB.out)⟩⟩
     ·rw [if_neg c16] at H
      have c16b0 : decide (x6_1 < 128) = false := decide_eq_false c16
      clear c16
      (first | rw [c16b0] | (simp only [i64_w, i32_w]; rw [c16b0]) | skip)
      have H' := Aside0.mk H
      clear H
      go_wp2
      go_meet
      case rel => exact ⟨_, (false), (by first | rfl | (simp; done) | (simp [*]; done)), H', ⟨by have := HK1.out; first | omega | exact Nat.le_refl _⟩, ⟨by (with_reducible repeat (first | refine zkN ?_ _ | refine zk1 ?_ | refine zkA ?_ _)); exact BK336.out⟩, ⟨by (with_reducible repeat (first | refine zkN ?_ _ | refine zk1 ?_ | refine zkA ?_ _)); exact BK337.out⟩, ⟨by (with_reducible repeat (first | refine zkN ?_ _ | refine zk1 ?_ | refine zkA ?_ _)); exact BK338.out⟩, ⟨by repeat (first | (with_reducible first | exact HB.out | apply zbA | apply zbN | apply zb1 | refine zbS ?_ GE336.out | refine zbS ?_ GE337.out | refine zbS ?_ GE338.out) | exact HB.out)⟩⟩
    case rest =>
     clear HC15
     (try clear c1); (try clear c2); (try clear p2); (try clear c3); (try clear c3b0); (try clear c6); (try clear p6); (try clear c12); (try clear c13); (try clear c16); (try clear c16b0); (try clear c17); (try clear c17b0); (try clear hcz14_0 hcz14_1 hfz14_0 hfz14_1); (try clear hcz7_0 hcz7_1 hfz7_0 hfz7_1); (try clear hcz8_0 hcz8_1 hfz8_0 hfz8_1); (try clear p2)
     obtain ⟨kq, x22_14, rfl, HA, HJ14, BK336, BK337, BK338, HB⟩ := hcut
     cases kq with
     | zero => exact absurd HA.out (by simp [tenancyref01_Up.j1])
     | succ kj14 =>
      have H := HA.out
      clear HA
      simp only [tenancyref01_Up.j1] at H
      by_cases c18 : x22_14 = true
      ·subst c18
       have H1 : ((tenancyref01_bit.f a0_0 a0_1 (wrap64 (x6_1 + a1))).bind fun t339 => (if t339 = 1 then ((tenancyref01_with.f x339000_1 x339001_1 x6_1).bind fun bt340 => (tenancyref01_Up.l0 kj14 a1 (wrap64 (x6_1 + 1)) a0_0 a0_1 bt340.1 bt340.2)) else (tenancyref01_Up.l0 kj14 a1 (wrap64 (x6_1 + 1)) a0_0 a0_1 x339000_1 x339001_1))) = some (r1, r2) := by rw [if_pos rfl] at H; exact H
       clear H
       have H := H1
       clear H1
       replace H := Option.bind_eq_some_iff.mp H
       obtain ⟨t339, A190, H⟩ := H
       replace H : (if t339 = 1 then ((tenancyref01_with.f x339000_1 x339001_1 x6_1).bind fun bt340 => (tenancyref01_Up.l0 kj14 a1 (wrap64 (x6_1 + 1)) a0_0 a0_1 bt340.1 bt340.2)) else (tenancyref01_Up.l0 kj14 a1 (wrap64 (x6_1 + 1)) a0_0 a0_1 x339000_1 x339001_1)) = some (r1, r2) := H
       have A19 := Aside0.mk A190
       clear A190
       by_cases c20 : t339 = 1
       ·rw [if_pos c20] at H
        have c20b0 : (t339 == 1) = true := beq_iff_eq.mpr c20
        have c20b1 : (t339 != 1) = false := bne_eq_false_iff_eq.mpr c20
        clear c20
        replace H := Option.bind_eq_some_iff.mp H
        obtain ⟨⟨t340, t341⟩, A210, H⟩ := H
        replace H : (tenancyref01_Up.l0 kj14 a1 (wrap64 (x6_1 + 1)) a0_0 a0_1 t340 t341) = some (r1, r2) := H
        have A21 := Aside0.mk A210
        clear A210
        have H' := Aside0.mk H
        clear H
        have hnb22 := NB336_337.out
        have hnc22 := NB337_336.out
        have hnb23 := NB336_338.out
        have hnc23 := NB338_336.out
        obtain ⟨hcz24_0, hcz24_1, hfz24_0, hfz24_1⟩ := zc2 BK336.out
        go_wp2_with (first | ((with_reducible refine gate_callee (f := 47) rfl ?_); refine goesL_ (some 29) rfl rfl Try.func47 (by kernel_rfl) rfl #[.agg #[.int .u64 a0_0, .int .u64 a0_1], .int .i64 (wrap64 (x6_1 + a1))] rfl (by (try simp only [List.map_toArray, List.map_cons, List.map_nil]); first | done | rfl | (simp only [List.length_drop, List.length_take]; rfl)) ?_; (with_reducible refine (tenancyref01_bit.calls a0_0 a0_1 (wrap64 (x6_1 + a1)) t339 _ A19.out).mono ?_); rintro e w25 ⟨rfl, hb⟩; refine ⟨_, rfl, ?_⟩; have n0_ := Aside0.mk (zkB (by (with_reducible repeat (first | refine zkN ?_ _ | refine zk1 ?_ | refine zkA ?_ _)); exact BK336.out) hb); have n1_ := Aside0.mk (zkB (by (with_reducible repeat (first | refine zkN ?_ _ | refine zk1 ?_ | refine zkA ?_ _)); exact BK337.out) hb); have n2_ := Aside0.mk (zkB (by (with_reducible repeat (first | refine zkN ?_ _ | refine zk1 ?_ | refine zkA ?_ _)); exact BK338.out) hb); have n3_ := Aside0.mk (zbP (by repeat (first | (with_reducible first | exact HB.out | apply zbA | apply zbN | apply zb1 | refine zbS ?_ GE336.out | refine zbS ?_ GE337.out | refine zbS ?_ GE338.out) | exact HB.out)) hb); clear BK336; clear BK337; clear BK338; clear HB; have BK336 := n0_; have BK337 := n1_; have BK338 := n2_; have HB := n3_; clear n0_ n1_ n2_ n3_; (try clear hb); (try clear hb2); (try clear hk); (try clear hi); have hnb26 := NB338_337.out; have hnc26 := NB337_338.out; obtain ⟨hcz27_0, hcz27_1, hfz27_0, hfz27_1⟩ := zc2 BK338.out) | ((with_reducible refine gate_callee (f := 48) rfl ?_); refine goesL_ (some 33) rfl rfl Try.func48 (by kernel_rfl) rfl #[.agg #[.int .u64 x339000_1, .int .u64 x339001_1], .int .i64 x6_1] rfl (by (try simp only [List.map_toArray, List.map_cons, List.map_nil]); first | done | rfl | (simp only [List.length_drop, List.length_take]; rfl)) ?_; (with_reducible refine (tenancyref01_with.calls x339000_1 x339001_1 x6_1 t340 t341 _ A21.out).mono ?_); rintro e w28 ⟨rfl, hb⟩; refine ⟨_, rfl, ?_⟩; have n0_ := Aside0.mk (zkB (by (with_reducible repeat (first | refine zkN ?_ _ | refine zk1 ?_ | refine zkA ?_ _)); exact BK336.out) hb); have n1_ := Aside0.mk (zkB (by (with_reducible repeat (first | refine zkN ?_ _ | refine zk1 ?_ | refine zkA ?_ _)); exact BK337.out) hb); have n2_ := Aside0.mk (zkB (by (with_reducible repeat (first | refine zkN ?_ _ | refine zk1 ?_ | refine zkA ?_ _)); exact BK338.out) hb); have n3_ := Aside0.mk (zbP (by repeat (first | (with_reducible first | exact HB.out | apply zbA | apply zbN | apply zb1 | refine zbS ?_ GE336.out | refine zbS ?_ GE337.out | refine zbS ?_ GE338.out) | exact HB.out)) hb); clear BK336; clear BK337; clear BK338; clear HB; have BK336 := n0_; have BK337 := n1_; have BK338 := n2_; have HB := n3_; clear n0_ n1_ n2_ n3_; (try clear hb); (try clear hb2); (try clear hk); (try clear hi); obtain ⟨hcz29_0, hcz29_1, hfz29_0, hfz29_1⟩ := zc2 BK338.out))
        go_roundg kj14
        case measure => have := HK1.out; have := HJ14.out; omega
        case rel => exact ⟨(wrap64 (x6_1 + 1)), (t340), (t341), (by first | rfl | (simp; done) | (simp [*]; done)), H', ⟨by have := HK1.out; have := HJ14.out; omega⟩, ⟨by (with_reducible repeat (first | refine zkN ?_ _ | refine zk1 ?_ | refine zkA ?_ _)); refine blk_far ?_ NB336_338.out _; (with_reducible repeat (first | refine zkN ?_ _ | refine zk1 ?_ | refine zkA ?_ _)); refine blk_far ?_ NB336_338.out _; (with_reducible repeat (first | refine zkN ?_ _ | refine zk1 ?_ | refine zkA ?_ _)); exact BK336.out⟩, ⟨by (with_reducible repeat (first | refine zkN ?_ _ | refine zk1 ?_ | refine zkA ?_ _)); refine blk_far ?_ NB337_338.out _; (with_reducible repeat (first | refine zkN ?_ _ | refine zk1 ?_ | refine zkA ?_ _)); refine blk_far ?_ NB337_338.out _; (with_reducible repeat (first | refine zkN ?_ _ | refine zk1 ?_ | refine zkA ?_ _)); exact BK337.out⟩, ⟨by (with_reducible repeat (first | refine zkN ?_ _ | refine zk1 ?_ | refine zkA ?_ _)); refine zkP (cs := #[.int .u64 t340, .int .u64 x339001_1]) ?_ 1 _ rfl; (with_reducible repeat (first | refine zkN ?_ _ | refine zk1 ?_ | refine zkA ?_ _)); refine zkP (cs := #[.int .u64 x339000_1, .int .u64 x339001_1]) ?_ 0 _ rfl; (with_reducible repeat (first | refine zkN ?_ _ | refine zk1 ?_ | refine zkA ?_ _)); exact BK338.out⟩, ⟨by repeat (first | (with_reducible first | exact HB.out | apply zbA | apply zbN | apply zb1 | refine zbS ?_ GE336.out | refine zbS ?_ GE337.out | refine zbS ?_ GE338.out) | exact HB.out)⟩⟩
       ·rw [if_neg c20] at H
        have c20b0 : (t339 == 1) = false := beq_eq_false_iff_ne.mpr c20
        have c20b1 : (t339 != 1) = true := bne_iff_ne.mpr c20
        have H' := Aside0.mk H
        clear H
        have hnb30 := NB336_337.out
        have hnc30 := NB337_336.out
        have hnb31 := NB336_338.out
        have hnc31 := NB338_336.out
        obtain ⟨hcz32_0, hcz32_1, hfz32_0, hfz32_1⟩ := zc2 BK336.out
        go_wp2_with (first | ((with_reducible refine gate_callee (f := 47) rfl ?_); refine goesL_ (some 29) rfl rfl Try.func47 (by kernel_rfl) rfl #[.agg #[.int .u64 a0_0, .int .u64 a0_1], .int .i64 (wrap64 (x6_1 + a1))] rfl (by (try simp only [List.map_toArray, List.map_cons, List.map_nil]); first | done | rfl | (simp only [List.length_drop, List.length_take]; rfl)) ?_; (with_reducible refine (tenancyref01_bit.calls a0_0 a0_1 (wrap64 (x6_1 + a1)) t339 _ A19.out).mono ?_); rintro e w33 ⟨rfl, hb⟩; refine ⟨_, rfl, ?_⟩; have n0_ := Aside0.mk (zkB (by (with_reducible repeat (first | refine zkN ?_ _ | refine zk1 ?_ | refine zkA ?_ _)); exact BK336.out) hb); have n1_ := Aside0.mk (zkB (by (with_reducible repeat (first | refine zkN ?_ _ | refine zk1 ?_ | refine zkA ?_ _)); exact BK337.out) hb); have n2_ := Aside0.mk (zkB (by (with_reducible repeat (first | refine zkN ?_ _ | refine zk1 ?_ | refine zkA ?_ _)); exact BK338.out) hb); have n3_ := Aside0.mk (zbP (by repeat (first | (with_reducible first | exact HB.out | apply zbA | apply zbN | apply zb1 | refine zbS ?_ GE336.out | refine zbS ?_ GE337.out | refine zbS ?_ GE338.out) | exact HB.out)) hb); clear BK336; clear BK337; clear BK338; clear HB; have BK336 := n0_; have BK337 := n1_; have BK338 := n2_; have HB := n3_; clear n0_ n1_ n2_ n3_; (try clear hb); (try clear hb2); (try clear hk); (try clear hi)))
        go_roundg kj14
        case measure => have := HK1.out; have := HJ14.out; omega
        case rel => exact ⟨(wrap64 (x6_1 + 1)), (x339000_1), (x339001_1), (by first | rfl | (simp; done) | (simp [*]; done)), H', ⟨by have := HK1.out; have := HJ14.out; omega⟩, ⟨by (with_reducible repeat (first | refine zkN ?_ _ | refine zk1 ?_ | refine zkA ?_ _)); exact BK336.out⟩, ⟨by (with_reducible repeat (first | refine zkN ?_ _ | refine zk1 ?_ | refine zkA ?_ _)); exact BK337.out⟩, ⟨by (with_reducible repeat (first | refine zkN ?_ _ | refine zk1 ?_ | refine zkA ?_ _)); exact BK338.out⟩, ⟨by repeat (first | (with_reducible first | exact HB.out | apply zbA | apply zbN | apply zb1 | refine zbS ?_ GE336.out | refine zbS ?_ GE337.out | refine zbS ?_ GE338.out) | exact HB.out)⟩⟩
      ·replace c18 := Bool.eq_false_iff.mpr c18
       subst c18
       have H1 : (some (x339000_1, x339001_1)) = some (r1, r2) := by rw [if_neg (show ¬ (false = true) by decide)] at H; exact H
       clear H
       have H := H1
       clear H1
       simp only [Option.some.injEq, Prod.mk.injEq] at H
       obtain ⟨rfl, rfl⟩ := H
       have hnb34 := NB338_336.out
       have hnc34 := NB336_338.out
       have hnb35 := NB338_337.out
       have hnc35 := NB337_338.out
       obtain ⟨hcz36_0, hcz36_1, hfz36_0, hfz36_1⟩ := zc2 BK338.out
       have hnb37 := NB337_336.out
       have hnc37 := NB336_337.out
       obtain ⟨hcz38_0, hcz38_1, hfz38_0, hfz38_1⟩ := zc2 BK337.out
       go_wp2
       refine bodyPost_ret (results_cell_row rfl _ _ gb337 24 #[.int .u64 x339000_1, .int .u64 x339001_1] (0, 0) _ rfl (by (with_reducible repeat (first | refine zkN ?_ _ | refine zk1 ?_ | refine zkA ?_ _)); refine zkP (cs := #[.int .u64 x339000_1, .int .u64 0]) ?_ 1 _ rfl; (with_reducible repeat (first | refine zkN ?_ _ | refine zk1 ?_ | refine zkA ?_ _)); refine zkP (cs := #[.int .u64 0, .int .u64 0]) ?_ 0 _ rfl; (with_reducible repeat (first | refine zkN ?_ _ | refine zk1 ?_ | refine zkA ?_ _)); exact BK337.out) Try.underlying24 rfl (by kernel_rfl)) rfl ?_
       exact ⟨by first | rfl | (simp [errW_none, errW_some] <;> rfl) | (simp [*, errW_none, errW_some] <;> rfl), by repeat (first | (with_reducible first | exact HB.out | apply zbA | apply zbN | apply zb1 | refine zbS ?_ GE336.out | refine zbS ?_ GE337.out | refine zbS ?_ GE338.out) | exact HB.out)⟩

end Go.Proofs.Ytpllddgbfhnghaa.P
