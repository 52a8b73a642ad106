-- Written by pp.py, a program of this session, out of the translation.
import Derived.Test.YtpllddgbfhnghaaPx0
import Derived.Test.YtpllddgbfhnghaaPx17
namespace Go.Proofs.Ytpllddgbfhnghaa.P
open Go.RowKit Go.Proofs.YtpllddgbfhnghaaW.PrintWords Go.Proofs.YtpllddgbfhnghaaW.PrintLast Go.Proofs.YtpllddgbfhnghaaW.PrintMore
attribute [local go_sem] max2_int min2_int max_two min_two max_three min_three max_four min_four   -- for this text's walks alone
set_option linter.unusedVariables false
set_option linter.unusedSimpArgs false

/-! ### tenancyref01_Cmp: function 27 -/
def tenancyref01_Cmp.l0 : Nat → Int → Int → Int → Int → Int → Option (Int)
 | 0, _, _, _, _, _ => none
 | k + 1, x5, x331000, x331001, x332000, x332001 => if x5 < 128 then ((tenancyref01_bit.f x331000 x331001 x5).bind fun t332 => ((tenancyref01_bit.f x332000 x332001 x5).bind fun t333 => (if t332 < t333 then (some (-1)) else ((tenancyref01_bit.f x331000 x331001 x5).bind fun t334 => ((tenancyref01_bit.f x332000 x332001 x5).bind fun t335 => (if t334 > t335 then (some 1) else (tenancyref01_Cmp.l0 k (wrap64 (x5 + 1)) x331000 x331001 x332000 x332001))))))) else (some 0)
def tenancyref01_Cmp.f (k : Nat) (a0_0 : Int) (a0_1 : Int) (a1_0 : Int) (a1_1 : Int) : Option (Int) := tenancyref01_Cmp.l0 k 0 a0_0 a0_1 a1_0 a1_1
theorem tenancyref01_Cmp.mono_l : ∀ k, (∀ y0 y1 y2 y3 y4, LeO (tenancyref01_Cmp.l0 k y0 y1 y2 y3 y4) (tenancyref01_Cmp.l0 (k + 1) y0 y1 y2 y3 y4))
 | 0 => fun _ _ _ _ _ r h => by simp [tenancyref01_Cmp.l0] at h
 | k + 1 => by
  have ih0 := tenancyref01_Cmp.mono_l k
  ·intro y0 y1 y2 y3 y4
   unfold tenancyref01_Cmp.l0
   repeat' first
   | (with_reducible exact ih0 _ _ _ _ _)
   | (with_reducible exact LeO.refl _)
   | (with_reducible exact LeO.none _)
   | (with_reducible refine LeO.ite ?_ ?_)
   | (with_reducible refine LeO.bind ?_ (fun _ => ?_))
   | exact ih0 _ _ _ _ _
   | exact LeO.none _
   | refine LeO.ite ?_ ?_
   | refine LeO.bind ?_ (fun _ => ?_)
theorem tenancyref01_Cmp.mono : ∀ a0 a1 a2 a3 k, LeO (tenancyref01_Cmp.f k a0 a1 a2 a3) (tenancyref01_Cmp.f (k + 1) a0 a1 a2 a3) := by
 intro a0 a1 a2 a3 k
 have ih0 := tenancyref01_Cmp.mono_l k
 unfold tenancyref01_Cmp.f
 repeat' first
   | (with_reducible exact ih0 _ _ _ _ _)
   | (with_reducible exact LeO.refl _)
   | (with_reducible exact LeO.none _)
   | (with_reducible refine LeO.ite ?_ ?_)
   | (with_reducible refine LeO.bind ?_ (fun _ => ?_))
   | exact ih0 _ _ _ _ _
   | exact LeO.none _
   | refine LeO.ite ?_ ?_
   | refine LeO.bind ?_ (fun _ => ?_)
set_option maxHeartbeats 8000000 in
set_option maxRecDepth 100000 in
theorem tenancyref01_Cmp.calls (k : Nat) (a0_0 : Int) (a0_1 : Int) (a1_0 : Int) (a1_1 : Int) (r : Int) (w : World) (h : tenancyref01_Cmp.f k a0_0 a0_1 a1_0 a1_1 = some r) :
  Calls Try.prog 27 #[.agg #[.int .u64 a0_0, .int .u64 a0_1], .agg #[.int .u64 a1_0, .int .u64 a1_1]] w fun e w' => e = .returned (.int .i64 r) ∧ Below w.heap.size w w' := by
 have hu24 := Try.underlying24
 have HB := Aside0.mk (Below.refl w.heap.size w)
 have H : (tenancyref01_Cmp.l0 k 0 a0_0 a0_1 a1_0 a1_1) = some r := h
 clear h
 have H' := Aside0.mk H
 clear H
 go_enter Try.func27, Try.ntmps27
 go_wp2_with (first | ((with_reducible refine gate_dst (N := 2) rfl ?_); refine box_event ?hg (N := 2) ?hd (cs := #[.int .u64 a0_0, .int .u64 a0_1]) (t := 24) ?hr ?_; (case hd => rfl); (case hg => rfl); (case hr => first | (go_simp; done) | (go_simp; rfl)); intro gb330 hg w3 hbox hb; have n0_ := Aside0.mk (zbP (by repeat (first | (with_reducible first | exact HB.out | apply zbA | apply zbN | apply zb1) | exact HB.out)) hb); have n1_ := Aside0.mk (hbox); have n2_ := Aside0.mk ((by rw [hg]; exact (zbZ (by repeat (first | (with_reducible first | exact HB.out | apply zbA | apply zbN | apply zb1) | exact HB.out))) : w.heap.size ≤ gb330)); have n3_ := n2_; clear HB; have HB := n0_; have BK330 := n1_; have GW330 := n2_; have GE330 := n3_; clear n0_ n1_ n2_ n3_; clear hb hbox hg) | ((with_reducible refine gate_dst (N := 3) rfl ?_); refine box_event ?hg (N := 3) ?hd (cs := #[.int .u64 a1_0, .int .u64 a1_1]) (t := 24) ?hr ?_; (case hd => rfl); (case hg => rfl); (case hr => first | (go_simp; done) | (go_simp; rfl)); intro gb331 hg w4 hbox hb; have n0_ := Aside0.mk (zkB (by (with_reducible repeat (first | refine zkN ?_ _ | refine zk1 ?_ | refine zkA ?_ _)); exact BK330.out) hb); have n1_ := Aside0.mk (zbP (by repeat (first | (with_reducible first | exact HB.out | apply zbA | apply zbN | apply zb1 | refine zbS ?_ GE330.out) | exact HB.out)) hb); have n2_ := Aside0.mk (hbox); have n3_ := Aside0.mk ((by rw [hg]; exact (zbZ (by repeat (first | (with_reducible first | exact HB.out | apply zbA | apply zbN | apply zb1 | refine zbS ?_ GE330.out) | exact HB.out))) : w.heap.size ≤ gb331)); have n4_ := n3_; have n5_ := Aside0.mk ((by rw [hg]; exact Nat.ne_of_lt (zkL (by (with_reducible repeat (first | refine zkN ?_ _ | refine zk1 ?_ | refine zkA ?_ _)); exact BK330.out)) : gb330 ≠ gb331)); have n6_ := Aside0.mk (Ne.symm n5_.out); clear BK330; clear HB; have BK330 := n0_; have HB := n1_; have BK331 := n2_; have GW331 := n3_; have GE331 := n4_; have NB330_331 := n5_; have NB331_330 := n6_; clear n0_ n1_ n2_ n3_ n4_ n5_ n6_; clear hb hbox hg))
 go_loopg [5] k (fun kq v5 w' => ∃ (x5_1 : Int), v5 = .int .i64 x5_1 ∧ Aside0 (tenancyref01_Cmp.l0 kq x5_1 a0_0 a0_1 a1_0 a1_1 = some r) ∧ Aside0 (kq ≤ k) ∧ Aside0 (w'.heap[gb330]? = some (.cells #[.int .u64 a0_0, .int .u64 a0_1] 24 (0, 0))) ∧ Aside0 (w'.heap[gb331]? = some (.cells #[.int .u64 a1_0, .int .u64 a1_1] 24 (0, 0))) ∧ Aside0 (Below w.heap.size w w'))
 case atStart => exact ⟨(0), (by first | rfl | (simp; done) | (simp [*]; done)), H', ⟨Nat.le_refl _⟩, ⟨by (with_reducible repeat (first | refine zkN ?_ _ | refine zk1 ?_ | refine zkA ?_ _)); exact BK330.out⟩, ⟨by (with_reducible repeat (first | refine zkN ?_ _ | refine zk1 ?_ | refine zkA ?_ _)); exact BK331.out⟩, ⟨by repeat (first | (with_reducible first | exact HB.out | apply zbA | apply zbN | apply zb1 | refine zbS ?_ GE330.out | refine zbS ?_ GE331.out) | exact HB.out)⟩⟩
 case round =>
  clear H'
  (try clear c2); (try clear p2)
  obtain ⟨x5_1, rfl, HA, HK1, BK330, BK331, HB⟩ := hrel
  cases gk with
  | zero => exact absurd HA.out (by simp [tenancyref01_Cmp.l0])
  | succ k1 =>
   have H := HA.out
   clear HA
   simp only [tenancyref01_Cmp.l0] at H
   by_cases c5 : x5_1 < 128
   ·rw [if_pos c5] at H
    have c5b0 : decide (x5_1 < 128) = true := decide_eq_true c5
    clear c5
    replace H := Option.bind_eq_some_iff.mp H
    obtain ⟨t332, A60, H⟩ := H
    replace H : ((tenancyref01_bit.f a1_0 a1_1 x5_1).bind fun t333 => (if t332 < t333 then (some (-1)) else ((tenancyref01_bit.f a0_0 a0_1 x5_1).bind fun t334 => ((tenancyref01_bit.f a1_0 a1_1 x5_1).bind fun t335 => (if t334 > t335 then (some 1) else (tenancyref01_Cmp.l0 k1 (wrap64 (x5_1 + 1)) a0_0 a0_1 a1_0 a1_1)))))) = some r := H
    have A6 := Aside0.mk A60
    clear A60
    replace H := Option.bind_eq_some_iff.mp H
    obtain ⟨t333, A70, H⟩ := H
    replace H : (if t332 < t333 then (some (-1)) else ((tenancyref01_bit.f a0_0 a0_1 x5_1).bind fun t334 => ((tenancyref01_bit.f a1_0 a1_1 x5_1).bind fun t335 => (if t334 > t335 then (some 1) else (tenancyref01_Cmp.l0 k1 (wrap64 (x5_1 + 1)) a0_0 a0_1 a1_0 a1_1))))) = some r := H
    have A7 := Aside0.mk A70
    clear A70
    by_cases c8 : t332 < t333
    ·rw [if_pos c8] at H
     have c8b0 : decide (t332 < t333) = true := decide_eq_true c8
     clear c8
     obtain rfl := Option.some.inj H
     try go_wp2
     have n0_ := Aside0.mk (zk1 BK330.out)
     have n1_ := Aside0.mk (zk1 BK331.out)
     have n2_ := Aside0.mk (zb1 HB.out)
     clear BK330
     clear BK331
     clear HB
     have BK330 := n0_
     have BK331 := n1_
     have HB := n2_
     clear n0_ n1_ n2_
     refine start_ (n := 7) (S := fun w' => w'.cell? ⟨gb330, 0, none⟩ = some (.int .u64 a0_0) ∧ w'.cell? ⟨gb330, 1, none⟩ = some (.int .u64 a0_1) ∧ w'.cell? ⟨gb331, 0, none⟩ = some (.int .u64 a1_0) ∧ w'.cell? ⟨gb331, 1, none⟩ = some (.int .u64 a1_1)) (ds := []) #[false, false, false, false, false, false, false] (by kernel_rfl) rfl rfl ⟨(zkC BK330.out 0).trans rfl, (zkC BK330.out 1).trans rfl, (zkC BK331.out 0).trans rfl, (zkC BK331.out 1).trans rfl⟩ (fun hHeld => ?_)
     generalize wr.drew = w9 at BK330 BK331 HB hHeld ⊢
     refine pure_ (i := 1) (N := some 11) (v := ?_) (a' := ?_) #[false, true, false, false, false, false, false] rfl rfl (by kernel_rfl) (fun _ _ _ h => h) (Or.inl ⟨by rfl, ?_⟩) ?_ ?_
     rotate_left
     ·intro w'
      go_simp
      with_reducible rfl
     rotate_left
     ·simp only [Act.put, List.setIfInBounds_toArray, List.set_cons_zero, List.set_cons_succ, i64_w, i32_w]
      rfl
     refine pure_ (i := 4) (N := some 14) (v := ?_) (a' := ?_) #[false, true, false, false, true, false, false] rfl rfl (by kernel_rfl) (fun _ _ _ h => h) (Or.inl ⟨by rfl, ?_⟩) ?_ ?_
     rotate_left
     ·intro w'
      go_simp
      with_reducible rfl
     rotate_left
     ·simp only [Act.put, List.setIfInBounds_toArray, List.set_cons_zero, List.set_cons_succ, i64_w, i32_w]
      rfl
     refine take_ (i := 0) (N := some 10) (v := ?_) (a' := ?_) #[true, true, false, false, true, false, false] rfl rfl (by kernel_rfl) (fun _ _ _ h => h) (Or.inl ⟨by rfl, ?_⟩) hHeld ?_ ?_
     rotate_left
     ·rintro w' ⟨s0, s1, s2, s3⟩
      go_simp
      with_reducible rfl
     rotate_left
     ·simp only [Act.put, List.setIfInBounds_toArray, List.set_cons_zero, List.set_cons_succ, i64_w, i32_w]
      rfl
     refine take_ (i := 3) (N := some 13) (v := ?_) (a' := ?_) #[true, true, false, true, true, false, false] rfl rfl (by kernel_rfl) (fun _ _ _ h => h) (Or.inl ⟨by rfl, ?_⟩) hHeld ?_ ?_
     rotate_left
     ·rintro w' ⟨s0, s1, s2, s3⟩
      go_simp
      with_reducible rfl
     rotate_left
     ·simp only [Act.put, List.setIfInBounds_toArray, List.set_cons_zero, List.set_cons_succ, i64_w, i32_w]
      rfl
     refine one_ (i := 2) (N := some 12) #[true, true, true, true, true, false, false] rfl rfl (by kernel_rfl) (by decide) (fun K hK => ?_)
     refine goes_ Try.func47 (by kernel_rfl) rfl #[.agg #[.int .u64 a0_0, .int .u64 a0_1], .int .i64 x5_1] (by rfl) rfl rfl (by (try simp only [List.map_toArray, List.map_cons, List.map_nil]); first | done | rfl | (simp only [List.length_drop, List.length_take]; rfl)) ?_
     with_reducible refine (tenancyref01_bit.calls a0_0 a0_1 x5_1 t332 _ A6.out).mono ?_
     rintro e w10 ⟨rfl, hb⟩
     refine ⟨_, rfl, ?_⟩
     have n0_ := Aside0.mk (zkB (by (with_reducible repeat (first | refine zkN ?_ _ | refine zk1 ?_ | refine zkA ?_ _)); exact BK330.out) hb)
     have n1_ := Aside0.mk (zkB (by (with_reducible repeat (first | refine zkN ?_ _ | refine zk1 ?_ | refine zkA ?_ _)); exact BK331.out) hb)
     have n2_ := Aside0.mk (zbP (by repeat (first | (with_reducible first | exact HB.out | apply zbA | apply zbN | apply zb1 | refine zbS ?_ GE330.out | refine zbS ?_ GE331.out) | exact HB.out)) hb)
     clear BK330
     clear BK331
     clear HB
     have BK330 := n0_
     have BK331 := n1_
     have HB := n2_
     clear n0_ n1_ n2_
     (try clear hb)
     (try clear hb2)
     (try clear hk)
     (try clear hi)
     refine hK.out _ _ ⟨(zkC BK330.out 0).trans rfl, (zkC BK330.out 1).trans rfl, (zkC BK331.out 0).trans rfl, (zkC BK331.out 1).trans rfl⟩ (fun hHeld => ?_)
     clear hK K
     refine norm_ (a' := ?_) ?_ ?_
     rotate_left
     ·show Act.put _ (some 12) _ = _
      simp only [Act.put, List.setIfInBounds_toArray, List.set_cons_zero, List.set_cons_succ, i64_w, i32_w]
      rfl
     refine one_ (i := 5) (N := some 15) #[true, true, true, true, true, true, false] rfl rfl (by kernel_rfl) (by decide) (fun K hK => ?_)
     refine goes_ Try.func47 (by kernel_rfl) rfl #[.agg #[.int .u64 a1_0, .int .u64 a1_1], .int .i64 x5_1] (by rfl) rfl rfl (by (try simp only [List.map_toArray, List.map_cons, List.map_nil]); first | done | rfl | (simp only [List.length_drop, List.length_take]; rfl)) ?_
     with_reducible refine (tenancyref01_bit.calls a1_0 a1_1 x5_1 t333 _ A7.out).mono ?_
     rintro e w11 ⟨rfl, hb⟩
     refine ⟨_, rfl, ?_⟩
     have n0_ := Aside0.mk (zkB (by (with_reducible repeat (first | refine zkN ?_ _ | refine zk1 ?_ | refine zkA ?_ _)); exact BK330.out) hb)
     have n1_ := Aside0.mk (zkB (by (with_reducible repeat (first | refine zkN ?_ _ | refine zk1 ?_ | refine zkA ?_ _)); exact BK331.out) hb)
     have n2_ := Aside0.mk (zbP (by repeat (first | (with_reducible first | exact HB.out | apply zbA | apply zbN | apply zb1 | refine zbS ?_ GE330.out | refine zbS ?_ GE331.out) | exact HB.out)) hb)
     clear BK330
     clear BK331
     clear HB
     have BK330 := n0_
     have BK331 := n1_
     have HB := n2_
     clear n0_ n1_ n2_
     (try clear hb)
     (try clear hb2)
     (try clear hk)
     (try clear hi)
     refine hK.out _ _ ⟨(zkC BK330.out 0).trans rfl, (zkC BK330.out 1).trans rfl, (zkC BK331.out 0).trans rfl, (zkC BK331.out 1).trans rfl⟩ (fun hHeld => ?_)
     clear hK K
     refine norm_ (a' := ?_) ?_ ?_
     rotate_left
     ·show Act.put _ (some 15) _ = _
      simp only [Act.put, List.setIfInBounds_toArray, List.set_cons_zero, List.set_cons_succ, i64_w, i32_w]
      rfl
     refine pure_ (i := 6) (N := some 16) (v := ?_) (a' := ?_) #[true, true, true, true, true, true, true] rfl rfl (by kernel_rfl) (fun _ _ _ h => h) (Or.inl ⟨by rfl, ?_⟩) ?_ ?_
     rotate_left
     ·intro w'
      go_simp
      with_reducible rfl
     rotate_left
     ·simp only [Act.put, List.setIfInBounds_toArray, List.set_cons_zero, List.set_cons_succ, i64_w, i32_w]
      rfl
     refine done_ (by kernel_rfl) ?_
     try go_wp2
     go_ret
     exact ⟨by first | rfl | (simp [errW_none, errW_some] <;> rfl) | (simp [*, errW_none, errW_some] <;> rfl), by repeat (first | (with_reducible first | exact HB.out | apply zbA | apply zbN | apply zb1 | refine zbS ?_ GE330.out | refine zbS ?_ GE331.out) | exact HB.out)⟩
    ·rw [if_neg c8] at H
     have c8b0 : decide (t332 < t333) = false := decide_eq_false c8
     clear c8
     replace H := Option.bind_eq_some_iff.mp H
     obtain ⟨t334, A120, H⟩ := H
     replace H : ((tenancyref01_bit.f a1_0 a1_1 x5_1).bind fun t335 => (if t334 > t335 then (some 1) else (tenancyref01_Cmp.l0 k1 (wrap64 (x5_1 + 1)) a0_0 a0_1 a1_0 a1_1))) = some r := H
     have A12 := Aside0.mk A120
     clear A120
     replace H := Option.bind_eq_some_iff.mp H
     obtain ⟨t335, A130, H⟩ := H
     replace H : (if t334 > t335 then (some 1) else (tenancyref01_Cmp.l0 k1 (wrap64 (x5_1 + 1)) a0_0 a0_1 a1_0 a1_1)) = some r := H
     have A13 := Aside0.mk A130
     clear A130
     by_cases c14 : t334 > t335
     ·rw [if_pos c14] at H
      have c14b0 : decide (t335 < t334) = true := decide_eq_true c14
      clear c14
      obtain rfl := Option.some.inj H
      try go_wp2
      have n0_ := Aside0.mk (zk1 BK330.out)
      have n1_ := Aside0.mk (zk1 BK331.out)
      have n2_ := Aside0.mk (zb1 HB.out)
      clear BK330
      clear BK331
      clear HB
      have BK330 := n0_
      have BK331 := n1_
      have HB := n2_
      clear n0_ n1_ n2_
      refine start_ (n := 7) (S := fun w' => w'.cell? ⟨gb330, 0, none⟩ = some (.int .u64 a0_0) ∧ w'.cell? ⟨gb330, 1, none⟩ = some (.int .u64 a0_1) ∧ w'.cell? ⟨gb331, 0, none⟩ = some (.int .u64 a1_0) ∧ w'.cell? ⟨gb331, 1, none⟩ = some (.int .u64 a1_1)) (ds := []) #[false, false, false, false, false, false, false] (by kernel_rfl) rfl rfl ⟨(zkC BK330.out 0).trans rfl, (zkC BK330.out 1).trans rfl, (zkC BK331.out 0).trans rfl, (zkC BK331.out 1).trans rfl⟩ (fun hHeld => ?_)
      generalize wr.drew = w15 at BK330 BK331 HB hHeld ⊢
      refine pure_ (i := 1) (N := some 11) (v := ?_) (a' := ?_) #[false, true, false, false, false, false, false] rfl rfl (by kernel_rfl) (fun _ _ _ h => h) (Or.inl ⟨by rfl, ?_⟩) ?_ ?_
      rotate_left
      ·intro w'
       go_simp
       with_reducible rfl
      rotate_left
      ·simp only [Act.put, List.setIfInBounds_toArray, List.set_cons_zero, List.set_cons_succ, i64_w, i32_w]
       rfl
      refine pure_ (i := 4) (N := some 14) (v := ?_) (a' := ?_) #[false, true, false, false, true, false, false] rfl rfl (by kernel_rfl) (fun _ _ _ h => h) (Or.inl ⟨by rfl, ?_⟩) ?_ ?_
      rotate_left
      ·intro w'
       go_simp
       with_reducible rfl
      rotate_left
      ·simp only [Act.put, List.setIfInBounds_toArray, List.set_cons_zero, List.set_cons_succ, i64_w, i32_w]
       rfl
      refine take_ (i := 0) (N := some 10) (v := ?_) (a' := ?_) #[true, true, false, false, true, false, false] rfl rfl (by kernel_rfl) (fun _ _ _ h => h) (Or.inl ⟨by rfl, ?_⟩) hHeld ?_ ?_
      rotate_left
      ·rintro w' ⟨s0, s1, s2, s3⟩
       go_simp
       with_reducible rfl
      rotate_left
      ·simp only [Act.put, List.setIfInBounds_toArray, List.set_cons_zero, List.set_cons_succ, i64_w, i32_w]
       rfl
      refine take_ (i := 3) (N := some 13) (v := ?_) (a' := ?_) #[true, true, false, true, true, false, false] rfl rfl (by kernel_rfl) (fun _ _ _ h => h) (Or.inl ⟨by rfl, ?_⟩) hHeld ?_ ?_
      rotate_left
      ·rintro w' ⟨s0, s1, s2, s3⟩
       go_simp
       with_reducible rfl
      rotate_left
      ·simp only [Act.put, List.setIfInBounds_toArray, List.set_cons_zero, List.set_cons_succ, i64_w, i32_w]
       rfl
      refine one_ (i := 2) (N := some 12) #[true, true, true, true, true, false, false] rfl rfl (by kernel_rfl) (by decide) (fun K hK => ?_)
      refine goes_ Try.func47 (by kernel_rfl) rfl #[.agg #[.int .u64 a0_0, .int .u64 a0_1], .int .i64 x5_1] (by rfl) rfl rfl (by (try simp only [List.map_toArray, List.map_cons, List.map_nil]); first | done | rfl | (simp only [List.length_drop, List.length_take]; rfl)) ?_
      with_reducible refine (tenancyref01_bit.calls a0_0 a0_1 x5_1 t332 _ A6.out).mono ?_
      rintro e w16 ⟨rfl, hb⟩
      refine ⟨_, rfl, ?_⟩
      have n0_ := Aside0.mk (zkB (by (with_reducible repeat (first | refine zkN ?_ _ | refine zk1 ?_ | refine zkA ?_ _)); exact BK330.out) hb)
      have n1_ := Aside0.mk (zkB (by (with_reducible repeat (first | refine zkN ?_ _ | refine zk1 ?_ | refine zkA ?_ _)); exact BK331.out) hb)
      have n2_ := Aside0.mk (zbP (by repeat (first | (with_reducible first | exact HB.out | apply zbA | apply zbN | apply zb1 | refine zbS ?_ GE330.out | refine zbS ?_ GE331.out) | exact HB.out)) hb)
      clear BK330
      clear BK331
      clear HB
      have BK330 := n0_
      have BK331 := n1_
      have HB := n2_
      clear n0_ n1_ n2_
      (try clear hb)
      (try clear hb2)
      (try clear hk)
      (try clear hi)
      refine hK.out _ _ ⟨(zkC BK330.out 0).trans rfl, (zkC BK330.out 1).trans rfl, (zkC BK331.out 0).trans rfl, (zkC BK331.out 1).trans rfl⟩ (fun hHeld => ?_)
      clear hK K
      refine norm_ (a' := ?_) ?_ ?_
      rotate_left
      ·show Act.put _ (some 12) _ = _
       simp only [Act.put, List.setIfInBounds_toArray, List.set_cons_zero, List.set_cons_succ, i64_w, i32_w]
       rfl
      refine one_ (i := 5) (N := some 15) #[true, true, true, true, true, true, false] rfl rfl (by kernel_rfl) (by decide) (fun K hK => ?_)
      refine goes_ Try.func47 (by kernel_rfl) rfl #[.agg #[.int .u64 a1_0, .int .u64 a1_1], .int .i64 x5_1] (by rfl) rfl rfl (by (try simp only [List.map_toArray, List.map_cons, List.map_nil]); first | done | rfl | (simp only [List.length_drop, List.length_take]; rfl)) ?_
      with_reducible refine (tenancyref01_bit.calls a1_0 a1_1 x5_1 t333 _ A7.out).mono ?_
      rintro e w17 ⟨rfl, hb⟩
      refine ⟨_, rfl, ?_⟩
      have n0_ := Aside0.mk (zkB (by (with_reducible repeat (first | refine zkN ?_ _ | refine zk1 ?_ | refine zkA ?_ _)); exact BK330.out) hb)
      have n1_ := Aside0.mk (zkB (by (with_reducible repeat (first | refine zkN ?_ _ | refine zk1 ?_ | refine zkA ?_ _)); exact BK331.out) hb)
      have n2_ := Aside0.mk (zbP (by repeat (first | (with_reducible first | exact HB.out | apply zbA | apply zbN | apply zb1 | refine zbS ?_ GE330.out | refine zbS ?_ GE331.out) | exact HB.out)) hb)
      clear BK330
      clear BK331
      clear HB
      have BK330 := n0_
      have BK331 := n1_
      have HB := n2_
      clear n0_ n1_ n2_
      (try clear hb)
      (try clear hb2)
      (try clear hk)
      (try clear hi)
      refine hK.out _ _ ⟨(zkC BK330.out 0).trans rfl, (zkC BK330.out 1).trans rfl, (zkC BK331.out 0).trans rfl, (zkC BK331.out 1).trans rfl⟩ (fun hHeld => ?_)
      clear hK K
      refine norm_ (a' := ?_) ?_ ?_
      rotate_left
      ·show Act.put _ (some 15) _ = _
       simp only [Act.put, List.setIfInBounds_toArray, List.set_cons_zero, List.set_cons_succ, i64_w, i32_w]
       rfl
      refine pure_ (i := 6) (N := some 16) (v := ?_) (a' := ?_) #[true, true, true, true, true, true, true] rfl rfl (by kernel_rfl) (fun _ _ _ h => h) (Or.inl ⟨by rfl, ?_⟩) ?_ ?_
      rotate_left
      ·intro w'
       go_simp
       with_reducible rfl
      rotate_left
      ·simp only [Act.put, List.setIfInBounds_toArray, List.set_cons_zero, List.set_cons_succ, i64_w, i32_w]
       rfl
      refine done_ (by kernel_rfl) ?_
      try go_wp2
      have n0_ := Aside0.mk (zk1 BK330.out)
      have n1_ := Aside0.mk (zk1 BK331.out)
      have n2_ := Aside0.mk (zb1 HB.out)
      clear BK330
      clear BK331
      clear HB
      have BK330 := n0_
      have BK331 := n1_
      have HB := n2_
      clear n0_ n1_ n2_
      refine start_ (n := 7) (S := fun w' => w'.cell? ⟨gb330, 0, none⟩ = some (.int .u64 a0_0) ∧ w'.cell? ⟨gb330, 1, none⟩ = some (.int .u64 a0_1) ∧ w'.cell? ⟨gb331, 0, none⟩ = some (.int .u64 a1_0) ∧ w'.cell? ⟨gb331, 1, none⟩ = some (.int .u64 a1_1)) (ds := []) #[false, false, false, false, false, false, false] (by kernel_rfl) rfl rfl ⟨(zkC BK330.out 0).trans rfl, (zkC BK330.out 1).trans rfl, (zkC BK331.out 0).trans rfl, (zkC BK331.out 1).trans rfl⟩ (fun hHeld => ?_)
      generalize w17.drew = w18 at BK330 BK331 HB hHeld ⊢
      refine pure_ (i := 1) (N := some 18) (v := ?_) (a' := ?_) #[false, true, false, false, false, false, false] rfl rfl (by kernel_rfl) (fun _ _ _ h => h) (Or.inl ⟨by rfl, ?_⟩) ?_ ?_
      rotate_left
      ·intro w'
       go_simp
       with_reducible rfl
      rotate_left
      ·simp only [Act.put, List.setIfInBounds_toArray, List.set_cons_zero, List.set_cons_succ, i64_w, i32_w]
       rfl
      refine pure_ (i := 4) (N := some 21) (v := ?_) (a' := ?_) #[false, true, false, false, true, false, false] rfl rfl (by kernel_rfl) (fun _ _ _ h => h) (Or.inl ⟨by rfl, ?_⟩) ?_ ?_
      rotate_left
      ·intro w'
       go_simp
       with_reducible rfl
      rotate_left
      ·simp only [Act.put, List.setIfInBounds_toArray, List.set_cons_zero, List.set_cons_succ, i64_w, i32_w]
       rfl
      refine take_ (i := 0) (N := some 17) (v := ?_) (a' := ?_) #[true, true, false, false, true, false, false] rfl rfl (by kernel_rfl) (fun _ _ _ h => h) (Or.inl ⟨by rfl, ?_⟩) hHeld ?_ ?_
      rotate_left
      ·rintro w' ⟨s0, s1, s2, s3⟩
       go_simp
       with_reducible rfl
      rotate_left
      ·simp only [Act.put, List.setIfInBounds_toArray, List.set_cons_zero, List.set_cons_succ, i64_w, i32_w]
       rfl
      refine take_ (i := 3) (N := some 20) (v := ?_) (a' := ?_) #[true, true, false, true, true, false, false] rfl rfl (by kernel_rfl) (fun _ _ _ h => h) (Or.inl ⟨by rfl, ?_⟩) hHeld ?_ ?_
      rotate_left
      ·rintro w' ⟨s0, s1, s2, s3⟩
       go_simp
       with_reducible rfl
      rotate_left
      ·simp only [Act.put, List.setIfInBounds_toArray, List.set_cons_zero, List.set_cons_succ, i64_w, i32_w]
       rfl
      refine one_ (i := 2) (N := some 19) #[true, true, true, true, true, false, false] rfl rfl (by kernel_rfl) (by decide) (fun K hK => ?_)
      refine goes_ Try.func47 (by kernel_rfl) rfl #[.agg #[.int .u64 a0_0, .int .u64 a0_1], .int .i64 x5_1] (by rfl) rfl rfl (by (try simp only [List.map_toArray, List.map_cons, List.map_nil]); first | done | rfl | (simp only [List.length_drop, List.length_take]; rfl)) ?_
      with_reducible refine (tenancyref01_bit.calls a0_0 a0_1 x5_1 t334 _ A12.out).mono ?_
      rintro e w19 ⟨rfl, hb⟩
      refine ⟨_, rfl, ?_⟩
      have n0_ := Aside0.mk (zkB (by (with_reducible repeat (first | refine zkN ?_ _ | refine zk1 ?_ | refine zkA ?_ _)); exact BK330.out) hb)
      have n1_ := Aside0.mk (zkB (by (with_reducible repeat (first | refine zkN ?_ _ | refine zk1 ?_ | refine zkA ?_ _)); exact BK331.out) hb)
      have n2_ := Aside0.mk (zbP (by repeat (first | (with_reducible first | exact HB.out | apply zbA | apply zbN | apply zb1 | refine zbS ?_ GE330.out | refine zbS ?_ GE331.out) | exact HB.out)) hb)
      clear BK330
      clear BK331
      clear HB
      have BK330 := n0_
      have BK331 := n1_
      have HB := n2_
      clear n0_ n1_ n2_
      (try clear hb)
      (try clear hb2)
      (try clear hk)
      (try clear hi)
      refine hK.out _ _ ⟨(zkC BK330.out 0).trans rfl, (zkC BK330.out 1).trans rfl, (zkC BK331.out 0).trans rfl, (zkC BK331.out 1).trans rfl⟩ (fun hHeld => ?_)
      clear hK K
      refine norm_ (a' := ?_) ?_ ?_
      rotate_left
      ·show Act.put _ (some 19) _ = _
       simp only [Act.put, List.setIfInBounds_toArray, List.set_cons_zero, List.set_cons_succ, i64_w, i32_w]
       rfl
      refine one_ (i := 5) (N := some 22) #[true, true, true, true, true, true, false] rfl rfl (by kernel_rfl) (by decide) (fun K hK => ?_)
      refine goes_ Try.func47 (by kernel_rfl) rfl #[.agg #[.int .u64 a1_0, .int .u64 a1_1], .int .i64 x5_1] (by rfl) rfl rfl (by (try simp only [List.map_toArray, List.map_cons, List.map_nil]); first | done | rfl | (simp only [List.length_drop, List.length_take]; rfl)) ?_
      with_reducible refine (tenancyref01_bit.calls a1_0 a1_1 x5_1 t335 _ A13.out).mono ?_
      rintro e w20 ⟨rfl, hb⟩
      refine ⟨_, rfl, ?_⟩
      have n0_ := Aside0.mk (zkB (by (with_reducible repeat (first | refine zkN ?_ _ | refine zk1 ?_ | refine zkA ?_ _)); exact BK330.out) hb)
      have n1_ := Aside0.mk (zkB (by (with_reducible repeat (first | refine zkN ?_ _ | refine zk1 ?_ | refine zkA ?_ _)); exact BK331.out) hb)
      have n2_ := Aside0.mk (zbP (by repeat (first | (with_reducible first | exact HB.out | apply zbA | apply zbN | apply zb1 | refine zbS ?_ GE330.out | refine zbS ?_ GE331.out) | exact HB.out)) hb)
      clear BK330
      clear BK331
      clear HB
      have BK330 := n0_
      have BK331 := n1_
      have HB := n2_
      clear n0_ n1_ n2_
      (try clear hb)
      (try clear hb2)
      (try clear hk)
      (try clear hi)
      refine hK.out _ _ ⟨(zkC BK330.out 0).trans rfl, (zkC BK330.out 1).trans rfl, (zkC BK331.out 0).trans rfl, (zkC BK331.out 1).trans rfl⟩ (fun hHeld => ?_)
      clear hK K
      refine norm_ (a' := ?_) ?_ ?_
      rotate_left
      ·show Act.put _ (some 22) _ = _
       simp only [Act.put, List.setIfInBounds_toArray, List.set_cons_zero, List.set_cons_succ, i64_w, i32_w]
       rfl
      refine pure_ (i := 6) (N := some 23) (v := ?_) (a' := ?_) #[true, true, true, true, true, true, true] rfl rfl (by kernel_rfl) (fun _ _ _ h => h) (Or.inl ⟨by rfl, ?_⟩) ?_ ?_
      rotate_left
      ·intro w'
       go_simp
       with_reducible rfl
      rotate_left
      ·simp only [Act.put, List.setIfInBounds_toArray, List.set_cons_zero, List.set_cons_succ, i64_w, i32_w]
       rfl
      refine done_ (by kernel_rfl) ?_
      try go_wp2
      go_ret
      exact ⟨by first | rfl | (simp [errW_none, errW_some] <;> rfl) | (simp [*, errW_none, errW_some] <;> rfl), by repeat (first | (with_reducible first | exact HB.out | apply zbA | apply zbN | apply zb1 | refine zbS ?_ GE330.out | refine zbS ?_ GE331.out) | exact HB.out)⟩
     ·rw [if_neg c14] at H
      have c14b0 : decide (t335 < t334) = false := decide_eq_false c14
      clear c14
      have H' := Aside0.mk H
      clear H
      try go_wp2
      have n0_ := Aside0.mk (zk1 BK330.out)
      have n1_ := Aside0.mk (zk1 BK331.out)
      have n2_ := Aside0.mk (zb1 HB.out)
      clear BK330
      clear BK331
      clear HB
      have BK330 := n0_
      have BK331 := n1_
      have HB := n2_
      clear n0_ n1_ n2_
      refine start_ (n := 7) (S := fun w' => w'.cell? ⟨gb330, 0, none⟩ = some (.int .u64 a0_0) ∧ w'.cell? ⟨gb330, 1, none⟩ = some (.int .u64 a0_1) ∧ w'.cell? ⟨gb331, 0, none⟩ = some (.int .u64 a1_0) ∧ w'.cell? ⟨gb331, 1, none⟩ = some (.int .u64 a1_1)) (ds := []) #[false, false, false, false, false, false, false] (by kernel_rfl) rfl rfl ⟨(zkC BK330.out 0).trans rfl, (zkC BK330.out 1).trans rfl, (zkC BK331.out 0).trans rfl, (zkC BK331.out 1).trans rfl⟩ (fun hHeld => ?_)
      generalize wr.drew = w21 at BK330 BK331 HB hHeld ⊢
      refine pure_ (i := 1) (N := some 11) (v := ?_) (a' := ?_) #[false, true, false, false, false, false, false] rfl rfl (by kernel_rfl) (fun _ _ _ h => h) (Or.inl ⟨by rfl, ?_⟩) ?_ ?_
      rotate_left
      ·intro w'
       go_simp
       with_reducible rfl
      rotate_left
      ·simp only [Act.put, List.setIfInBounds_toArray, List.set_cons_zero, List.set_cons_succ, i64_w, i32_w]
       rfl
      refine pure_ (i := 4) (N := some 14) (v := ?_) (a' := ?_) #[false, true, false, false, true, false, false] rfl rfl (by kernel_rfl) (fun _ _ _ h => h) (Or.inl ⟨by rfl, ?_⟩) ?_ ?_
      rotate_left
      ·intro w'
       go_simp
       with_reducible rfl
      rotate_left
      ·simp only [Act.put, List.setIfInBounds_toArray, List.set_cons_zero, List.set_cons_succ, i64_w, i32_w]
       rfl
      refine take_ (i := 0) (N := some 10) (v := ?_) (a' := ?_) #[true, true, false, false, true, false, false] rfl rfl (by kernel_rfl) (fun _ _ _ h => h) (Or.inl ⟨by rfl, ?_⟩) hHeld ?_ ?_
      rotate_left
      ·rintro w' ⟨s0, s1, s2, s3⟩
       go_simp
       with_reducible rfl
      rotate_left
      ·simp only [Act.put, List.setIfInBounds_toArray, List.set_cons_zero, List.set_cons_succ, i64_w, i32_w]
       rfl
      refine take_ (i := 3) (N := some 13) (v := ?_) (a' := ?_) #[true, true, false, true, true, false, false] rfl rfl (by kernel_rfl) (fun _ _ _ h => h) (Or.inl ⟨by rfl, ?_⟩) hHeld ?_ ?_
      rotate_left
      ·rintro w' ⟨s0, s1, s2, s3⟩
       go_simp
       with_reducible rfl
      rotate_left
      ·simp only [Act.put, List.setIfInBounds_toArray, List.set_cons_zero, List.set_cons_succ, i64_w, i32_w]
       rfl
      refine one_ (i := 2) (N := some 12) #[true, true, true, true, true, false, false] rfl rfl (by kernel_rfl) (by decide) (fun K hK => ?_)
      refine goes_ Try.func47 (by kernel_rfl) rfl #[.agg #[.int .u64 a0_0, .int .u64 a0_1], .int .i64 x5_1] (by rfl) rfl rfl (by (try simp only [List.map_toArray, List.map_cons, List.map_nil]); first | done | rfl | (simp only [List.length_drop, List.length_take]; rfl)) ?_
      with_reducible refine (tenancyref01_bit.calls a0_0 a0_1 x5_1 t332 _ A6.out).mono ?_
      rintro e w22 ⟨rfl, hb⟩
      refine ⟨_, rfl, ?_⟩
      have n0_ := Aside0.mk (zkB (by (with_reducible repeat (first | refine zkN ?_ _ | refine zk1 ?_ | refine zkA ?_ _)); exact BK330.out) hb)
      have n1_ := Aside0.mk (zkB (by (with_reducible repeat (first | refine zkN ?_ _ | refine zk1 ?_ | refine zkA ?_ _)); exact BK331.out) hb)
      have n2_ := Aside0.mk (zbP (by repeat (first | (with_reducible first | exact HB.out | apply zbA | apply zbN | apply zb1 | refine zbS ?_ GE330.out | refine zbS ?_ GE331.out) | exact HB.out)) hb)
      clear BK330
      clear BK331
      clear HB
      have BK330 := n0_
      have BK331 := n1_
      have HB := n2_
      clear n0_ n1_ n2_
      (try clear hb)
      (try clear hb2)
      (try clear hk)
      (try clear hi)
      refine hK.out _ _ ⟨(zkC BK330.out 0).trans rfl, (zkC BK330.out 1).trans rfl, (zkC BK331.out 0).trans rfl, (zkC BK331.out 1).trans rfl⟩ (fun hHeld => ?_)
      clear hK K
      refine norm_ (a' := ?_) ?_ ?_
      rotate_left
      ·show Act.put _ (some 12) _ = _
       simp only [Act.put, List.setIfInBounds_toArray, List.set_cons_zero, List.set_cons_succ, i64_w, i32_w]
       rfl
      refine one_ (i := 5) (N := some 15) #[true, true, true, true, true, true, false] rfl rfl (by kernel_rfl) (by decide) (fun K hK => ?_)
      refine goes_ Try.func47 (by kernel_rfl) rfl #[.agg #[.int .u64 a1_0, .int .u64 a1_1], .int .i64 x5_1] (by rfl) rfl rfl (by (try simp only [List.map_toArray, List.map_cons, List.map_nil]); first | done | rfl | (simp only [List.length_drop, List.length_take]; rfl)) ?_
      with_reducible refine (tenancyref01_bit.calls a1_0 a1_1 x5_1 t333 _ A7.out).mono ?_
      rintro e w23 ⟨rfl, hb⟩
      refine ⟨_, rfl, ?_⟩
      have n0_ := Aside0.mk (zkB (by (with_reducible repeat (first | refine zkN ?_ _ | refine zk1 ?_ | refine zkA ?_ _)); exact BK330.out) hb)
      have n1_ := Aside0.mk (zkB (by (with_reducible repeat (first | refine zkN ?_ _ | refine zk1 ?_ | refine zkA ?_ _)); exact BK331.out) hb)
      have n2_ := Aside0.mk (zbP (by repeat (first | (with_reducible first | exact HB.out | apply zbA | apply zbN | apply zb1 | refine zbS ?_ GE330.out | refine zbS ?_ GE331.out) | exact HB.out)) hb)
      clear BK330
      clear BK331
      clear HB
      have BK330 := n0_
      have BK331 := n1_
      have HB := n2_
      clear n0_ n1_ n2_
      (try clear hb)
      (try clear hb2)
      (try clear hk)
      (try clear hi)
      refine hK.out _ _ ⟨(zkC BK330.out 0).trans rfl, (zkC BK330.out 1).trans rfl, (zkC BK331.out 0).trans rfl, (zkC BK331.out 1).trans rfl⟩ (fun hHeld => ?_)
      clear hK K
      refine norm_ (a' := ?_) ?_ ?_
      rotate_left
      ·show Act.put _ (some 15) _ = _
       simp only [Act.put, List.setIfInBounds_toArray, List.set_cons_zero, List.set_cons_succ, i64_w, i32_w]
       rfl
      refine pure_ (i := 6) (N := some 16) (v := ?_) (a' := ?_) #[true, true, true, true, true, true, true] rfl rfl (by kernel_rfl) (fun _ _ _ h => h) (Or.inl ⟨by rfl, ?_⟩) ?_ ?_
      rotate_left
      ·intro w'
       go_simp
       with_reducible rfl
      rotate_left
      ·simp only [Act.put, List.setIfInBounds_toArray, List.set_cons_zero, List.set_cons_succ, i64_w, i32_w]
       rfl
      refine done_ (by kernel_rfl) ?_
      try go_wp2
      have n0_ := Aside0.mk (zk1 BK330.out)
      have n1_ := Aside0.mk (zk1 BK331.out)
      have n2_ := Aside0.mk (zb1 HB.out)
      clear BK330
      clear BK331
      clear HB
      have BK330 := n0_
      have BK331 := n1_
      have HB := n2_
      clear n0_ n1_ n2_
      refine start_ (n := 7) (S := fun w' => w'.cell? ⟨gb330, 0, none⟩ = some (.int .u64 a0_0) ∧ w'.cell? ⟨gb330, 1, none⟩ = some (.int .u64 a0_1) ∧ w'.cell? ⟨gb331, 0, none⟩ = some (.int .u64 a1_0) ∧ w'.cell? ⟨gb331, 1, none⟩ = some (.int .u64 a1_1)) (ds := []) #[false, false, false, false, false, false, false] (by kernel_rfl) rfl rfl ⟨(zkC BK330.out 0).trans rfl, (zkC BK330.out 1).trans rfl, (zkC BK331.out 0).trans rfl, (zkC BK331.out 1).trans rfl⟩ (fun hHeld => ?_)
      generalize w23.drew = w24 at BK330 BK331 HB hHeld ⊢
      refine pure_ (i := 1) (N := some 18) (v := ?_) (a' := ?_) #[false, true, false, false, false, false, false] rfl rfl (by kernel_rfl) (fun _ _ _ h => h) (Or.inl ⟨by rfl, ?_⟩) ?_ ?_
      rotate_left
      ·intro w'
       go_simp
       with_reducible rfl
      rotate_left
      ·simp only [Act.put, List.setIfInBounds_toArray, List.set_cons_zero, List.set_cons_succ, i64_w, i32_w]
       rfl
      refine pure_ (i := 4) (N := some 21) (v := ?_) (a' := ?_) #[false, true, false, false, true, false, false] rfl rfl (by kernel_rfl) (fun _ _ _ h => h) (Or.inl ⟨by rfl, ?_⟩) ?_ ?_
      rotate_left
      ·intro w'
       go_simp
       with_reducible rfl
      rotate_left
      ·simp only [Act.put, List.setIfInBounds_toArray, List.set_cons_zero, List.set_cons_succ, i64_w, i32_w]
       rfl
      refine take_ (i := 0) (N := some 17) (v := ?_) (a' := ?_) #[true, true, false, false, true, false, false] rfl rfl (by kernel_rfl) (fun _ _ _ h => h) (Or.inl ⟨by rfl, ?_⟩) hHeld ?_ ?_
      rotate_left
      ·rintro w' ⟨s0, s1, s2, s3⟩
       go_simp
       with_reducible rfl
      rotate_left
      ·simp only [Act.put, List.setIfInBounds_toArray, List.set_cons_zero, List.set_cons_succ, i64_w, i32_w]
       rfl
      refine take_ (i := 3) (N := some 20) (v := ?_) (a' := ?_) #[true, true, false, true, true, false, false] rfl rfl (by kernel_rfl) (fun _ _ _ h => h) (Or.inl ⟨by rfl, ?_⟩) hHeld ?_ ?_
      rotate_left
      ·rintro w' ⟨s0, s1, s2, s3⟩
       go_simp
       with_reducible rfl
      rotate_left
      ·simp only [Act.put, List.setIfInBounds_toArray, List.set_cons_zero, List.set_cons_succ, i64_w, i32_w]
       rfl
      refine one_ (i := 2) (N := some 19) #[true, true, true, true, true, false, false] rfl rfl (by kernel_rfl) (by decide) (fun K hK => ?_)
      refine goes_ Try.func47 (by kernel_rfl) rfl #[.agg #[.int .u64 a0_0, .int .u64 a0_1], .int .i64 x5_1] (by rfl) rfl rfl (by (try simp only [List.map_toArray, List.map_cons, List.map_nil]); first | done | rfl | (simp only [List.length_drop, List.length_take]; rfl)) ?_
      with_reducible refine (tenancyref01_bit.calls a0_0 a0_1 x5_1 t334 _ A12.out).mono ?_
      rintro e w25 ⟨rfl, hb⟩
      refine ⟨_, rfl, ?_⟩
      have n0_ := Aside0.mk (zkB (by (with_reducible repeat (first | refine zkN ?_ _ | refine zk1 ?_ | refine zkA ?_ _)); exact BK330.out) hb)
      have n1_ := Aside0.mk (zkB (by (with_reducible repeat (first | refine zkN ?_ _ | refine zk1 ?_ | refine zkA ?_ _)); exact BK331.out) hb)
      have n2_ := Aside0.mk (zbP (by repeat (first | (with_reducible first | exact HB.out | apply zbA | apply zbN | apply zb1 | refine zbS ?_ GE330.out | refine zbS ?_ GE331.out) | exact HB.out)) hb)
      clear BK330
      clear BK331
      clear HB
      have BK330 := n0_
      have BK331 := n1_
      have HB := n2_
      clear n0_ n1_ n2_
      (try clear hb)
      (try clear hb2)
      (try clear hk)
      (try clear hi)
      refine hK.out _ _ ⟨(zkC BK330.out 0).trans rfl, (zkC BK330.out 1).trans rfl, (zkC BK331.out 0).trans rfl, (zkC BK331.out 1).trans rfl⟩ (fun hHeld => ?_)
      clear hK K
      refine norm_ (a' := ?_) ?_ ?_
      rotate_left
      ·show Act.put _ (some 19) _ = _
       simp only [Act.put, List.setIfInBounds_toArray, List.set_cons_zero, List.set_cons_succ, i64_w, i32_w]
       rfl
      refine one_ (i := 5) (N := some 22) #[true, true, true, true, true, true, false] rfl rfl (by kernel_rfl) (by decide) (fun K hK => ?_)
      refine goes_ Try.func47 (by kernel_rfl) rfl #[.agg #[.int .u64 a1_0, .int .u64 a1_1], .int .i64 x5_1] (by rfl) rfl rfl (by (try simp only [List.map_toArray, List.map_cons, List.map_nil]); first | done | rfl | (simp only [List.length_drop, List.length_take]; rfl)) ?_
      with_reducible refine (tenancyref01_bit.calls a1_0 a1_1 x5_1 t335 _ A13.out).mono ?_
      rintro e w26 ⟨rfl, hb⟩
      refine ⟨_, rfl, ?_⟩
      have n0_ := Aside0.mk (zkB (by (with_reducible repeat (first | refine zkN ?_ _ | refine zk1 ?_ | refine zkA ?_ _)); exact BK330.out) hb)
      have n1_ := Aside0.mk (zkB (by (with_reducible repeat (first | refine zkN ?_ _ | refine zk1 ?_ | refine zkA ?_ _)); exact BK331.out) hb)
      have n2_ := Aside0.mk (zbP (by repeat (first | (with_reducible first | exact HB.out | apply zbA | apply zbN | apply zb1 | refine zbS ?_ GE330.out | refine zbS ?_ GE331.out) | exact HB.out)) hb)
      clear BK330
      clear BK331
      clear HB
      have BK330 := n0_
      have BK331 := n1_
      have HB := n2_
      clear n0_ n1_ n2_
      (try clear hb)
      (try clear hb2)
      (try clear hk)
      (try clear hi)
      refine hK.out _ _ ⟨(zkC BK330.out 0).trans rfl, (zkC BK330.out 1).trans rfl, (zkC BK331.out 0).trans rfl, (zkC BK331.out 1).trans rfl⟩ (fun hHeld => ?_)
      clear hK K
      refine norm_ (a' := ?_) ?_ ?_
      rotate_left
      ·show Act.put _ (some 22) _ = _
       simp only [Act.put, List.setIfInBounds_toArray, List.set_cons_zero, List.set_cons_succ, i64_w, i32_w]
       rfl
      refine pure_ (i := 6) (N := some 23) (v := ?_) (a' := ?_) #[true, true, true, true, true, true, true] rfl rfl (by kernel_rfl) (fun _ _ _ h => h) (Or.inl ⟨by rfl, ?_⟩) ?_ ?_
      rotate_left
      ·intro w'
       go_simp
       with_reducible rfl
      rotate_left
      ·simp only [Act.put, List.setIfInBounds_toArray, List.set_cons_zero, List.set_cons_succ, i64_w, i32_w]
       rfl
      refine done_ (by kernel_rfl) ?_
      try go_wp2
      go_roundg k1
      case measure => have := HK1.out; omega
      case rel => exact ⟨(wrap64 (x5_1 + 1)), (by first | rfl | (simp; done) | (simp [*]; done)), H', ⟨by have := HK1.out; omega⟩, ⟨by (with_reducible repeat (first | refine zkN ?_ _ | refine zk1 ?_ | refine zkA ?_ _)); exact BK330.out⟩, ⟨by (with_reducible repeat (first | refine zkN ?_ _ | refine zk1 ?_ | refine zkA ?_ _)); exact BK331.out⟩, ⟨by repeat (first | (with_reducible first | exact HB.out | apply zbA | apply zbN | apply zb1 | refine zbS ?_ GE330.out | refine zbS ?_ GE331.out) | exact HB.out)⟩⟩
   ·rw [if_neg c5] at H
    have c5b0 : decide (x5_1 < 128) = false := decide_eq_false c5
    clear c5
    obtain rfl := Option.some.inj H
    go_wp2
    go_ret
    exact ⟨by first | rfl | (simp [errW_none, errW_some] <;> rfl) | (simp [*, errW_none, errW_some] <;> rfl), by repeat (first | (with_reducible first | exact HB.out | apply zbA | apply zbN | apply zb1 | refine zbS ?_ GE330.out | refine zbS ?_ GE331.out) | exact HB.out)⟩

end Go.Proofs.Ytpllddgbfhnghaa.P
