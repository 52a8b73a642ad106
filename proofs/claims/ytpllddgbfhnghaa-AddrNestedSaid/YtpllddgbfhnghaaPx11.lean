-- Written by pp.py, a program of this session, out of the translation.
import Derived.Test.YtpllddgbfhnghaaPx0
import Derived.Test.YtpllddgbfhnghaaPx1
import Derived.Test.YtpllddgbfhnghaaPx2
import Derived.Test.YtpllddgbfhnghaaPx4
import Derived.Test.YtpllddgbfhnghaaPx5
import Derived.Test.YtpllddgbfhnghaaPx6
import Derived.Test.YtpllddgbfhnghaaPx8
import Derived.Test.YtpllddgbfhnghaaPx9
import Derived.Test.YtpllddgbfhnghaaPx10
namespace Go.Proofs.Ytpllddgbfhnghaa.P
open Go.RowKit Go.Proofs.YtpllddgbfhnghaaW.PrintWords Go.Proofs.YtpllddgbfhnghaaW.PrintLast Go.Proofs.YtpllddgbfhnghaaW.PrintMore
attribute [local go_sem] max2_int min2_int max_two min_two max_three min_three max_four min_four   -- for this text's walks alone
set_option linter.unusedVariables false
set_option linter.unusedSimpArgs false

attribute [local go_sem high] eqA24 eqA33
/-! ### tenancylaw01_awake: function 10 -/
def tenancylaw01_awake.f (k : Nat)  : Option (Bool) := (addr_Add.f 0 18446744073709551615 0 1).bind fun bt158 => ((addr_Mod.f k 1 0 0 7).bind fun bt162 => ((addr_Clip.f k 0 3232235781 120).bind fun bt166 => (if (bt158.1 == 1 && (bt158.2.1 == 0)) = true then (if bt158.2.2 = true then (none) else (if (bt162.1 == 0 && (bt162.2.1 == 2)) = true then (if bt162.2.2 = true then (if bt166.2.2.2 = true then (if ((bt166.1 == 0 && (bt166.2.1 == 3232235776)) && (bt166.2.2.1 == 120)) = true then ((addr_Sound.f k bt166.1 bt166.2.1 bt166.2.2.1).bind fun t171 => (if t171 = true then ((addr_Has.f k bt166.1 bt166.2.1 bt166.2.2.1 0 3232236031).bind fun t172 => (if t172 = true then ((addr_Up.f 0 1 64).bind fun bt173 => (if (bt173.1 == 1 && (bt173.2 == 0)) = true then ((addr_Down.f 1 0 1).bind fun bt175 => (if (bt175.1 == 0 && (bt175.2 == 9223372036854775808)) = true then ((addr_Cmp.f k bt158.1 bt158.2.1 bt162.1 bt162.2.1).bind fun t177 => (some (t177 == 1))) else (none))) else (none))) else (none))) else (none))) else (none)) else (none)) else (none)) else (none))) else (none))))
theorem tenancylaw01_awake.mono : ∀ k, LeO (tenancylaw01_awake.f k ) (tenancylaw01_awake.f (k + 1) ) := by
 intro  k
 unfold tenancylaw01_awake.f
 repeat' first
   | (with_reducible exact addr_Clip.mono _ _ _ _)
   | (with_reducible exact addr_Cmp.mono _ _ _ _ _)
   | (with_reducible exact addr_Has.mono _ _ _ _ _ _)
   | (with_reducible exact addr_Mod.mono _ _ _ _ _)
   | (with_reducible exact addr_Sound.mono _ _ _ _)
   | (with_reducible exact LeO.refl _)
   | (with_reducible exact LeO.none _)
   | (with_reducible refine LeO.ite ?_ ?_)
   | (with_reducible refine LeO.bind ?_ (fun _ => ?_))
   | exact addr_Clip.mono _ _ _ _
   | exact addr_Cmp.mono _ _ _ _ _
   | exact addr_Has.mono _ _ _ _ _ _
   | exact addr_Mod.mono _ _ _ _ _
   | exact addr_Sound.mono _ _ _ _
   | exact LeO.none _
   | refine LeO.ite ?_ ?_
   | refine LeO.bind ?_ (fun _ => ?_)
set_option maxHeartbeats 8000000 in
set_option maxRecDepth 100000 in
theorem tenancylaw01_awake.calls (k : Nat)  (r : Bool) (w : World) (h : tenancylaw01_awake.f k  = some r) :
  Calls Try.prog 10 #[] w fun e w' => e = .returned (.bool r) ∧ Below w.heap.size w w' := by
 have hu24 := Try.underlying24
 have hu33 := Try.underlying33
 have HB := Aside0.mk (Below.refl w.heap.size w)
 have H : ((addr_Add.f 0 18446744073709551615 0 1).bind fun bt158 => ((addr_Mod.f k 1 0 0 7).bind fun bt162 => ((addr_Clip.f k 0 3232235781 120).bind fun bt166 => (if (bt158.1 == 1 && (bt158.2.1 == 0)) = true then (if bt158.2.2 = true then (none) else (if (bt162.1 == 0 && (bt162.2.1 == 2)) = true then (if bt162.2.2 = true then (if bt166.2.2.2 = true then (if ((bt166.1 == 0 && (bt166.2.1 == 3232235776)) && (bt166.2.2.1 == 120)) = true then ((addr_Sound.f k bt166.1 bt166.2.1 bt166.2.2.1).bind fun t171 => (if t171 = true then ((addr_Has.f k bt166.1 bt166.2.1 bt166.2.2.1 0 3232236031).bind fun t172 => (if t172 = true then ((addr_Up.f 0 1 64).bind fun bt173 => (if (bt173.1 == 1 && (bt173.2 == 0)) = true then ((addr_Down.f 1 0 1).bind fun bt175 => (if (bt175.1 == 0 && (bt175.2 == 9223372036854775808)) = true then ((addr_Cmp.f k bt158.1 bt158.2.1 bt162.1 bt162.2.1).bind fun t177 => (some (t177 == 1))) else (none))) else (none))) else (none))) else (none))) else (none)) else (none)) else (none)) else (none))) else (none))))) = some r := h
 clear h
 replace H := Option.bind_eq_some_iff.mp H
 obtain ⟨⟨t158, t159, t160⟩, A10, H⟩ := H
 replace H : ((addr_Mod.f k 1 0 0 7).bind fun bt162 => ((addr_Clip.f k 0 3232235781 120).bind fun bt166 => (if (t158 == 1 && (t159 == 0)) = true then (if t160 = true then (none) else (if (bt162.1 == 0 && (bt162.2.1 == 2)) = true then (if bt162.2.2 = true then (if bt166.2.2.2 = true then (if ((bt166.1 == 0 && (bt166.2.1 == 3232235776)) && (bt166.2.2.1 == 120)) = true then ((addr_Sound.f k bt166.1 bt166.2.1 bt166.2.2.1).bind fun t171 => (if t171 = true then ((addr_Has.f k bt166.1 bt166.2.1 bt166.2.2.1 0 3232236031).bind fun t172 => (if t172 = true then ((addr_Up.f 0 1 64).bind fun bt173 => (if (bt173.1 == 1 && (bt173.2 == 0)) = true then ((addr_Down.f 1 0 1).bind fun bt175 => (if (bt175.1 == 0 && (bt175.2 == 9223372036854775808)) = true then ((addr_Cmp.f k t158 t159 bt162.1 bt162.2.1).bind fun t177 => (some (t177 == 1))) else (none))) else (none))) else (none))) else (none))) else (none)) else (none)) else (none)) else (none))) else (none)))) = some r := H
 have A1 := Aside0.mk A10
 clear A10
 replace H := Option.bind_eq_some_iff.mp H
 obtain ⟨⟨t162, t163, t164⟩, A20, H⟩ := H
 replace H : ((addr_Clip.f k 0 3232235781 120).bind fun bt166 => (if (t158 == 1 && (t159 == 0)) = true then (if t160 = true then (none) else (if (t162 == 0 && (t163 == 2)) = true then (if t164 = true then (if bt166.2.2.2 = true then (if ((bt166.1 == 0 && (bt166.2.1 == 3232235776)) && (bt166.2.2.1 == 120)) = true then ((addr_Sound.f k bt166.1 bt166.2.1 bt166.2.2.1).bind fun t171 => (if t171 = true then ((addr_Has.f k bt166.1 bt166.2.1 bt166.2.2.1 0 3232236031).bind fun t172 => (if t172 = true then ((addr_Up.f 0 1 64).bind fun bt173 => (if (bt173.1 == 1 && (bt173.2 == 0)) = true then ((addr_Down.f 1 0 1).bind fun bt175 => (if (bt175.1 == 0 && (bt175.2 == 9223372036854775808)) = true then ((addr_Cmp.f k t158 t159 t162 t163).bind fun t177 => (some (t177 == 1))) else (none))) else (none))) else (none))) else (none))) else (none)) else (none)) else (none)) else (none))) else (none))) = some r := H
 have A2 := Aside0.mk A20
 clear A20
 replace H := Option.bind_eq_some_iff.mp H
 obtain ⟨⟨t166, t167, t168, t169⟩, A30, H⟩ := H
 replace H : (if (t158 == 1 && (t159 == 0)) = true then (if t160 = true then (none) else (if (t162 == 0 && (t163 == 2)) = true then (if t164 = true then (if t169 = true then (if ((t166 == 0 && (t167 == 3232235776)) && (t168 == 120)) = true then ((addr_Sound.f k t166 t167 t168).bind fun t171 => (if t171 = true then ((addr_Has.f k t166 t167 t168 0 3232236031).bind fun t172 => (if t172 = true then ((addr_Up.f 0 1 64).bind fun bt173 => (if (bt173.1 == 1 && (bt173.2 == 0)) = true then ((addr_Down.f 1 0 1).bind fun bt175 => (if (bt175.1 == 0 && (bt175.2 == 9223372036854775808)) = true then ((addr_Cmp.f k t158 t159 t162 t163).bind fun t177 => (some (t177 == 1))) else (none))) else (none))) else (none))) else (none))) else (none)) else (none)) else (none)) else (none))) else (none)) = some r := H
 have A3 := Aside0.mk A30
 clear A30
 by_cases c4 : (t158 == 1 && (t159 == 0)) = true
 ·rw [if_pos c4] at H
  have c4b0 : (t158 == 1 && (t159 == 0)) = true := c4
  (try (have c4b1 : decide (t158 = 1 && (t159 == 0)) = true := by simpa using c4))
  (try (have c4b2 : (t158 == 1 && (t159 == 0)) = true := by simpa using c4))
  clear c4
  by_cases c5 : t160 = true
  ·subst c5
   have H1 : (none) = some r := by rw [if_pos rfl] at H; exact H
   clear H
   have H := H1
   clear H1
   exact absurd H (by simp)
  ·replace c5 := Bool.eq_false_iff.mpr c5
   subst c5
   have H1 : (if (t162 == 0 && (t163 == 2)) = true then (if t164 = true then (if t169 = true then (if ((t166 == 0 && (t167 == 3232235776)) && (t168 == 120)) = true then ((addr_Sound.f k t166 t167 t168).bind fun t171 => (if t171 = true then ((addr_Has.f k t166 t167 t168 0 3232236031).bind fun t172 => (if t172 = true then ((addr_Up.f 0 1 64).bind fun bt173 => (if (bt173.1 == 1 && (bt173.2 == 0)) = true then ((addr_Down.f 1 0 1).bind fun bt175 => (if (bt175.1 == 0 && (bt175.2 == 9223372036854775808)) = true then ((addr_Cmp.f k t158 t159 t162 t163).bind fun t177 => (some (t177 == 1))) else (none))) else (none))) else (none))) else (none))) else (none)) else (none)) else (none)) else (none)) = some r := by rw [if_neg (show ¬ (false = true) by decide)] at H; exact H
   clear H
   have H := H1
   clear H1
   by_cases c6 : (t162 == 0 && (t163 == 2)) = true
   ·rw [if_pos c6] at H
    have c6b0 : (t162 == 0 && (t163 == 2)) = true := c6
    (try (have c6b1 : decide (t162 = 0 && (t163 == 2)) = true := by simpa using c6))
    (try (have c6b2 : (t162 == 0 && (t163 == 2)) = true := by simpa using c6))
    clear c6
    by_cases c7 : t164 = true
    ·subst c7
     have H1 : (if t169 = true then (if ((t166 == 0 && (t167 == 3232235776)) && (t168 == 120)) = true then ((addr_Sound.f k t166 t167 t168).bind fun t171 => (if t171 = true then ((addr_Has.f k t166 t167 t168 0 3232236031).bind fun t172 => (if t172 = true then ((addr_Up.f 0 1 64).bind fun bt173 => (if (bt173.1 == 1 && (bt173.2 == 0)) = true then ((addr_Down.f 1 0 1).bind fun bt175 => (if (bt175.1 == 0 && (bt175.2 == 9223372036854775808)) = true then ((addr_Cmp.f k t158 t159 t162 t163).bind fun t177 => (some (t177 == 1))) else (none))) else (none))) else (none))) else (none))) else (none)) else (none)) = some r := by rw [if_pos rfl] at H; exact H
     clear H
     have H := H1
     clear H1
     by_cases c8 : t169 = true
     ·subst c8
      have H1 : (if ((t166 == 0 && (t167 == 3232235776)) && (t168 == 120)) = true then ((addr_Sound.f k t166 t167 t168).bind fun t171 => (if t171 = true then ((addr_Has.f k t166 t167 t168 0 3232236031).bind fun t172 => (if t172 = true then ((addr_Up.f 0 1 64).bind fun bt173 => (if (bt173.1 == 1 && (bt173.2 == 0)) = true then ((addr_Down.f 1 0 1).bind fun bt175 => (if (bt175.1 == 0 && (bt175.2 == 9223372036854775808)) = true then ((addr_Cmp.f k t158 t159 t162 t163).bind fun t177 => (some (t177 == 1))) else (none))) else (none))) else (none))) else (none))) else (none)) = some r := by rw [if_pos rfl] at H; exact H
      clear H
      have H := H1
      clear H1
      by_cases c9 : ((t166 == 0 && (t167 == 3232235776)) && (t168 == 120)) = true
      ·rw [if_pos c9] at H
       have c9b0 : ((t166 == 0 && (t167 == 3232235776)) && (t168 == 120)) = true := c9
       clear c9
       replace H := Option.bind_eq_some_iff.mp H
       obtain ⟨t171, A100, H⟩ := H
       replace H : (if t171 = true then ((addr_Has.f k t166 t167 t168 0 3232236031).bind fun t172 => (if t172 = true then ((addr_Up.f 0 1 64).bind fun bt173 => (if (bt173.1 == 1 && (bt173.2 == 0)) = true then ((addr_Down.f 1 0 1).bind fun bt175 => (if (bt175.1 == 0 && (bt175.2 == 9223372036854775808)) = true then ((addr_Cmp.f k t158 t159 t162 t163).bind fun t177 => (some (t177 == 1))) else (none))) else (none))) else (none))) else (none)) = some r := H
       have A10 := Aside0.mk A100
       clear A100
       by_cases c11 : t171 = true
       ·subst c11
        have H1 : ((addr_Has.f k t166 t167 t168 0 3232236031).bind fun t172 => (if t172 = true then ((addr_Up.f 0 1 64).bind fun bt173 => (if (bt173.1 == 1 && (bt173.2 == 0)) = true then ((addr_Down.f 1 0 1).bind fun bt175 => (if (bt175.1 == 0 && (bt175.2 == 9223372036854775808)) = true then ((addr_Cmp.f k t158 t159 t162 t163).bind fun t177 => (some (t177 == 1))) else (none))) else (none))) else (none))) = some r := by rw [if_pos rfl] at H; exact H
        clear H
        have H := H1
        clear H1
        replace H := Option.bind_eq_some_iff.mp H
        obtain ⟨t172, A120, H⟩ := H
        replace H : (if t172 = true then ((addr_Up.f 0 1 64).bind fun bt173 => (if (bt173.1 == 1 && (bt173.2 == 0)) = true then ((addr_Down.f 1 0 1).bind fun bt175 => (if (bt175.1 == 0 && (bt175.2 == 9223372036854775808)) = true then ((addr_Cmp.f k t158 t159 t162 t163).bind fun t177 => (some (t177 == 1))) else (none))) else (none))) else (none)) = some r := H
        have A12 := Aside0.mk A120
        clear A120
        by_cases c13 : t172 = true
        ·subst c13
         have H1 : ((addr_Up.f 0 1 64).bind fun bt173 => (if (bt173.1 == 1 && (bt173.2 == 0)) = true then ((addr_Down.f 1 0 1).bind fun bt175 => (if (bt175.1 == 0 && (bt175.2 == 9223372036854775808)) = true then ((addr_Cmp.f k t158 t159 t162 t163).bind fun t177 => (some (t177 == 1))) else (none))) else (none))) = some r := by rw [if_pos rfl] at H; exact H
         clear H
         have H := H1
         clear H1
         replace H := Option.bind_eq_some_iff.mp H
         obtain ⟨⟨t173, t174⟩, A140, H⟩ := H
         replace H : (if (t173 == 1 && (t174 == 0)) = true then ((addr_Down.f 1 0 1).bind fun bt175 => (if (bt175.1 == 0 && (bt175.2 == 9223372036854775808)) = true then ((addr_Cmp.f k t158 t159 t162 t163).bind fun t177 => (some (t177 == 1))) else (none))) else (none)) = some r := H
         have A14 := Aside0.mk A140
         clear A140
         by_cases c15 : (t173 == 1 && (t174 == 0)) = true
         ·rw [if_pos c15] at H
          have c15b0 : (t173 == 1 && (t174 == 0)) = true := c15
          (try (have c15b1 : decide (t173 = 1 && (t174 == 0)) = true := by simpa using c15))
          (try (have c15b2 : (t173 == 1 && (t174 == 0)) = true := by simpa using c15))
          clear c15
          replace H := Option.bind_eq_some_iff.mp H
          obtain ⟨⟨t175, t176⟩, A160, H⟩ := H
          replace H : (if (t175 == 0 && (t176 == 9223372036854775808)) = true then ((addr_Cmp.f k t158 t159 t162 t163).bind fun t177 => (some (t177 == 1))) else (none)) = some r := H
          have A16 := Aside0.mk A160
          clear A160
          by_cases c17 : (t175 == 0 && (t176 == 9223372036854775808)) = true
          ·rw [if_pos c17] at H
           have c17b0 : (t175 == 0 && (t176 == 9223372036854775808)) = true := c17
           (try (have c17b1 : decide (t175 = 0 && (t176 == 9223372036854775808)) = true := by simpa using c17))
           (try (have c17b2 : (t175 == 0 && (t176 == 9223372036854775808)) = true := by simpa using c17))
           clear c17
           replace H := Option.bind_eq_some_iff.mp H
           obtain ⟨t177, A180, H⟩ := H
           replace H : (some (t177 == 1)) = some r := H
           have A18 := Aside0.mk A180
           clear A180
           obtain rfl := Option.some.inj H
           go_enter Try.func10, Try.ntmps10
           go_wp2_with (first | ((with_reducible refine gate_callee (f := 11) rfl ?_); refine goesL_ (some 10) rfl rfl Try.func11 (by kernel_rfl) rfl #[.agg #[.int .u64 0, .int .u64 18446744073709551615], .agg #[.int .u64 0, .int .u64 1]] rfl (by (try simp only [List.map_toArray, List.map_cons, List.map_nil]); first | done | rfl | (simp only [List.length_drop, List.length_take]; rfl)) ?_; (with_reducible refine (addr_Add.calls 0 18446744073709551615 0 1 t158 t159 false _ A1.out).mono ?_); rintro e w19 ⟨rfl, hb⟩; refine ⟨_, rfl, ?_⟩; have n0_ := Aside0.mk (zbP (by repeat (first | (with_reducible first | exact HB.out | apply zbA | apply zbN | apply zb1) | exact HB.out)) hb); clear HB; have HB := n0_; clear n0_; (try clear hb); (try clear hb2); (try clear hk); (try clear hi)) | ((with_reducible refine gate_dst (N := 1) rfl ?_); refine box_event ?hg (N := 1) ?hd (cs := #[.int .u64 0, .int .u64 0]) (t := 24) ?hr ?_; (case hd => rfl); (case hg => rfl); (case hr => first | (go_simp; done) | (go_simp; rfl)); intro gb161 hg w20 hbox hb; have n0_ := Aside0.mk (zbP (by repeat (first | (with_reducible first | exact HB.out | apply zbA | apply zbN | apply zb1) | exact HB.out)) hb); have n1_ := Aside0.mk (hbox); have n2_ := Aside0.mk ((by rw [hg]; exact (zbZ (by repeat (first | (with_reducible first | exact HB.out | apply zbA | apply zbN | apply zb1) | exact HB.out))) : w.heap.size ≤ gb161)); have n3_ := n2_; clear HB; have HB := n0_; have BK161 := n1_; have GW161 := n2_; have GE161 := n3_; clear n0_ n1_ n2_ n3_; clear hb hbox hg; obtain ⟨hcz21_0, hcz21_1, hfz21_0, hfz21_1⟩ := zc2 BK161.out) | ((with_reducible refine gate_callee (f := 14) rfl ?_); refine goesL_ (some 16) rfl rfl Try.func14 (by kernel_rfl) rfl #[.agg #[.int .u64 1, .int .u64 0], .agg #[.int .u64 0, .int .u64 7]] rfl (by (try simp only [List.map_toArray, List.map_cons, List.map_nil]); first | done | rfl | (simp only [List.length_drop, List.length_take]; rfl)) ?_; (with_reducible refine (addr_Mod.calls k 1 0 0 7 t162 t163 true _ A2.out).mono ?_); rintro e w22 ⟨rfl, hb⟩; refine ⟨_, rfl, ?_⟩; have n0_ := Aside0.mk (zkB (g := gb161) (o := .cells #[.int .u64 t158, .int .u64 t159] 24 (0, 0)) (by (with_reducible repeat (first | refine zkN ?_ _ | refine zk1 ?_ | refine zkA ?_ _)); refine zkP (cs := #[.int .u64 t158, .int .u64 0]) ?_ 1 _ rfl; (with_reducible repeat (first | refine zkN ?_ _ | refine zk1 ?_ | refine zkA ?_ _)); refine zkP (cs := #[.int .u64 0, .int .u64 0]) ?_ 0 _ rfl; (with_reducible repeat (first | refine zkN ?_ _ | refine zk1 ?_ | refine zkA ?_ _)); exact BK161.out) hb); have n1_ := Aside0.mk (zbP (by repeat (first | (with_reducible first | exact HB.out | apply zbA | apply zbN | apply zb1 | refine zbS ?_ GE161.out) | exact HB.out)) hb); clear BK161; clear HB; have BK161 := n0_; have HB := n1_; clear n0_ n1_; (try clear hb); (try clear hb2); (try clear hk); (try clear hi)) | ((with_reducible refine gate_dst (N := 3) rfl ?_); refine box_event ?hg (N := 3) ?hd (cs := #[.int .u64 0, .int .u64 0]) (t := 24) ?hr ?_; (case hd => rfl); (case hg => rfl); (case hr => first | (go_simp; done) | (go_simp; rfl)); intro gb165 hg w23 hbox hb; have n0_ := Aside0.mk (zkB (by (with_reducible repeat (first | refine zkN ?_ _ | refine zk1 ?_ | refine zkA ?_ _)); exact BK161.out) hb); have n1_ := Aside0.mk (zbP (by repeat (first | (with_reducible first | exact HB.out | apply zbA | apply zbN | apply zb1 | refine zbS ?_ GE161.out) | exact HB.out)) hb); have n2_ := Aside0.mk (hbox); have n3_ := Aside0.mk ((by rw [hg]; exact (zbZ (by repeat (first | (with_reducible first | exact HB.out | apply zbA | apply zbN | apply zb1 | refine zbS ?_ GE161.out) | exact HB.out))) : w.heap.size ≤ gb165)); have n4_ := n3_; have n5_ := Aside0.mk ((by rw [hg]; exact Nat.ne_of_lt (zkL (by (with_reducible repeat (first | refine zkN ?_ _ | refine zk1 ?_ | refine zkA ?_ _)); exact BK161.out)) : gb161 ≠ gb165)); have n6_ := Aside0.mk (Ne.symm n5_.out); clear BK161; clear HB; have BK161 := n0_; have HB := n1_; have BK165 := n2_; have GW165 := n3_; have GE165 := n4_; have NB161_165 := n5_; have NB165_161 := n6_; clear n0_ n1_ n2_ n3_ n4_ n5_ n6_; clear hb hbox hg; have hnb24 := NB165_161.out; have hnc24 := NB161_165.out; obtain ⟨hcz25_0, hcz25_1, hfz25_0, hfz25_1⟩ := zc2 BK165.out) | ((with_reducible refine gate_callee (f := 17) rfl ?_); refine goesL_ (some 21) rfl rfl Try.func17 (by kernel_rfl) rfl #[.agg #[.int .u64 0, .int .u64 3232235781], .int .i64 120] rfl (by (try simp only [List.map_toArray, List.map_cons, List.map_nil]); first | done | rfl | (simp only [List.length_drop, List.length_take]; rfl)) ?_; (with_reducible refine (addr_Clip.calls k 0 3232235781 120 t166 t167 t168 true _ A3.out).mono ?_); rintro e w26 ⟨rfl, hb⟩; refine ⟨_, rfl, ?_⟩; have n0_ := Aside0.mk (zkB (g := gb161) (o := .cells #[.int .u64 t158, .int .u64 t159] 24 (0, 0)) (by (with_reducible repeat (first | refine zkN ?_ _ | refine zk1 ?_ | refine zkA ?_ _)); refine blk_far ?_ NB161_165.out _; (with_reducible repeat (first | refine zkN ?_ _ | refine zk1 ?_ | refine zkA ?_ _)); refine blk_far ?_ NB161_165.out _; (with_reducible repeat (first | refine zkN ?_ _ | refine zk1 ?_ | refine zkA ?_ _)); exact BK161.out) hb); have n1_ := Aside0.mk (zkB (g := gb165) (o := .cells #[.int .u64 t162, .int .u64 t163] 24 (0, 0)) (by (with_reducible repeat (first | refine zkN ?_ _ | refine zk1 ?_ | refine zkA ?_ _)); refine zkP (cs := #[.int .u64 t162, .int .u64 0]) ?_ 1 _ rfl; (with_reducible repeat (first | refine zkN ?_ _ | refine zk1 ?_ | refine zkA ?_ _)); refine zkP (cs := #[.int .u64 0, .int .u64 0]) ?_ 0 _ rfl; (with_reducible repeat (first | refine zkN ?_ _ | refine zk1 ?_ | refine zkA ?_ _)); exact BK165.out) hb); have n2_ := Aside0.mk (zbP (by repeat (first | (with_reducible first | exact HB.out | apply zbA | apply zbN | apply zb1 | refine zbS ?_ GE161.out | refine zbS ?_ GE165.out) | exact HB.out)) hb); clear BK161; clear BK165; clear HB; have BK161 := n0_; have BK165 := n1_; have HB := n2_; clear n0_ n1_ n2_; (try clear hb); (try clear hb2); (try clear hk); (try clear hi)) | ((with_reducible refine gate_dst (N := 5) rfl ?_); refine box_event ?hg (N := 5) ?hd (cs := #[.int .u64 0, .int .u64 0, .int .i64 0]) (t := 33) ?hr ?_; (case hd => rfl); (case hg => rfl); (case hr => first | (go_simp; done) | (go_simp; rfl)); intro gb170 hg w27 hbox hb; have n0_ := Aside0.mk (zkB (by (with_reducible repeat (first | refine zkN ?_ _ | refine zk1 ?_ | refine zkA ?_ _)); exact BK161.out) hb); have n1_ := Aside0.mk (zkB (by (with_reducible repeat (first | refine zkN ?_ _ | refine zk1 ?_ | refine zkA ?_ _)); exact BK165.out) hb); have n2_ := Aside0.mk (zbP (by repeat (first | (with_reducible first | exact HB.out | apply zbA | apply zbN | apply zb1 | refine zbS ?_ GE161.out | refine zbS ?_ GE165.out) | exact HB.out)) hb); have n3_ := Aside0.mk (hbox); have n4_ := Aside0.mk ((by rw [hg]; exact (zbZ (by repeat (first | (with_reducible first | exact HB.out | apply zbA | apply zbN | apply zb1 | refine zbS ?_ GE161.out | refine zbS ?_ GE165.out) | exact HB.out))) : w.heap.size ≤ gb170)); have n5_ := n4_; have n6_ := Aside0.mk ((by rw [hg]; exact Nat.ne_of_lt (zkL (by (with_reducible repeat (first | refine zkN ?_ _ | refine zk1 ?_ | refine zkA ?_ _)); exact BK161.out)) : gb161 ≠ gb170)); have n7_ := Aside0.mk (Ne.symm n6_.out); have n8_ := Aside0.mk ((by rw [hg]; exact Nat.ne_of_lt (zkL (by (with_reducible repeat (first | refine zkN ?_ _ | refine zk1 ?_ | refine zkA ?_ _)); exact BK165.out)) : gb165 ≠ gb170)); have n9_ := Aside0.mk (Ne.symm n8_.out); clear BK161; clear BK165; clear HB; have BK161 := n0_; have BK165 := n1_; have HB := n2_; have BK170 := n3_; have GW170 := n4_; have GE170 := n5_; have NB161_170 := n6_; have NB170_161 := n7_; have NB165_170 := n8_; have NB170_165 := n9_; clear n0_ n1_ n2_ n3_ n4_ n5_ n6_ n7_ n8_ n9_; clear hb hbox hg; have hnb28 := NB170_161.out; have hnc28 := NB161_170.out; have hnb29 := NB170_165.out; have hnc29 := NB165_170.out; obtain ⟨hcz30_0, hcz30_1, hcz30_2, hfz30_0, hfz30_1, hfz30_2⟩ := zc3 BK170.out; obtain ⟨hcz31_0, hcz31_1, hfz31_0, hfz31_1⟩ := zc2 BK161.out; obtain ⟨hcz32_0, hcz32_1, hfz32_0, hfz32_1⟩ := zc2 BK165.out) | (go_at_call 19; (with_reducible refine (addr_Sound.calls k t166 t167 t168 true _ A10.out).mono ?_); rintro e w33 ⟨rfl, hb⟩; have n0_ := Aside0.mk (zkB (g := gb161) (o := .cells #[.int .u64 t158, .int .u64 t159] 24 (0, 0)) (by (with_reducible repeat (first | refine zkN ?_ _ | refine zk1 ?_ | refine zkA ?_ _)); refine blk_far ?_ NB161_170.out _; (with_reducible repeat (first | refine zkN ?_ _ | refine zk1 ?_ | refine zkA ?_ _)); refine blk_far ?_ NB161_170.out _; (with_reducible repeat (first | refine zkN ?_ _ | refine zk1 ?_ | refine zkA ?_ _)); refine blk_far ?_ NB161_170.out _; (with_reducible repeat (first | refine zkN ?_ _ | refine zk1 ?_ | refine zkA ?_ _)); exact BK161.out) hb); have n1_ := Aside0.mk (zkB (g := gb165) (o := .cells #[.int .u64 t162, .int .u64 t163] 24 (0, 0)) (by (with_reducible repeat (first | refine zkN ?_ _ | refine zk1 ?_ | refine zkA ?_ _)); refine blk_far ?_ NB165_170.out _; (with_reducible repeat (first | refine zkN ?_ _ | refine zk1 ?_ | refine zkA ?_ _)); refine blk_far ?_ NB165_170.out _; (with_reducible repeat (first | refine zkN ?_ _ | refine zk1 ?_ | refine zkA ?_ _)); refine blk_far ?_ NB165_170.out _; (with_reducible repeat (first | refine zkN ?_ _ | refine zk1 ?_ | refine zkA ?_ _)); exact BK165.out) hb); have n2_ := Aside0.mk (zkB (g := gb170) (o := .cells #[.int .u64 t166, .int .u64 t167, .int .i64 t168] 33 (0, 0)) (by (with_reducible repeat (first | refine zkN ?_ _ | refine zk1 ?_ | refine zkA ?_ _)); refine zkP (cs := #[.int .u64 t166, .int .u64 t167, .int .i64 0]) ?_ 2 _ rfl; (with_reducible repeat (first | refine zkN ?_ _ | refine zk1 ?_ | refine zkA ?_ _)); refine zkP (cs := #[.int .u64 t166, .int .u64 0, .int .i64 0]) ?_ 1 _ rfl; (with_reducible repeat (first | refine zkN ?_ _ | refine zk1 ?_ | refine zkA ?_ _)); refine zkP (cs := #[.int .u64 0, .int .u64 0, .int .i64 0]) ?_ 0 _ rfl; (with_reducible repeat (first | refine zkN ?_ _ | refine zk1 ?_ | refine zkA ?_ _)); exact BK170.out) hb); have n3_ := Aside0.mk (zbP (by repeat (first | (with_reducible first | exact HB.out | apply zbA | apply zbN | apply zb1 | refine zbS ?_ GE161.out | refine zbS ?_ GE165.out | refine zbS ?_ GE170.out) | exact HB.out)) hb); clear BK161; clear BK165; clear BK170; clear HB; have BK161 := n0_; have BK165 := n1_; have BK170 := n2_; have HB := n3_; clear n0_ n1_ n2_ n3_; (try clear hb); (try clear hb2); (try clear hk); (try clear hi); obtain ⟨hcz34_0, hcz34_1, hcz34_2, hfz34_0, hfz34_1, hfz34_2⟩ := zc3 BK170.out) | (go_at_call 20; (with_reducible refine (addr_Has.calls k t166 t167 t168 0 3232236031 true _ A12.out).mono ?_); rintro e w35 ⟨rfl, hb⟩; have n0_ := Aside0.mk (zkB (by (with_reducible repeat (first | refine zkN ?_ _ | refine zk1 ?_ | refine zkA ?_ _)); exact BK161.out) hb); have n1_ := Aside0.mk (zkB (by (with_reducible repeat (first | refine zkN ?_ _ | refine zk1 ?_ | refine zkA ?_ _)); exact BK165.out) hb); have n2_ := Aside0.mk (zkB (by (with_reducible repeat (first | refine zkN ?_ _ | refine zk1 ?_ | refine zkA ?_ _)); exact BK170.out) hb); have n3_ := Aside0.mk (zbP (by repeat (first | (with_reducible first | exact HB.out | apply zbA | apply zbN | apply zb1 | refine zbS ?_ GE161.out | refine zbS ?_ GE165.out | refine zbS ?_ GE170.out) | exact HB.out)) hb); clear BK161; clear BK165; clear BK170; clear HB; have BK161 := n0_; have BK165 := n1_; have BK170 := n2_; have HB := n3_; clear n0_ n1_ n2_ n3_; (try clear hb); (try clear hb2); (try clear hk); (try clear hi)) | (go_at_call 15; (with_reducible refine (addr_Up.calls 0 1 64 t173 t174 _ A14.out).mono ?_); rintro e w36 ⟨rfl, hb⟩; have n0_ := Aside0.mk (zkB (by (with_reducible repeat (first | refine zkN ?_ _ | refine zk1 ?_ | refine zkA ?_ _)); exact BK161.out) hb); have n1_ := Aside0.mk (zkB (by (with_reducible repeat (first | refine zkN ?_ _ | refine zk1 ?_ | refine zkA ?_ _)); exact BK165.out) hb); have n2_ := Aside0.mk (zkB (by (with_reducible repeat (first | refine zkN ?_ _ | refine zk1 ?_ | refine zkA ?_ _)); exact BK170.out) hb); have n3_ := Aside0.mk (zbP (by repeat (first | (with_reducible first | exact HB.out | apply zbA | apply zbN | apply zb1 | refine zbS ?_ GE161.out | refine zbS ?_ GE165.out | refine zbS ?_ GE170.out) | exact HB.out)) hb); clear BK161; clear BK165; clear BK170; clear HB; have BK161 := n0_; have BK165 := n1_; have BK170 := n2_; have HB := n3_; clear n0_ n1_ n2_ n3_; (try clear hb); (try clear hb2); (try clear hk); (try clear hi)) | (go_at_call 16; (with_reducible refine (addr_Down.calls 1 0 1 t175 t176 _ A16.out).mono ?_); rintro e w37 ⟨rfl, hb⟩; have n0_ := Aside0.mk (zkB (by (with_reducible repeat (first | refine zkN ?_ _ | refine zk1 ?_ | refine zkA ?_ _)); exact BK161.out) hb); have n1_ := Aside0.mk (zkB (by (with_reducible repeat (first | refine zkN ?_ _ | refine zk1 ?_ | refine zkA ?_ _)); exact BK165.out) hb); have n2_ := Aside0.mk (zkB (by (with_reducible repeat (first | refine zkN ?_ _ | refine zk1 ?_ | refine zkA ?_ _)); exact BK170.out) hb); have n3_ := Aside0.mk (zbP (by repeat (first | (with_reducible first | exact HB.out | apply zbA | apply zbN | apply zb1 | refine zbS ?_ GE161.out | refine zbS ?_ GE165.out | refine zbS ?_ GE170.out) | exact HB.out)) hb); clear BK161; clear BK165; clear BK170; clear HB; have BK161 := n0_; have BK165 := n1_; have BK170 := n2_; have HB := n3_; clear n0_ n1_ n2_ n3_; (try clear hb); (try clear hb2); (try clear hk); (try clear hi); obtain ⟨hcz38_0, hcz38_1, hfz38_0, hfz38_1⟩ := zc2 BK161.out; obtain ⟨hcz39_0, hcz39_1, hfz39_0, hfz39_1⟩ := zc2 BK165.out) | (go_at_call 13; (with_reducible refine (addr_Cmp.calls k t158 t159 t162 t163 t177 _ A18.out).mono ?_); rintro e w40 ⟨rfl, hb⟩; have n0_ := Aside0.mk (zkB (by (with_reducible repeat (first | refine zkN ?_ _ | refine zk1 ?_ | refine zkA ?_ _)); exact BK161.out) hb); have n1_ := Aside0.mk (zkB (by (with_reducible repeat (first | refine zkN ?_ _ | refine zk1 ?_ | refine zkA ?_ _)); exact BK165.out) hb); have n2_ := Aside0.mk (zkB (by (with_reducible repeat (first | refine zkN ?_ _ | refine zk1 ?_ | refine zkA ?_ _)); exact BK170.out) hb); have n3_ := Aside0.mk (zbP (by repeat (first | (with_reducible first | exact HB.out | apply zbA | apply zbN | apply zb1 | refine zbS ?_ GE161.out | refine zbS ?_ GE165.out | refine zbS ?_ GE170.out) | exact HB.out)) hb); clear BK161; clear BK165; clear BK170; clear HB; have BK161 := n0_; have BK165 := n1_; have BK170 := n2_; have HB := n3_; clear n0_ n1_ n2_ n3_; (try clear hb); (try clear hb2); (try clear hk); (try clear hi)))
           go_ret
           exact ⟨by first | rfl | (simp [errW_none, errW_some] <;> rfl) | (simp [*, errW_none, errW_some] <;> rfl), by repeat (first | (with_reducible first | exact HB.out | apply zbA | apply zbN | apply zb1 | refine zbS ?_ GE161.out | refine zbS ?_ GE165.out | refine zbS ?_ GE170.out) | exact HB.out)⟩
          ·rw [if_neg c17] at H
           exact absurd H (by simp)
         ·rw [if_neg c15] at H
          exact absurd H (by simp)
        ·replace c13 := Bool.eq_false_iff.mpr c13
         subst c13
         have H1 : (none) = some r := by rw [if_neg (show ¬ (false = true) by decide)] at H; exact H
         clear H
         have H := H1
         clear H1
         exact absurd H (by simp)
       ·replace c11 := Bool.eq_false_iff.mpr c11
        subst c11
        have H1 : (none) = some r := by rw [if_neg (show ¬ (false = true) by decide)] at H; exact H
        clear H
        have H := H1
        clear H1
        exact absurd H (by simp)
      ·rw [if_neg c9] at H
       exact absurd H (by simp)
     ·replace c8 := Bool.eq_false_iff.mpr c8
      subst c8
      have H1 : (none) = some r := by rw [if_neg (show ¬ (false = true) by decide)] at H; exact H
      clear H
      have H := H1
      clear H1
      exact absurd H (by simp)
    ·replace c7 := Bool.eq_false_iff.mpr c7
     subst c7
     have H1 : (none) = some r := by rw [if_neg (show ¬ (false = true) by decide)] at H; exact H
     clear H
     have H := H1
     clear H1
     exact absurd H (by simp)
   ·rw [if_neg c6] at H
    exact absurd H (by simp)
 ·rw [if_neg c4] at H
  exact absurd H (by simp)

end Go.Proofs.Ytpllddgbfhnghaa.P
