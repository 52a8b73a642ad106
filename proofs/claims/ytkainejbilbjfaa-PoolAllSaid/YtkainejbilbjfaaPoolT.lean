import Derived.Test.YtkainejbilbjfaaPoolP
/-! PoolAll. -/
namespace Go.Ev
set_option linter.unusedVariables false
set_option linter.unusedSimpArgs false
open Go.Ev.Sp

theorem nth_rank : ∀ {s : List (Nat × Nat)} {lo n x : Nat}, Snd 340282366920938463463374607431768211456 lo s → nthL s n = some x → rankL x s = n
  | [], _, _, _, _, h => by simp [nthL] at h
  | q :: s, lo, n, x, hs, h => by
    have h2 := hs.2.1
    unfold nthL at h
    split at h
    · have ih := nth_rank hs.2.2.2 h
      have hx := Snd.ge hs.2.2.2 (nthL_lt hs.2.2.2 h).2
      unfold rankL
      rw [if_neg (by omega), if_neg (by omega), ih]; omega
    · obtain rfl := Option.some.inj h
      have h0 : rankL (q.1 + n) s = 0 := rank_zero hs.2.2.2 (by omega)
      unfold rankL
      split
      · omega
      · rw [if_pos (by omega), h0]; omega
  where
  rank_zero {s : List (Nat × Nat)} {lo a : Nat} (h : Snd 340282366920938463463374607431768211456 lo s) (ha : a ≤ lo) : rankL a s = 0 := by
    cases s with
    | nil => rfl
    | cons q s => unfold rankL; rw [if_pos (by have := h.1; omega)]
theorem countP_split (p q : Nat → Bool) : ∀ l : List Nat, l.countP p = l.countP (fun x => p x && q x) + l.countP (fun x => p x && !q x)
  | [] => rfl
  | x :: l => by
    rw [List.countP_cons, List.countP_cons, List.countP_cons, countP_split p q l]
    cases p x <;> cases q x <;> simp <;> omega
theorem countP_seg (a b : Nat) : ∀ k : Nat, (List.range k).countP (fun x => decide (a ≤ x) && decide (x ≤ b)) = min (b + 1) k - a
  | 0 => by simp
  | k + 1 => by
    rw [List.range_succ, List.countP_append, countP_seg a b k]
    simp only [List.countP_cons, List.countP_nil]
    by_cases h1 : a ≤ k <;> by_cases h2 : k ≤ b <;> simp [h1, h2] <;> omega
theorem inL_cons (q : Nat × Nat) (s : List (Nat × Nat)) (x : Nat) : inL (q :: s) x = ((decide (q.1 ≤ x) && decide (x ≤ q.2)) || inL s x) := rfl
theorem cnt_count {M : Nat} : ∀ {s : List (Nat × Nat)} {lo : Nat}, Snd M lo s → cnt s = (List.range M).countP (inL s)
  | [], _, _ => by
    have : inL [] = fun _ => false := by funext x; rfl
    rw [this]; simp [cnt]
  | q :: s, lo, h => by
    have h2 := h.2.1
    have h3 := h.2.2.1
    rw [cnt_cons, countP_split (inL (q :: s)) (fun x => decide (q.1 ≤ x) && decide (x ≤ q.2)), cnt_count h.2.2.2]
    have e1 : (fun x => inL (q :: s) x && (decide (q.1 ≤ x) && decide (x ≤ q.2))) = fun x => decide (q.1 ≤ x) && decide (x ≤ q.2) := by
      funext x
      rw [inL_cons]
      cases decide (q.1 ≤ x) <;> cases decide (x ≤ q.2) <;> simp
    have e2 : (fun x => inL (q :: s) x && !(decide (q.1 ≤ x) && decide (x ≤ q.2))) = inL s := by
      funext x
      rw [inL_cons]
      cases c : inL s x
      · cases decide (q.1 ≤ x) <;> cases decide (x ≤ q.2) <;> simp
      · have hm := Snd.ge h.2.2.2 ((inL_iff s x).1 c)
        rw [decide_eq_false (show ¬ x ≤ q.2 by omega)]; simp
    rw [e1, e2, countP_seg, Nat.min_eq_left (by omega)]
    omega
theorem inL_less {M : Nat} {s t : List (Nat × Nat)} {lo lo' : Nat} (h : Snd M lo s) (k : Snd M lo' t) (x : Nat) : inL (lessL s t) x = (inL s x && !inL t x) := by
  rw [Bool.eq_iff_iff, inL_iff, lessL_mem x h k, Bool.and_eq_true, inL_iff, Bool.not_eq_true', ← Bool.not_eq_true, inL_iff]
/-- One address less. -/
theorem cnt_one {F : List (Nat × Nat)} (hF : Snd 340282366920938463463374607431768211456 0 F) {g : List Nat} (hg : ∀ a ∈ g, a < 340282366920938463463374607431768211456) {x : Nat} (hxM : x < 340282366920938463463374607431768211456) (hx : mem (lessL F (builtL [] (pts g))) x) :
    cnt (lessL F (builtL [] (pts (g ++ [x])))) + 1 = cnt (lessL F (builtL [] (pts g))) := by
  have hg' : ∀ a ∈ g ++ [x], a < 340282366920938463463374607431768211456 := fun a ha => (List.mem_append.1 ha).elim (hg a) fun h => by simp at h; subst h; exact hxM
  have hP := builtL_snd (set := []) (l := pts g) trivial (pts_wf hg)
  have hP' := builtL_snd (set := []) (l := pts (g ++ [x])) trivial (pts_wf hg')
  have h1 := lessL_snd hF hP
  have h2 := lessL_snd hF hP'
  have key : ∀ y, inL (lessL F (builtL [] (pts (g ++ [x])))) y = (inL (lessL F (builtL [] (pts g))) y && !decide (y = x)) := fun y => by
    rw [inL_less hF hP, inL_less hF hP']
    have e : inL (builtL [] (pts (g ++ [x]))) y = (inL (builtL [] (pts g)) y || decide (y = x)) := by
      rw [Bool.eq_iff_iff, inL_iff, builtL_mem (show Snd 340282366920938463463374607431768211456 0 [] from trivial) (pts_wf hg'), Bool.or_eq_true, inL_iff, builtL_mem (show Snd 340282366920938463463374607431768211456 0 [] from trivial) (pts_wf hg), mem_nil, false_or, false_or, mem_pts, mem_pts, List.mem_append, List.mem_singleton, decide_eq_true_iff]
    rw [e]
    cases inL F y <;> cases inL (builtL [] (pts g)) y <;> simp
  have hin := (inL_iff _ _).2 hx
  rw [cnt_count h2, cnt_count h1, countP_split (inL (lessL F (builtL [] (pts g)))) (fun y => decide (y = x))]
  have e1 : (fun y => inL (lessL F (builtL [] (pts g))) y && decide (y = x)) = fun y => decide (x ≤ y) && decide (y ≤ x) := by
    funext y
    by_cases h : y = x
    · subst h; rw [hin]; simp
    · rw [decide_eq_false h, Bool.and_false]
      by_cases h1 : x ≤ y <;> by_cases h2 : y ≤ x <;> simp [h1, h2]
      omega
  have e2 : (fun y => inL (lessL F (builtL [] (pts g))) y && !decide (y = x)) = inL (lessL F (builtL [] (pts (g ++ [x])))) := by
    funext y; rw [key]
  rw [e1, e2, countP_seg, Nat.min_eq_left (by omega)]
  omega
def allB (G : List (Nat × Nat)) : Bool := decide (0 < G.length ∧ cnt G % 340282366920938463463374607431768211456 = 0)
theorem cV {G : List (Nat × Nat)} (hG : Snd 340282366920938463463374607431768211456 0 G) : cntV G = .tup [aA (cnt G % 340282366920938463463374607431768211456), .bool (allB G)] := by unfold cntV allB; rw [if_pos ((sndB_iff (Snd.toWf hG)).2 hG)]
theorem cnt_pos {G : List (Nat × Nat)} (h : G ≠ []) : 0 < cnt G := by cases G with | nil => exact absurd rfl h | cons q l => rw [cnt_cons]; omega
theorem ext_two {t0 t : St} {B B' : Blk} (h : Ext (t0 ++ [B]) t) : Ext (t0 ++ [B']) (t.set t0.length B') := by
  obtain ⟨r, rfl⟩ := h
  refine ⟨r, ?_⟩
  rw [List.append_assoc, List.append_assoc, List.set_append_right _ _ (Nat.le_refl _), Nat.sub_self]
  rfl
theorem ext_box {t0 t : St} {B : Blk} (h : Ext (t0 ++ [B]) t) : t[t0.length]? = some B := h.get_some (by simp)
theorem ext_l {t0 t : St} {B : Blk} (h : Ext (t0 ++ [B]) t) : Ext t0 t := Ext.trans ⟨_, rfl⟩ h

def allL1 : RC := r_w12_PoolAll.body.snd.snd.snd.snd.snd.snd.fst.snd
def allL2 : RC := r_w12_PoolAll.body.snd.snd.snd.snd.snd.snd.snd.snd.snd.fst.snd

set_option maxHeartbeats 4000000 in
theorem all1 (t : St) (vf : AV) (F : List (Nat × Nat)) (p : Nat) (e : Env) (Q : XE → Env → St → Prop) (hF : Snd 340282366920938463463374607431768211456 0 F) (lF : F.length < 1000000) (hf : Rd 4 cR t vf F) (hp : t[p]? = some (.cells true (cA (cnt F % 340282366920938463463374607431768211456))))
    (g7 : e.get 7 = vf) (g9 : e.get 9 = .ptr p 0) (g10 : e.get 10 = .bool (allB F)) (g11 : e.get 11 = .int .u64 0)
    (hK : ∀ e' t', Ext t t' → e'.get 2 = e.get 2 → e'.get 7 = e.get 7 → e'.get 9 = e.get 9 → e'.get 10 = e.get 10 → Q .nrm e' t') : awp (Run T) allL1 Q e t := by
  obtain ⟨w2, hw2⟩ : ∃ w2, w2 = e.get 2 := ⟨_, rfl⟩
  have wF := Snd.toWf hF
  have oF := (sndB_iff wF).2 hF
  have hcl := cnt_le hF
  simp only [allL1, r_w12_PoolAll, RC.fst, RC.snd, XX, CC, Nat.reduceAdd, Nat.reduceSub, Nat.reduceLeDiff, Nat.reduceLT, Nat.reduceEqDiff, reduceIte, ↓reduceIte, Nat.reduceBEq]
  refine awp_rounds (fun d e1 t' => Ext t t' ∧ ∃ k : Nat, k + d = 200 ∧ e1.get 2 = e.get 2 ∧ e1.get 7 = vf ∧ e1.get 9 = .ptr p 0 ∧ e1.get 10 = .bool (allB F) ∧ e1.get 11 = .int .u64 k) 200 ?_ ?_
  · exact ⟨.refl t, 0, by omega, rfl, g7, g9, g10, g11⟩
  rintro J d e1 t1 hJ ⟨hx, k, hk, h2, h7, h9, h10, h11⟩
  have hp1 := hx.get_some hp
  have lH : ∀ l : St, ldA (t1 ++ l) none (.ptr p 0) = some (.int .u64 (H (cnt F % 340282366920938463463374607431768211456))) := ldA_ext (by rw [ld_own hp1]; rfl)
  have lL : ∀ l : St, ldA (t1 ++ l) none (.ptr p 1) = some (.int .u64 (L (cnt F % 340282366920938463463374607431768211456))) := ldA_ext (by rw [ld_own hp1]; rfl)
  have lH0 := lH []
  have lL0 := lL []
  rw [List.append_nil] at lH0 lL0
  have hf1 := hf.ext hx
  have out : ∀ e', e'.get 2 = e.get 2 → e'.get 7 = vf → e'.get 9 = .ptr p 0 → e'.get 10 = .bool (allB F) → Q .nrm e' t1 := fun e' a b c d => hK e' t1 hx a (b.trans g7.symm) (c.trans g9.symm) (d.trans g10.symm)
  by_cases c1 : k < 200
  · cases c2 : allB F with
    | true =>
      rw [c2] at h10 out
      simp only [XX, CC, Nat.reduceAdd, Nat.reduceSub, Nat.reduceLeDiff, Nat.reduceLT, Nat.reduceEqDiff, reduceIte, ↓reduceIte, Nat.reduceBEq, h7, h9, h10, h11, dec_t (show (k : Int) < 200 by omega), Bool.not_true]
      refine out _ ?_ ?_ ?_ ?_ <;> simp only [XX, CC, Nat.reduceAdd, Nat.reduceSub, Nat.reduceLeDiff, Nat.reduceLT, Nat.reduceEqDiff, reduceIte, ↓reduceIte, Nat.reduceBEq, h2, h7, h9, h10]
    | false =>
      rw [c2] at h10 out hJ
      have hne : F ≠ [] → cnt F < 340282366920938463463374607431768211456 := fun h => by
        have h1 : ¬ (0 < F.length ∧ cnt F % 340282366920938463463374607431768211456 = 0) := by unfold allB at c2; simpa using c2
        have h2 : cnt F ≠ 340282366920938463463374607431768211456 := fun hc => h1 ⟨List.length_pos_iff.2 h, by rw [hc]⟩
        omega
      have hcm : cnt F % 340282366920938463463374607431768211456 = cnt F := by
        by_cases h : F = []
        · rw [h]; rfl
        · exact Nat.mod_eq_of_lt (hne h)
      rw [hcm] at lH lL lH0 lL0
      by_cases c3 : cnt F < 18446744073709551616
      · have hH : H (cnt F) = 0 := by unfold H; omega
        have hL : L (cnt F) = cnt F := by unfold L; omega
        rw [hH] at lH lH0
        rw [hL] at lL lL0
        by_cases c4 : k < cnt F
        · -- a round
          have hFn : F ≠ [] := fun h => by rw [h] at c4; simp [cnt] at c4
          obtain ⟨_, n, x, hpk, hn, hnx, hxM, hxF⟩ := (pick_spec hF k (by omega)).resolve_left fun h => hFn h.1
          rw [Nat.mod_eq_of_lt c4] at hn
          subst hn
          have hrk : (if sndB 0 F = true then rankL x F % 340282366920938463463374607431768211456 else 0) = n := by rw [if_pos oF, nth_rank hF hnx, Nat.mod_eq_of_lt (by omega)]
          have hwn : IntKind.u64.wrap ((n : Int) + 1) = ((n + 1 : Nat) : Int) := by rw [wu64_in (by omega) (by omega)]; omega
          have hsum : IntKind.u64.wrap ((n : Int) + (cnt F : Int)) = (((n + cnt F) % 18446744073709551616 : Nat) : Int) := by rw [wu64]; omega
          have hq : ∀ z : Nat, eqA (.st (.one 0 .i (.one 1 .i .nil))) (aA z) (aA z) = some true := fun z => by rw [eq_A, dec_t rfl]
          have hqn : eqA (.st (.one 0 .i (.one 1 .i .nil))) (aA n) (.agg (cA n)) = some true := hq n
          have k0 := fun (a : Blk) (l : St) => (blkA (t := t1 ++ (.cells true (cA x) :: l)) (b := t1.length) (q := x) (by simp)).1
          have k0' := fun (l : St) => (blkA (t := t1 ++ (.cells true (cA x) :: l)) (b := t1.length) (q := x) (by simp)).1
          have k1 := fun (z : Nat) (a : Blk) (l : St) => (blkA (t := t1 ++ (a :: .cells true (cA z) :: l)) (b := t1.length + 1) (q := z) (by simp)).1
          have again : ∀ e' t', Ext t1 t' → e'.get 2 = e.get 2 → e'.get 7 = vf → e'.get 9 = .ptr p 0 → e'.get 10 = .bool false → e'.get 11 = .int .u64 (n + 1 : Nat) → J e' t' := fun e' t' x a b c f g => hJ (d - 1) e' t' (by omega) ⟨hx.trans x, n + 1, by omega, a, b, c, f, g⟩
          by_cases c5 : n + cnt F < 18446744073709551616
          · obtain ⟨_, n2, x2, hpk2, hn2, hnx2, _, _⟩ := (pick_spec hF (n + cnt F) (by omega)).resolve_left fun h => hFn h.1
            rw [Nat.add_mod_right, Nat.mod_eq_of_lt c4] at hn2
            subst hn2
            rw [hnx] at hnx2
            cases hnx2
            rw [Nat.mod_eq_of_lt c5] at hsum
            simp only [XX, CC, Nat.reduceAdd, Nat.reduceSub, Nat.reduceLeDiff, Nat.reduceLT, Nat.reduceEqDiff, reduceIte, ↓reduceIte, Nat.reduceBEq, h7, h9, h10, h11, dec_t (show (n2 : Int) < 200 by omega), Bool.not_false, lH0, lL0, show ((0 : Int) == 0) = true from rfl, dec_t (show (n2 : Int) < (cnt F : Int) by omega)]
            refine (pick_r _ vf F n2 (by omega) (by omega) wF hf1).use ?_
            rw [hpk]
            simp only [XX, CC, Nat.reduceAdd, Nat.reduceSub, Nat.reduceLeDiff, Nat.reduceLT, Nat.reduceEqDiff, reduceIte, ↓reduceIte, Nat.reduceBEq, h7, h9, h11, lL, hsum]
            refine (pick_r _ vf F (n2 + cnt F) c5 (by omega) wF (hf1.ext ⟨_, rfl⟩)).use ?_
            rw [hpk2]
            simp only [XX, CC, Nat.reduceAdd, Nat.reduceSub, Nat.reduceLeDiff, Nat.reduceLT, Nat.reduceEqDiff, reduceIte, ↓reduceIte, Nat.reduceBEq, Bool.not_true, h7, k0']
            refine (rank_r _ vf F x hxM (by omega) wF (hf1.ext ⟨_, rfl⟩)).use ?_
            rw [hrk]
            simp only [XX, CC, Nat.reduceAdd, Nat.reduceSub, Nat.reduceLeDiff, Nat.reduceLT, Nat.reduceEqDiff, reduceIte, ↓reduceIte, Nat.reduceBEq, h9, h11, cA_small (show n2 < 18446744073709551616 by omega), hqn, Bool.not_true, lL, hsum, dec_t (show ((n2 + cnt F : Nat) : Int) ≥ (cnt F : Int) by omega), k0', k1, hq, hwn]
            refine again _ _ ⟨_, rfl⟩ ?_ ?_ ?_ ?_ ?_ <;> simp only [XX, CC, Nat.reduceAdd, Nat.reduceSub, Nat.reduceLeDiff, Nat.reduceLT, Nat.reduceEqDiff, reduceIte, ↓reduceIte, Nat.reduceBEq, h2, h7, h9, h10]
          · obtain ⟨x2, b2, hpk2⟩ : ∃ (x2 : Nat) (b2 : Bool), pickV F ((n + cnt F) % 18446744073709551616) = .tup [aA x2, .bool b2] := by
              rcases pick_spec hF ((n + cnt F) % 18446744073709551616) (by omega) with ⟨_, h⟩ | ⟨_, _, x2, h, _⟩
              · exact ⟨_, _, h⟩
              · exact ⟨_, _, h⟩
            have hlow : ¬ ((((n + cnt F) % 18446744073709551616 : Nat) : Int) ≥ (cnt F : Int)) := by omega
            have hm64 : (n + cnt F) % 18446744073709551616 < 18446744073709551616 := Nat.mod_lt _ (by decide)
            generalize (n + cnt F) % 18446744073709551616 = z at hsum hpk2 hlow hm64
            simp only [XX, CC, Nat.reduceAdd, Nat.reduceSub, Nat.reduceLeDiff, Nat.reduceLT, Nat.reduceEqDiff, reduceIte, ↓reduceIte, Nat.reduceBEq, h7, h9, h10, h11, dec_t (show (n : Int) < 200 by omega), Bool.not_false, lH0, lL0, show ((0 : Int) == 0) = true from rfl, dec_t (show (n : Int) < (cnt F : Int) by omega)]
            refine (pick_r _ vf F n (by omega) (by omega) wF hf1).use ?_
            rw [hpk]
            simp only [XX, CC, Nat.reduceAdd, Nat.reduceSub, Nat.reduceLeDiff, Nat.reduceLT, Nat.reduceEqDiff, reduceIte, ↓reduceIte, Nat.reduceBEq, h7, h9, h11, lL, hsum]
            refine (pick_r _ vf F z hm64 (by omega) wF (hf1.ext ⟨_, rfl⟩)).use ?_
            rw [hpk2]
            simp only [XX, CC, Nat.reduceAdd, Nat.reduceSub, Nat.reduceLeDiff, Nat.reduceLT, Nat.reduceEqDiff, reduceIte, ↓reduceIte, Nat.reduceBEq, Bool.not_true, h7, k0']
            refine (rank_r _ vf F x hxM (by omega) wF (hf1.ext ⟨_, rfl⟩)).use ?_
            rw [hrk]
            simp only [XX, CC, Nat.reduceAdd, Nat.reduceSub, Nat.reduceLeDiff, Nat.reduceLT, Nat.reduceEqDiff, reduceIte, ↓reduceIte, Nat.reduceBEq, h9, h11, cA_small (show n < 18446744073709551616 by omega), hqn, Bool.not_true, lL, hsum, dec_f hlow, hwn]
            refine again _ _ ⟨_, rfl⟩ ?_ ?_ ?_ ?_ ?_ <;> simp only [XX, CC, Nat.reduceAdd, Nat.reduceSub, Nat.reduceLeDiff, Nat.reduceLT, Nat.reduceEqDiff, reduceIte, ↓reduceIte, Nat.reduceBEq, h2, h7, h9, h10]
        · simp only [XX, CC, Nat.reduceAdd, Nat.reduceSub, Nat.reduceLeDiff, Nat.reduceLT, Nat.reduceEqDiff, reduceIte, ↓reduceIte, Nat.reduceBEq, h7, h9, h10, h11, dec_t (show (k : Int) < 200 by omega), Bool.not_false, lH0, lL0, show ((0 : Int) == 0) = true from rfl, dec_f (show ¬ (k : Int) < (cnt F : Int) by omega)]
          refine out _ ?_ ?_ ?_ ?_ <;> simp only [XX, CC, Nat.reduceAdd, Nat.reduceSub, Nat.reduceLeDiff, Nat.reduceLT, Nat.reduceEqDiff, reduceIte, ↓reduceIte, Nat.reduceBEq, h2, h7, h9, h10]
      · have hH : (H (cnt F) == 0) = false := by
          have : H (cnt F) ≠ 0 := by unfold H; omega
          simpa using this
        simp only [XX, CC, Nat.reduceAdd, Nat.reduceSub, Nat.reduceLeDiff, Nat.reduceLT, Nat.reduceEqDiff, reduceIte, ↓reduceIte, Nat.reduceBEq, h7, h9, h10, h11, dec_t (show (k : Int) < 200 by omega), Bool.not_false, lH0, hH]
        refine out _ ?_ ?_ ?_ ?_ <;> simp only [XX, CC, Nat.reduceAdd, Nat.reduceSub, Nat.reduceLeDiff, Nat.reduceLT, Nat.reduceEqDiff, reduceIte, ↓reduceIte, Nat.reduceBEq, h2, h7, h9, h10]
  · simp only [XX, CC, Nat.reduceAdd, Nat.reduceSub, Nat.reduceLeDiff, Nat.reduceLT, Nat.reduceEqDiff, reduceIte, ↓reduceIte, Nat.reduceBEq, h7, h9, h10, h11, dec_f (show ¬ (k : Int) < 200 by omega)]
    refine out _ ?_ ?_ ?_ ?_ <;> simp only [XX, CC, Nat.reduceAdd, Nat.reduceSub, Nat.reduceLeDiff, Nat.reduceLT, Nat.reduceEqDiff, reduceIte, ↓reduceIte, Nat.reduceBEq, h2, h7, h9, h10]

end Go.Ev
