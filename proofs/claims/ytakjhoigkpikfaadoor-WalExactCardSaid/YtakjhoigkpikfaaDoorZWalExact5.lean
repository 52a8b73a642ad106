import Derived.Test.YtakjhoigkpikfaaDoorZWalExact4
import Derived.Test.YtakjhoigkpikfaaDoorZWalExact3
import Derived.KernelRfl
/-! The iterator over the frames of a string: its contract. -/
namespace Go.Ev
set_option linter.unusedVariables false
set_option linter.unusedSimpArgs false
open Go.Ev.So Go.Proofs

/-- The place holds the string a. -/
def DatAt (lc ld : Nat) (a : ByteArray) (W : World) : Prop := ∃ c t fz, W.heap[lc]? = some (.cells c t fz) ∧ c[ld]? = some (.string a)
def oneM (lc ld z : Nat) : Inj := fun i => if i = 0 then some ⟨lc, ld, z⟩ else none
theorem DatAt.sim {lc ld : Nat} {a : ByteArray} {W : World} (h : DatAt lc ld a W) : ∃ z, Sim (oneM lc ld z) [.cells false [.str a]] W := by
  obtain ⟨c, t, fz, h1, h2⟩ := h
  refine ⟨c.size, ⟨fun i l hi => ?_, fun i j l l' hi hj _ _ => ?_⟩⟩
  · unfold oneM at hi
    split at hi
    · rename_i e; subst e
      cases hi
      refine ⟨_, _, rfl, h1, c, t, fz, rfl, rfl, fun i x hx => ?_, fun h => by cases h⟩
      cases i with
      | zero => cases hx; exact ⟨_, h2, rfl⟩
      | succ i => simp at hx
    · cases hi
  · unfold oneM at hi hj
    split at hi <;> split at hj <;> first | (left; omega) | simp_all
theorem oneM_ro {lc ld z : Nat} {a : ByteArray} : ∀ i l, oneM lc ld z i = some l → ro [.cells false [.str a]] i := by
  intro i l h
  unfold oneM at h
  split at h
  · rename_i e; subst e; exact .inr ⟨_, rfl⟩
  · cases h
theorem DatAt.grown {lc ld : Nat} {a : ByteArray} {W W' : World} (h : DatAt lc ld a W) (hg : W.grownBy W' none) : DatAt lc ld a W' := by
  obtain ⟨c, t, fz, h1, h2⟩ := h
  exact ⟨c, t, fz, (hg.block lc (Array.getElem?_eq_some_iff.1 h1).1 (by simp)).trans h1, h2⟩
theorem ER.nil {m : Inj} {a : Act} : ER m [] a := fun t => by simp [Env.get, VR]
theorem ER.cons {m : Inj} {e : Env} {a : Act} (h : ER m e a) {t : Nat} {v : AV} (hv : VR m v (a.tmps.getD t undef)) : ER m (e.put t v) a := fun j => by
  rw [Env.get_put]
  split
  · rename_i e; rw [e]; exact hv
  · exact h j
theorem put_get {a : Act} {t j : Nat} {u : Value} (ht : t < a.tmps.size) : (a.put (some t) u).tmps.getD j undef = if j = t then u else a.tmps.getD j undef := by
  simp only [Act.put, Array.getD_eq_getD_getElem?]
  split
  · rename_i e; subst e; simp [ht]
  · rename_i e; rw [Array.getElem?_setIfInBounds_ne (fun h => e h.symm)]
/-- One guarded operation, in a round. -/
theorem one_in' {P : Program} {r : Option Nat} {n : Nat} {ops : Array Oper} {Q : Exit → Act → World → Prop} {i : Nat} {l : List Nat} {o : Oper} (ho : ops[i]? = some o) {a : Act} (hw : Region.wanted o (yielded ops a.tmps) = true) (hdef : ∀ c, o.op ≠ .defer c) {w w' : World} {u : Value} (h : (execOp a.eval o).run P w = .ok (.value u) w') (hk : wpOpsIn (wd r) n P ops Q l (a.put o.dst u) w') :
    wpOpsIn (wd r) n P ops Q (i :: l) a w := by
  simp only [wpOpsIn, ho, hw, if_true]
  exact op_in hdef (wp_value h hk)
theorem in_cons {P : Program} {F : Fence} {n : Nat} {ops : Array Oper} {Q : Exit → Act → World → Prop} {i : Nat} {l : List Nat} {o : Oper} (ho : ops[i]? = some o) {a : Act} (hw : Region.wanted o (yielded ops a.tmps) = true) {w : World} (h : o.wpIn F n P a w (wpOpsIn F n P ops Q l) Q) :
    wpOpsIn F n P ops Q (i :: l) a w := by
  simp only [wpOpsIn, ho, hw, if_true]
  exact h
theorem fr_res : Tryd.f60.results = #[] := by kernel_rfl
theorem fr_nt : Tryd.f60.ntmps = 62 := by kernel_rfl
theorem fr_mv : (cops frR5)[9]? = some (copN frR5 9) ∧ (copN frR5 9).op = Op.move (.tmp 0) ∧ (copN frR5 9).dst = some 52 ∧ compG (cops frR5) (copN frR5 9) = some (some (51, false)) ∧
    (cops frR5)[10]? = some (copN frR5 10) ∧ (copN frR5 10).op = Op.move (.tmp 8) ∧ (copN frR5 10).dst = some 53 ∧ compG (cops frR5) (copN frR5 10) = some (some (51, false)) := ⟨by kernel_rfl, by kernel_rfl, by kernel_rfl, by kernel_rfl, by kernel_rfl, by kernel_rfl, by kernel_rfl, by kernel_rfl⟩

/-- Where the iterator's loop stands. -/
structure FrI (a : ByteArray) (l lc ld : Nat) (J : List ByteArray → World → Prop) (p d : Nat) (pre : List ByteArray) (act : Act) (w : World) : Prop where
  le : p ≤ a.size
  fuel : a.size + 1 ≤ p + d
  few : pre.length ≤ p
  rest : pre ++ (scanG a d p).1 = (scanV a).1
  J : J pre w
  dat : DatAt lc ld a w
  size : act.tmps.size = 62
  defers : act.defers = []
  t0 : act.tmps.getD 0 undef = .func (.yield l) #[] #[]
  t1 : act.tmps.getD 1 undef = .pointer (some ⟨lc, ld, none⟩)
  t3 : act.tmps.getD 3 undef = .int .i64 p
def frM (a : ByteArray) (act : Act) (_ : World) : Nat := match act.tmps.getD 3 undef with
  | .int _ i => a.size - i.toNat
  | _ => 0
def frE (p : Nat) : Env := (Env.put (Env.put [] 1 (.ptr 0 0)) 3 (.int .i64 p))
theorem frE_1 (p : Nat) : (frE p).get 1 = .ptr 0 0 := rfl
theorem frE_3 (p : Nat) : (frE p).get 3 = .int .i64 p := rfl
section
variable {a : ByteArray} {l lc ld : Nat} {J Jx : List ByteArray → World → Prop} {p d : Nat} {pre : List ByteArray} {act : Act} {w : World}
theorem FrI.rel (I : FrI a l lc ld J p d pre act w) : ∃ z, Rel [] (oneM lc ld z) [.cells false [.str a]] w 62 (frE p) [.cells false [.str a]] act w := by
  obtain ⟨z, hS⟩ := I.dat.sim
  exact ⟨z, oneM lc ld z, hS, ER.cons (ER.cons ER.nil (by rw [I.t1]; exact ⟨_, rfl, rfl⟩)) (by rw [I.t3]; rfl), Goes.refl _ _ _, I.size, I.defers⟩

theorem recV_of {g : Nat} {o : Bool} {g' : Nat} {o' : Bool} {x : ByteArray} {o2 : Bool} (h1 : o = true → ∃ b, cutV a p 4 = some b ∧ g = getB b.toList) (h1' : o = false → cutV a p 4 = none) (h2 : o' = true → ∃ b, cutV a (p + 4 : Nat) 4 = some b ∧ g' = getB b.toList) (h2' : o' = false → cutV a (p + 4 : Nat) 4 = none)
    (h3 : o2 = true → cutV a (p + 8 : Nat) g = some x) (h3' : o2 = false → cutV a (p + 8 : Nat) g = none) : recV a p = if (o && o' && decide (1 ≤ (g : Int) ∧ (g : Int) ≤ 65536)) = true then (if o2 = true ∧ crcV x = g' then some x else none) else none := by
  unfold recV
  cases o with
  | false => rw [h1' rfl]; rfl
  | true =>
    obtain ⟨b, hb, rfl⟩ := h1 rfl
    cases o' with
    | false => rw [hb, h2' rfl]; rfl
    | true =>
      obtain ⟨b', hb', rfl⟩ := h2 rfl
      rw [hb, hb']
      simp only [Bool.true_and, decide_eq_true_eq]
      by_cases c : 1 ≤ getB b.toList ∧ getB b.toList ≤ 65536
      · rw [if_pos c, if_pos (by omega)]
        cases o2 with
        | false => rw [h3' rfl]; simp
        | true => rw [h3 rfl]; simp
      · rw [if_neg c, if_neg (by omega)]

set_option maxHeartbeats 4000000 in
theorem frames1_in (n : Nat) (a : ByteArray) (ha : a.size < 1000000000) (l lc ld : Nat) (J Jx : List ByteArray → World → Prop) (B : Nat) (hJ : AbidesFrom B J) (hJx : AbidesFrom B Jx)
    (hY : ∀ pre x W, J pre W → pre.length < a.size + 1 → YieldAt (wd none) (n - 1) Tryd.prog l #[.string x] W fun e W' =>
      (e = .returned (.bool true) ∧ J (pre ++ [x]) W' ∧ (DatAt lc ld a W → DatAt lc ld a W')) ∨ (e = .returned (.bool false) ∧ Jx (pre ++ [x]) W')) (W : World) (hd : DatAt lc ld a W) (h0 : J [] W) :
    CallsIn (wd none) n Tryd.prog f_wal_frames_1 #[.func (.yield l) #[] #[], .pointer (some ⟨lc, ld, none⟩)] W fun e W' => (∃ v, e = .returned v) ∧ ((∃ xs, xs = (scanV a).1 ∧ J xs W') ∨ (∃ pre, True ∧ Jx pre W')) := by
  refine callsIn_of_wp Tryd.func60 fr_body trivial ?_ rfl
  obtain ⟨z0, hS0⟩ := hd.sim
  -- the end of the loop
  have fin : ∀ (act : Act) (w2 w3 : World) (pre : List ByteArray) (Jy : List ByteArray → World → Prop), act.defers = [] → AbidesFrom B Jy → w2.grownBy w3 none → Jy pre w2 → ((∃ xs, xs = (scanV a).1 ∧ J xs w3) ∨ (∃ pre, True ∧ Jx pre w3)) →
      bodyPost Tryd.prog Tryd.f60 (fun e W' => (∃ v, e = .returned v) ∧ ((∃ xs, xs = (scanV a).1 ∧ J xs W') ∨ (∃ pre, True ∧ Jx pre W'))) .ret act w3 := by
    intro act w2 w3 pre Jy hdf _ _ _ h
    exact ⟨hdf, .tuple #[], by simp [results, fr_res], ⟨_, rfl⟩, h⟩
  have R0 : Rel [] (oneM lc ld z0) [.cells false [.str a]] W 62 [.undef, .ptr 0 0] [.cells false [.str a]] { tmps := #[.func (.yield l) #[] #[], .pointer (some ⟨lc, ld, none⟩)] ++ Array.replicate (62 - 2) undef, defers := [] } W :=
    rel_start (args := [.undef, .ptr 0 0]) hS0 (vs := #[.func (.yield l) #[] #[], .pointer (some ⟨lc, ld, none⟩)]) ⟨_, _, rfl, trivial, _, _, rfl, ⟨_, rfl, rfl⟩, rfl⟩ (by simp)
  rw [fr_nt]
  refine wpIn_seq (wpIn_region ?_)
  rw [fr_n.1]
  rw [show List.range 1 = List.range' 0 1 ++ [] from rfl]
  refine reg_in sound0 exok (p := 0) (pv := .func (.yield l) #[] #[]) ?_ (List.range' 0 1) ((fq0.drop 0).take 1) (by kernel_rfl) (hc_of fr_c0 0 1) (by kernel_rfl) _ _ _ _ R0 ?_ (fr_0 _ _ rfl)
  rotate_left
  · simp
  rintro e1 s1 a1 w1 ⟨rfl, g1, g3⟩ ⟨m1, hS1, hR1, hG1, hN1, hD1⟩ hp1
  have hgr := goes_grown hG1 oneM_ro
  have t1 := hR1 1
  rw [g1] at t1
  obtain ⟨l1, hl1, hv1⟩ := t1
  have hl1' := hG1.le 0 _ (show oneM lc ld z0 0 = some ⟨lc, ld, z0⟩ from rfl)
  rw [hl1'] at hl1
  cases hl1
  have t3 := hR1 3
  rw [g3] at t3
  refine wpIn_block (wpIn_loop (fun act w => ∃ p d pre, FrI a l lc ld J p d pre act w) (frM a) ?_ ?_)
  · exact ⟨0, a.size + 1, [], Nat.zero_le _, by omega, by simp, rfl, hJ _ _ _ none h0 hgr (by simp), hd.grown hgr, hN1, hD1, hp1, hv1, t3⟩
  clear hgr hv1 t3 hl1' hG1 hR1 hS1 hN1 hD1 hp1 g1 g3 R0 hS0 h0 hd
  rintro act w ⟨p, d, pre, I⟩
  have hpl := I.le
  obtain ⟨gv1, o1, q1, q1t, q1f, q1l⟩ := get32_val a (p : Int)
  obtain ⟨gv2, o2, q2, q2t, q2f, q2l⟩ := get32_val a ((p + 4 : Nat) : Int)
  obtain ⟨x, o3, q3, q3t, q3f⟩ := cut_val a ((p + 8 : Nat) : Int) gv1
  have hrec := recV_of q1t q1f q2t q2f q3t q3f
  obtain ⟨z, R⟩ := I.rel
  have hs : ldA [Blk.cells false [.str a]] none (.ptr 0 0) = some (.str a) := rfl
  have stop : ∀ {m' : Inj} {s' : St} {w' : World} {act' : Act} {Q : Exit → Act → World → Prop}, Goes (oneM lc ld z) [.cells false [.str a]] w m' s' w' → act'.defers = [] → recV a p = none →
      bodyPost Tryd.prog Tryd.f60 (fun e W' => (∃ v, e = .returned v) ∧ ((∃ xs, xs = (scanV a).1 ∧ J xs W') ∨ (∃ pre, True ∧ Jx pre W'))) .ret act' w' := by
    intro m' s' w' act' Q hG hD hn
    have hgr := goes_grown hG oneM_ro
    have hJ' := hJ pre w w' none I.J hgr (by simp)
    have hr := I.rest
    rw [scanG_none hn, List.append_nil] at hr
    exact fin act' w w' pre J hD hJ hgr I.J (.inl ⟨pre, hr, hJ'⟩)
  refine wpIn_block (wpIn_seq (wpIn_region ?_))
  rw [fr_n.2.1]
  rw [show List.range 8 = List.range' 0 8 ++ [] from rfl]
  refine reg_in sound0 exok (p := 0) (pv := .func (.yield l) #[] #[]) ?_ (List.range' 0 8) ((fq1.drop 0).take 8) (by kernel_rfl) (hc_of fr_c1 0 8) (by kernel_rfl) _ _ _ _ R I.t0 (fr_1 _ _ a p gv1 o1 ha (by omega) (frE_1 p) (frE_3 p) hs q1)
  rintro e1 s1 a1 w1 ⟨rfl, b1, b3, b4, b5⟩ R1 hp1
  refine wpIn_seq (wpIn_region ?_)
  rw [fr_n.2.2.1]
  rw [show List.range 9 = List.range' 0 9 ++ [] from rfl]
  refine reg_in sound0 exok (p := 0) (pv := .func (.yield l) #[] #[]) ?_ (List.range' 0 9) ((fq2.drop 0).take 9) (by kernel_rfl) (hc_of fr_c2 0 9) (by kernel_rfl) _ _ _ _ R1 hp1 (fr_2 _ _ a p gv1 gv2 o1 o2 ha (by omega) b1 b3 b4 b5 hs q2)
  clear R1 hp1 b1 b3 b4 b5
  rintro e2 s2 a2 w2 ⟨rfl, b1, b3, b4, b5, b6, b7⟩ R2 hp2
  refine wpIn_seq (wpIn_seq (wpIn_region ?_))
  rw [fr_n.2.2.2.1]
  rw [show List.range 12 = List.range' 0 12 ++ [] from rfl]
  refine reg_in sound0 exok (p := 0) (pv := .func (.yield l) #[] #[]) ?_ (List.range' 0 12) ((fq3.drop 0).take 12) (by kernel_rfl) (hc_of fr_c3 0 12) (by kernel_rfl) _ _ _ _ R2 hp2 (fr_3 _ _ a p gv1 gv2 o1 o2 q1l b1 b3 b4 b5 b6 b7)
  clear R2 hp2 b1 b3 b4 b5 b6 b7
  rintro e3 s3 a3 w3 ⟨rfl, b1, b3, b4, b5, b6, b7, b33⟩ R3 hp3
  obtain ⟨m3, hS3, hR3, hG3, hN3, hD3⟩ := id R3
  by_cases c : (o1 && o2 && decide (1 ≤ (gv1 : Int) ∧ (gv1 : Int) ≤ 65536)) = true
  rotate_left
  · rw [if_neg c] at hrec
    have c' : (o1 && o2 && decide (1 ≤ (gv1 : Int) ∧ (gv1 : Int) ≤ 65536)) = false := by simpa using c
    rw [c'] at b33
    refine wpIn_cond_true (eval_of hR3 b33) (wpIn_ret ?_)
    exact stop (Q := fun _ _ _ => True) hG3 hD3 hrec
  rw [if_pos c] at hrec
  rw [c] at b33
  refine wpIn_cond_false (eval_of hR3 b33) (wpIn_skip ?_)
  refine wpIn_seq (wpIn_region ?_)
  rw [fr_n.2.2.2.2.1]
  rw [show List.range 11 = List.range' 0 11 ++ [] from rfl]
  refine reg_in sound0 exok (p := 0) (pv := .func (.yield l) #[] #[]) ?_ (List.range' 0 11) ((fq4.drop 0).take 11) (by kernel_rfl) (hc_of fr_c4 0 11) (by kernel_rfl) _ _ _ _ R3 hp3 (fr_4 _ _ a x p gv1 gv2 o3 ha (by omega) q1l b1 b3 b4 b6 hs q3)
  clear R3 hp3 b1 b3 b4 b5 b6 b7 b33 hR3 hG3 hN3 hD3 hS3
  rintro e4 s4 a4 w4 ⟨rfl, b1, b3, b5, b6, b8⟩ R4 hp4
  have hx : o3 = true → x.size < 1000000000 := fun h => by have := (cutV_room (q3t h)).1; have := (cutV_room (q3t h)).2; omega
  refine wpIn_seq (wpIn_seq (wpIn_region ?_))
  rw [fr_n.2.2.2.2.2.1]
  by_cases c5 : o3 = true ∧ crcV x = gv2
  rotate_left
  · rw [if_neg c5] at hrec
    rw [show List.range 14 = List.range' 0 14 ++ [] from rfl]
    refine reg_in sound0 exok (p := 0) (pv := .func (.yield l) #[] #[]) ?_ (List.range' 0 14) ((fq5.drop 0).take 14) (by kernel_rfl) (hc_of fr_c5 0 14) (by kernel_rfl) _ _ _ _ R4 hp4 (fr_5n _ _ x p gv2 o3 hx b1 b3 b5 b6 b8 (fun h h' => c5 ⟨h, h'⟩))
    rintro e5 s5 a5 w5 ⟨rfl, b56⟩ ⟨m5, hS5, hR5, hG5, hN5, hD5⟩ hp5
    refine wpIn_cond_true (eval_of hR5 b56) (wpIn_ret ?_)
    exact stop (Q := fun _ _ _ => True) hG5 hD5 hrec
  rw [if_pos c5] at hrec
  obtain ⟨c5, c6⟩ := c5
  subst c5
  rw [show List.range 14 = List.range' 0 9 ++ [9, 10, 11, 12, 13] from rfl]
  refine reg_in sound0 exok (p := 0) (pv := .func (.yield l) #[] #[]) ?_ (List.range' 0 9) ((fq5.drop 0).take 9) (by kernel_rfl) (hc_of fr_c5 0 9) (by kernel_rfl) _ _ _ _ R4 hp4 (fr_5y _ _ x p gv2 (hx rfl) b1 b3 b5 b6 b8 c6)
  clear R4 hp4 b1 b3 b5 b6 b8
  rintro e5 s5 a5 w5 ⟨rfl, b1, b3, b8, b51⟩ ⟨m5, hS5, hR5, hG5, hN5, hD5⟩ hp5
  have hgr := goes_grown hG5 oneM_ro
  have hJ5 := hJ pre w w5 none I.J hgr (by simp)
  have hd5 := I.dat.grown hgr
  obtain ⟨hroom, hx1⟩ := recV_room hrec
  have t1 := hR5 1
  rw [b1] at t1
  obtain ⟨l1, hl1, hv1⟩ := t1
  have hl1' := hG5.le 0 _ (show oneM lc ld z 0 = some ⟨lc, ld, z⟩ from rfl)
  rw [hl1'] at hl1
  cases hl1
  have t3 := hR5 3
  rw [b3] at t3
  have t8 := hR5 8
  rw [b8] at t8
  have t51 := hR5 51
  have w51 : ∀ (y : Act), y.tmps.getD 51 undef = .bool false → ∀ o : Oper, compG (cops frR5) o = some (some (51, false)) → Region.wanted o (yielded (cops frR5) y.tmps) = true := fun y hy o ho =>
    guard_run (m := m5) (v := AV.bool false) ho (by rw [hy]; rfl) rfl
  rw [b51] at t51
  -- the function value, the record
  refine one_in' fr_mv.1 (w51 a5 t51 _ fr_mv.2.2.2.1) (by rw [fr_mv.2.1]; simp) (u := .func (.yield l) #[] #[]) (w' := w5) (by simp [execOp, fr_mv.2.1, Act.eval, hp5]) ?_
  rw [fr_mv.2.2.1]
  have k52 : ∀ j, (a5.put (some 52) (.func (.yield l) #[] #[])).tmps.getD j undef = if j = 52 then .func (.yield l) #[] #[] else a5.tmps.getD j undef := fun j => put_get (by rw [hN5]; decide)
  generalize ha6 : a5.put (some 52) (.func (.yield l) #[] #[]) = a6 at *
  have hN6 : a6.tmps.size = 62 := by rw [← ha6, put_size]; exact hN5
  have hD6 : a6.defers = [] := by rw [← ha6, put_defers]; exact hD5
  refine one_in' fr_mv.2.2.2.2.1 (w51 a6 (by rw [k52, if_neg (by decide)]; exact t51) _ fr_mv.2.2.2.2.2.2.2) (by rw [fr_mv.2.2.2.2.2.1]; simp) (u := .string x) (w' := w5) (by simp only [execOp, fr_mv.2.2.2.2.2.1, Act.eval, k52]; rw [if_neg (by decide), t8]; rfl) ?_
  rw [fr_mv.2.2.2.2.2.2.1]
  have k53 : ∀ j, (a6.put (some 53) (.string x)).tmps.getD j undef = if j = 53 then .string x else a6.tmps.getD j undef := fun j => put_get (by rw [hN6]; decide)
  generalize ha7 : a6.put (some 53) (.string x) = a7 at *
  have hN7 : a7.tmps.size = 62 := by rw [← ha7, put_size]; exact hN6
  have hD7 : a7.defers = [] := by rw [← ha7, put_defers]; exact hD6
  have v52 : a7.tmps.getD 52 undef = .func (.yield l) #[] #[] := by rw [k53, if_neg (by decide), k52, if_pos rfl]
  have v53 : a7.tmps.getD 53 undef = .string x := by rw [k53, if_pos rfl]
  have v51 : a7.tmps.getD 51 undef = .bool false := by rw [k53, if_neg (by decide), k52, if_neg (by decide)]; exact t51
  have vo : ∀ j, j ≠ 52 → j ≠ 53 → a7.tmps.getD j undef = a5.tmps.getD j undef := fun j h1 h2 => by rw [k53, if_neg h2, k52, if_neg h1]
  -- yield
  obtain ⟨fn, tmps, assign, body, hy, hR⟩ := hY pre x w5 hJ5 (by have := I.few; omega)
  have hwy := w51 a7 v51 _ fr_yield.2.2.2
  refine in_cons fr_yield.1 hwy ⟨fun _ _ => trivial, ?_⟩
  have hrun : ((copN frR5 11).semAt (wd none).round a7.eval).run Tryd.prog w5 = .ok (.round l fn tmps assign body) w5 := by
    have e52 : a7.eval (.tmp 52) = .func (.yield l) #[] #[] := v52
    have e53 : a7.eval (.tmp 53) = .string x := v53
    show (execOp a7.eval (copN frR5 11)).run _ _ = _
    simp only [execOp, fr_yield.2.1, resolve, e52, Deferred.ofValue, invoke, Sem.run_bind, Sem.run_pure, Result.andThen_ok, List.map_toArray, List.map_cons, List.map_nil, e53]
    simpa using hy
  rw [hrun]
  refine ⟨fun h => (by cases h), hR.mono ?_⟩
  rw [fr_yield.2.2.1]
  have k54 : ∀ b : Bool, ∀ j, (a7.put (some 54) (.bool b)).tmps.getD j undef = if j = 54 then .bool b else a7.tmps.getD j undef := fun b j => put_get (by rw [hN7]; decide)
  have go : ∀ (b : Bool) (w8 : World), DatAt lc ld a w8 → ∃ z8, Rel [] (oneM lc ld z8) [.cells false [.str a]] w8 62 (((((Env.put [] 1 (.ptr 0 0)).put 3 (.int .i64 p)).put 8 (.str x)).put 51 (.bool false)).put 54 (.bool b)) [.cells false [.str a]] (a7.put (some 54) (.bool b)) w8 := by
    intro b w8 hd8
    obtain ⟨z8, hS8⟩ := hd8.sim
    refine ⟨z8, _, hS8, ER.cons (ER.cons (ER.cons (ER.cons (ER.cons ER.nil ?_) ?_) ?_) ?_) ?_, Goes.refl _ _ _, by rw [put_size]; exact hN7, by rw [put_defers]; exact hD7⟩
    · rw [k54, if_neg (by decide), vo 1 (by decide) (by decide), hv1]; exact ⟨_, rfl, rfl⟩
    · rw [k54, if_neg (by decide), vo 3 (by decide) (by decide)]; exact t3
    · rw [k54, if_neg (by decide), vo 8 (by decide) (by decide)]; exact t8
    · rw [k54, if_neg (by decide)]; exact v51
    · rw [k54, if_pos rfl]; rfl
  have tail : ∀ (m8 : Inj) (s8 : St) (b : Bool) (w8 : World) (e8 : Env) (Q : Exit → Act → World → Prop), Rel [] m8 s8 w8 62 e8 s8 (a7.put (some 54) (.bool b)) w8 → e8.get 51 = .bool false → e8.get 54 = .bool b →
      (∀ (e9 : Env) (a9 : Act) (w9 : World), Rel [] m8 s8 w8 62 e9 s8 a9 w9 → a9.tmps.getD 0 undef = .func (.yield l) #[] #[] → e9.get 1 = e8.get 1 → e9.get 3 = e8.get 3 → e9.get 8 = e8.get 8 → e9.get 56 = .bool (!b) → Q .normal a9 w9) →
      wpOpsIn (wd none) n Tryd.prog (cops frR5) Q [12, 13] (a7.put (some 54) (.bool b)) w8 := by
    intro m8 s8 b w8 e8 Q R8 h51 h54 hK
    rw [show [12, 13] = List.range' 12 2 ++ [] from rfl]
    refine reg_in sound0 exok (p := 0) (pv := .func (.yield l) #[] #[]) ?_ (List.range' 12 2) ((fq5.drop 12).take 2) (by kernel_rfl) (hc_of fr_c5 12 2) (by kernel_rfl) _ _ _ _ R8 (by rw [k54, if_neg (by decide), vo 0 (by decide) (by decide)]; exact hp5) (fr_5z _ _ b h51 h54)
    rintro e9 s9 a9 w9 ⟨rfl, b1, b3, b8, b56⟩ R9 hp9
    exact hK e9 a9 w9 R9 hp9 b1 b3 b8 b56
  rintro e w8 (⟨rfl, hJ8, hd8⟩ | ⟨rfl, hJx8⟩)
  · obtain ⟨z8, R8⟩ := go true w8 (hd8 hd5)
    refine tail _ _ true w8 _ _ R8 rfl rfl fun e9 a9 w9 R9 hp9 b1 b3 b8 b56 => ?_
    have hR9 : ∃ m9, ER m9 e9 a9 := by obtain ⟨m9, _, h, _⟩ := R9; exact ⟨m9, h⟩
    obtain ⟨m9, hR9⟩ := hR9
    refine wpIn_cond_false (eval_of hR9 b56) (wpIn_skip (wpIn_region ?_))
    rw [fr_n.2.2.2.2.2.2]
    rw [show List.range 6 = List.range' 0 6 ++ [] from rfl]
    refine reg_in sound0 exok (p := 0) (pv := .func (.yield l) #[] #[]) ?_ (List.range' 0 6) ((fq6.drop 0).take 6) (by kernel_rfl) (hc_of fr_c6 0 6) (by kernel_rfl) _ _ _ _ R9 hp9 (fr_6 _ _ x p (by omega) b1 b3 b8)
    rintro e10 s10 a10 w10 ⟨rfl, c1, c3⟩ ⟨m10, hS10, hR10, hG10, hN10, hD10⟩ hp10
    have hgr8 := goes_grown hG10 oneM_ro
    have u1 := hR10 1
    rw [c1] at u1
    obtain ⟨l2, hl2, hv2⟩ := u1
    have hl2' := hG10.le 0 _ (show oneM lc ld z8 0 = some ⟨lc, ld, z8⟩ from rfl)
    rw [hl2'] at hl2
    cases hl2
    have u3 := hR10 3
    rw [c3] at u3
    have u3' : a10.tmps.getD 3 undef = .int .i64 (p + 8 + x.size : Nat) := u3
    have hI3 := I.t3
    obtain ⟨d', rfl⟩ : ∃ d', d = d' + 1 := ⟨d - 1, by have := I.fuel; omega⟩
    have hrest := I.rest
    rw [scanG_some hrec] at hrest
    refine ⟨⟨p + 8 + x.size, d', pre ++ [x], by omega, by have := I.fuel; omega, by have := I.few; simp; omega, by rw [List.append_assoc]; exact hrest, hJ _ _ _ none hJ8 hgr8 (by simp), (hd8 hd5).grown hgr8, hN10, hD10, hp10, hv2, u3⟩, ?_⟩
    unfold frM
    rw [u3', hI3]
    simp only [Int.toNat_natCast]
    omega
  · have R8 : Rel [] (fun _ => none) [] w8 62 ((Env.put [] 51 (.bool false)).put 54 (.bool false)) [] (a7.put (some 54) (.bool false)) w8 :=
      ⟨_, (start_nil w8).sim, ER.cons (ER.cons ER.nil (by rw [k54, if_neg (by decide)]; exact v51)) (by rw [k54, if_pos rfl]; rfl), Goes.refl _ _ _, by rw [put_size]; exact hN7, by rw [put_defers]; exact hD7⟩
    refine tail _ _ false w8 _ _ R8 rfl rfl fun e9 a9 w9 R9 hp9 b1 b3 b8 b56 => ?_
    obtain ⟨m9, hS9, hR9, hG9, hN9, hD9⟩ := R9
    have hgr9 := goes_grown hG9 (fun i l h => by cases h)
    refine wpIn_cond_true (eval_of hR9 b56) (wpIn_ret ?_)
    exact fin a9 w8 w9 (pre ++ [x]) Jx hD9 hJx hgr9 hJx8 (.inr ⟨pre ++ [x], trivial, hJx _ _ _ none hJx8 hgr9 (by simp)⟩)
end
end Go.Ev

/-! Slices: cut, kept, written. -/
namespace Go.Ev
set_option linter.unusedVariables false
set_option linter.unusedSimpArgs false

/-- A write into a block that was there before. -/
theorem st_in {t : St} {b n o : Nat} {cs vs : List AV} (h : t[b]? = some (.cells true cs)) (hv : vs.length = n) (hc : vs.all AV.cell = true) (ho : o + n ≤ cs.length) (l : St) :
    stA (t ++ l) (some n) (.ptr b o) (.agg vs) = some (t.set b (.cells true (setL cs o vs)) ++ l) := by
  have hb := (List.getElem?_eq_some_iff.1 h).1
  rw [st_agg hv, wr_own (by rw [List.getElem?_append_left hb]; exact h), if_pos ⟨by omega, hc⟩, List.set_append_left _ _ hb]
theorem st_in0 {t : St} {b n o : Nat} {cs vs : List AV} (h : t[b]? = some (.cells true cs)) (hv : vs.length = n) (hc : vs.all AV.cell = true) (ho : o + n ≤ cs.length) :
    stA t (some n) (.ptr b o) (.agg vs) = some (t.set b (.cells true (setL cs o vs))) := by
  have := st_in h hv hc ho []
  simpa using this

section
variable {α : Type} {e : Nat} {enc : α → List AV} {s : St} {v : AV} {l : List α}
theorem flat_first (he : ∀ x, (enc x).length = e) : ∀ (l : List α) (n : Nat), (l.take n).flatMap enc = (l.flatMap enc).take (n * e)
  | l, 0 => by simp
  | [], n + 1 => by simp
  | x :: l, n + 1 => by
    rw [List.take_succ_cons, List.flatMap_cons, List.flatMap_cons, flat_first he l n, Nat.succ_mul, Nat.add_comm, ← he x, List.take_append, List.take_of_length_le (Nat.le_add_right _ _)]
    congr 1; rw [Nat.add_sub_cancel_left]
/-- The first n of a slice. -/
theorem rd_take {n : Nat} (h : Rd e enc s v l) (he : ∀ x, (enc x).length = e) (hn : n ≤ l.length) : ∃ v', (∀ k : IntKind, slcA e v none (some (.int k (n : Int))) none = some v') ∧ Rd e enc s v' (l.take n) := by
  have h1 := h.len
  have h2 := h.cells
  have h3 := h.under
  cases v with
  | nils =>
    simp [lenlA] at h1
    have : l = [] := List.length_eq_zero_iff.1 (by omega)
    subst this
    simp at hn
    subst hn
    exact ⟨.nils, fun k => by simp [slcA, boundA], by simpa using h⟩
  | sl b o es m c =>
    simp [lenlA] at h1
    have hm : m = l.length := by omega
    subst hm
    simp only [cellsA] at h2
    split at h2 <;> try (simp at h2; done)
    rename_i cs hcs
    split at h2 <;> simp at h2
    rename_i hc
    obtain ⟨rfl, hc⟩ := hc
    refine ⟨.sl b o es n c, fun k => ?_, by simp [lenlA]; omega, ?_, h3⟩
    · have h0 : n ≤ topA (.sl b o es l.length c) := by cases c <;> simp only [topA] <;> omega
      simp [slcA, boundA, h0]
    · have hmul : n * es ≤ l.length * es := Nat.mul_le_mul_right _ hn
      simp only [cellsA, hcs, true_and]
      rw [if_pos (by omega), flat_first he, ← h2, List.take_take, Nat.min_eq_left hmul]
  | _ => simp [lenlA] at h1
end
theorem mks_0 {s : St} {e by_ : Nat} {z : List AV} {k : IntKind} {n : Nat} (hb : n * (by_ + 1) ≤ 35184372088832) : mksA s e by_ z (.int .i64 0) (.int k (n : Int)) = some (.sl s.length 0 e 0 none, s ++ [.cells true (List.replicate n z).flatten]) := by
  simp only [mksA]
  rw [if_pos (by have : ((n * (by_ + 1) : Nat) : Int) ≤ 35184372088832 := by omega
                 simp only [Int.natCast_mul, Int.natCast_add] at this
                 exact ⟨by omega, by omega, this⟩)]
  simp


section
variable {α : Type} {e : Nat} {enc : α → List AV} {s : St} {v : AV} {l : List α}
theorem flatn_drop (he : ∀ x, (enc x).length = e) : ∀ (l : List α) (n : Nat), (l.drop n).flatMap enc = (l.flatMap enc).drop (n * e)
  | l, 0 => by simp
  | [], n + 1 => by simp
  | x :: l, n + 1 => by
    rw [List.drop_succ_cons, List.flatMap_cons, flatn_drop he l n, Nat.succ_mul, Nat.add_comm, ← he x, ← List.drop_drop, List.drop_left]
/-- A slice behind its first n. -/
theorem rd_drop {n : Nat} (h : Rd e enc s v l) (he : ∀ x, (enc x).length = e) (hn : n ≤ l.length) : ∃ v', (∀ k : IntKind, slcA e v (some (.int k (n : Int))) none none = some v') ∧ Rd e enc s v' (l.drop n) := by
  have h1 := h.len
  have h2 := h.cells
  have h3 := h.under
  cases v with
  | nils =>
    simp [lenlA] at h1
    have : l = [] := List.length_eq_zero_iff.1 (by omega)
    subst this
    simp at hn
    subst hn
    exact ⟨.nils, fun k => by simp [slcA, boundA], by simpa using h⟩
  | sl b o es m c =>
    simp [lenlA] at h1
    have hm : m = l.length := by omega
    subst hm
    simp only [cellsA] at h2
    split at h2 <;> try (simp at h2; done)
    rename_i cs hcs
    split at h2 <;> simp at h2
    rename_i hc
    obtain ⟨rfl, hc⟩ := hc
    have hmul : l.length * es = n * es + (l.length - n) * es := by rw [← Nat.add_mul]; congr 1; omega
    refine ⟨.sl b (o + n * es) es (l.length - n) (c.map (· - n)), fun k => ?_, by simp [lenlA], ?_, h3⟩
    · have h0 : (0 : Int) ≤ (n : Int) ∧ (n : Int) ≤ (l.length : Int) := by omega
      simp [slcA, boundA, h0.2]
    · simp only [cellsA, hcs, true_and]
      rw [if_pos (by omega), flatn_drop he, ← h2, List.drop_take, List.drop_drop]
      congr 2
      omega
  | _ => simp [lenlA] at h1
end


theorem ext_get {s t : St} (h : ∀ i, i < s.length → t[i]? = s[i]?) : Ext s t := by
  refine ⟨t.drop s.length, ?_⟩
  have : t.take s.length = s := by
    apply List.ext_getElem?
    intro i
    rw [List.getElem?_take]
    split
    · rename_i hi; exact h i hi
    · rename_i hi; rw [List.getElem?_eq_none (by omega)]
  conv => lhs; rw [← List.take_append_drop s.length t, this]
section
variable {α : Type} {e n : Nat} {enc : α → List AV} {s t : St} {v : AV} {l : List α}
theorem Rd.keep {t' : St} (h : Rd e enc t v l) (hk : ∀ i o e' k c, v = .sl i o e' k c → t'[i]? = t[i]?) (hl : t.length ≤ t'.length) : Rd e enc t' v l := by
  refine ⟨h.len, ?_, under_mono hl v h.under⟩
  have h2 := h.cells
  cases v with
  | sl b o es m c =>
    simp only [cellsA, rdB] at h2 ⊢
    rw [hk b o es m c rfl]; exact h2
  | nils => exact h2
  | _ => simp [cellsA] at h2
theorem Rd.lt (h : Rd e enc t v l) {i o e' k : Nat} {c : Option Nat} (hv : v = .sl i o e' k c) : i < t.length := by
  subst hv
  have := h.under
  simpa [AV.under] using this
theorem Own.ge (h : Own n e enc t v l) {i o e' k : Nat} {c : Option Nat} (hv : v = .sl i o e' k c) : n ≤ i := by
  rcases h with ⟨rfl, _⟩ | ⟨b, c2, cs, h1, _, rfl, _⟩
  · cases hv
  · cases hv; exact h1
end
section
open Go.Ev.So
variable {α : Type} {e n : Nat} {enc : α → List AV} {s t : St} {v : AV} {l : List α}
/-- An element of an own slice is written. -/
theorem own_at {l : List α} (he : ∀ x, (enc x).length = e) (hce : ∀ x, (enc x).all AV.cell = true) (h : Own n e enc t v l) {i : Nat} (hi : i < l.length) (q : α) : ∃ b x, n ≤ b ∧ (∃ o e' k c, v = .sl b o e' k c) ∧ (∀ k : IntKind, ixaA e v (.int k (i : Int)) = some (.ptr b (i * e))) ∧
    stA t (some e) (.ptr b (i * e)) (.agg (enc q)) = some (t.set b x) ∧ (∀ r, stA (t ++ r) (some e) (.ptr b (i * e)) (.agg (enc q)) = some (t.set b x ++ r)) ∧ Own n e enc (t.set b x) v (l.set i q) := by
  rcases h with ⟨_, h⟩ | ⟨b, c, cs, h3, h4, rfl, h5, h6⟩
  · rw [h] at hi; simp at hi
  · have hb := (List.getElem?_eq_some_iff.1 h5).1
    have hle : i * e + e ≤ (l.flatMap enc ++ cs).length := by
      rw [List.length_append, flat_len he]
      have : (i + 1) * e ≤ l.length * e := Nat.mul_le_mul_right _ hi
      rw [Nat.succ_mul] at this
      omega
    refine ⟨b, .cells true ((l.set i q).flatMap enc ++ cs), h3, ⟨_, _, _, _, rfl⟩, fun k => by rw [ixa_nat hi, Nat.zero_add], ?_, fun r => ?_, .inr ⟨b, c, cs, h3, by simpa using h4, by simp, key_set hb, h6⟩⟩
    · rw [st_in0 h5 (he q) (hce q) hle, set_flat he q cs l i hi]
    · rw [st_in h5 (he q) (hce q) hle, set_flat he q cs l i hi]
end
end Go.Ev

/-! The program's Scan: its contract, the range over the iterator and all. -/
namespace Go.Ev
set_option linter.unusedVariables false
set_option linter.unusedSimpArgs false
open Go.Ev.So Go.Proofs

noncomputable def scC : Code := Tryd.f10.body.getD .skip
noncomputable def scL : Code := cinn (csnd (cfst (csnd (csnd (csnd scC)))))
def rfA : Code → Code
  | .rangeFunc _ _ a _ => a
  | c => c
def rfB : Code → Code
  | .rangeFunc _ _ _ b => b
  | c => c
noncomputable def scR1 : Code := cfst (csnd scC)
noncomputable def scR2 : Code := cfst (csnd (csnd scC))
noncomputable def scR3 : Code := cfst (cfst (csnd (csnd (csnd scC))))
noncomputable def scR4 : Code := rfA scL
noncomputable def scR5 : Code := cfst (cinn (rfB scL))
noncomputable def scR6 : Code := csnd (cinn (rfB scL))
noncomputable def scR7 : Code := cfst (csnd (csnd (csnd (csnd scC))))
theorem sc_body : Tryd.f10.body = some (.seq (.region 0 (cops (cfst scC)) false) (.seq (.region 1 (cops scR1) false) (.seq (.region 2 (cops scR2) false) (.seq (.seq (.region 3 (cops scR3) false)
    (.block 0 (.rangeFunc (.tmp 8) #[9] (.region 4 (cops scR4) false) (.block 1 (.seq (.region 5 (cops scR5) false) (.region 6 (cops scR6) false)))))) (.seq scR7 .ret))))) := by kernel_rfl
def sq0 : List ROp := r_wal_Scan.body.fa.ops
def sq1 : List ROp := r_wal_Scan.body.fb.fa.ops
def sq2 : List ROp := r_wal_Scan.body.fb.fb.fa.ops
def sq3 : List ROp := r_wal_Scan.body.fb.fb.fb.fa.fa.ops
def sq7 : RC := r_wal_Scan.body.fb.fb.fb.fb.fa
def sq5 : List ROp := [⟨some 10, none, .ld none (.t 4)⟩, ⟨some 11, none, .mv (.t 6)⟩, ⟨some 12, none, .bsl 1 1 [.str (bts [])] [(0, 1, .t 11)]⟩, ⟨some 13, none, .app 1 16 (.t 10) (.t 12)⟩, ⟨none, none, .st none (.t 4) (.t 13)⟩]
def sq6 : List ROp := [⟨some 14, none, .ld none (.t 5)⟩, ⟨some 15, none, .mv (.t 6)⟩, ⟨some 16, none, .lens (.t 15)⟩, ⟨some 17, none, .bin .add (.k (.int .i64 8)) (.t 16)⟩, ⟨some 18, none, .bin .add (.t 14) (.t 17)⟩, ⟨none, none, .st none (.t 5) (.t 18)⟩]
theorem sc_c0 : compRs Tryd.prog ex0 21 (cops (cfst scC)) (cops (cfst scC)).toList = some sq0 := by kernel_rfl
theorem sc_c1 : compRs Tryd.prog ex0 21 (cops scR1) (cops scR1).toList = some sq1 := by kernel_rfl
theorem sc_c2 : compRs Tryd.prog ex0 21 (cops scR2) (cops scR2).toList = some sq2 := by kernel_rfl
theorem sc_c3 : compRs Tryd.prog ex0 21 (cops scR3) (cops scR3).toList = some sq3 := by kernel_rfl
theorem sc_c5 : compRs Tryd.prog ex0 21 (cops scR5) (cops scR5).toList = some sq5 := by kernel_rfl
theorem sc_c6 : compRs Tryd.prog ex0 21 (cops scR6) (cops scR6).toList = some sq6 := by kernel_rfl
theorem sc_c7 : compC Tryd.prog ex0 21 scR7 = some sq7 := by kernel_rfl
theorem sc_n : (cops (cfst scC)).size = 2 ∧ (cops scR1).size = 1 ∧ (cops scR2).size = 2 ∧ (cops scR3).size = 2 ∧ (cops scR4).size = 1 ∧ (cops scR5).size = 5 ∧ (cops scR6).size = 6 := ⟨by kernel_rfl, by kernel_rfl, by kernel_rfl, by kernel_rfl, by kernel_rfl, by kernel_rfl, by kernel_rfl⟩
theorem sc_as : (cops scR4)[0]? = some (copN scR4 0) ∧ (copN scR4 0).op = Op.assign (.tmp 9) ∧ (copN scR4 0).dst = some 6 ∧ (copN scR4 0).guard = none := ⟨by kernel_rfl, by kernel_rfl, by kernel_rfl, by kernel_rfl⟩
theorem sc_nt : Tryd.f10.ntmps = 21 := by kernel_rfl
theorem sc_rs : compRes Tryd.prog Tryd.f10.results.toList = some [.tmp 2, .tmp 3] := by kernel_rfl

theorem frames_r (t : St) (a : ByteArray) : Run T0 f_wal_frames [.str a] t fun v t' => v = .fn f_wal_frames_1 [.ptr t.length 0] ∧ t' = t ++ [.cells true [.str a]] := by
  refine run_body (F := r_wal_frames) rfl (by simp [r_wal_frames]) ?_
  simp only [r_wal_frames, XX, CC, YY, Nat.reduceAdd, Nat.reduceSub, Nat.reduceLeDiff, Nat.reduceLT, Nat.reduceEqDiff, reduceIte, ↓reduceIte, Nat.reduceBEq]
  exact .inl ⟨rfl, rfl⟩

/-- The list as the loop keeps it. -/
def OwnN (n : Nat) (t : St) (v : AV) (l : List ByteArray) : Prop := (v = .nils ∧ l = []) ∨ ∃ b, n ≤ b ∧ v = .sl b 0 1 l.length none ∧ l ≠ [] ∧ t[b]? = some (.cells true (l.flatMap cS))
def Cel (n : Nat) (t : St) : Prop := ∀ i b, n ≤ i → t[i]? = some b → (∃ o c, b = .cells o c) ∨ b = .dead
theorem Cel.app {n : Nat} {t : St} (h : Cel n t) (o : Bool) (c : List AV) : Cel n (t ++ [.cells o c]) := by
  intro i b hi hb
  by_cases hl : i < t.length
  · rw [List.getElem?_append_left hl] at hb; exact h i b hi hb
  · rw [List.getElem?_append_right (by omega)] at hb
    cases hk : i - t.length with
    | zero => rw [hk] at hb; cases hb; exact .inl ⟨_, _, rfl⟩
    | succ k => rw [hk] at hb; simp at hb
theorem Cel.set {n : Nat} {t : St} (h : Cel n t) {j : Nat} {x : Blk} (hx : (∃ o c, x = .cells o c) ∨ x = .dead) : Cel n (t.set j x) := by
  intro i b hi hb
  rw [List.getElem?_set] at hb
  split at hb
  · split at hb
    · cases hb; exact hx
    · cases hb
  · exact h i b hi hb
theorem sc_app {n : Nat} {t : St} {v : AV} {l : List ByteArray} (x : ByteArray) (ho : OwnN n t v l) (hn : n ≤ t.length) (hc : Cel n t) (hl : l.length < 1000000000000) :
    ∃ v' t', appA (t ++ [.cells true (cS x)]) 1 16 v (.sl t.length 0 1 1 (some 1)) = some (v', t') ∧ OwnN n t' v' (l ++ [x]) ∧ v'.cell = true ∧ t.length ≤ t'.length ∧ (∀ i, i < n → t'[i]? = t[i]?) ∧ Cel n t' := by
  have hy : cellsA (t ++ [Blk.cells true (cS x)]) 1 (.sl t.length 0 1 1 (some 1)) = some (cS x) := by
    simp only [cellsA, rd_own (get_last (s := t) (b := Blk.cells true (cS x))), List.drop_zero, true_and]
    rw [if_pos (by simp [cS])]; rfl
  rcases ho with ⟨rfl, rfl⟩ | ⟨b, hb, rfl, _, h3⟩
  · refine ⟨.sl (t.length + 1) 0 1 1 none, t ++ [.cells true (cS x)] ++ [.cells true (cS x)], ?_, .inr ⟨t.length + 1, by omega, rfl, by simp, by simp⟩, rfl, by simp, fun i hi => ?_, (hc.app _ _).app _ _⟩
    · simp only [appA, hy, lenA, show cellsA (t ++ [Blk.cells true (cS x)]) 1 .nils = some [] from rfl]
      rw [if_pos ⟨cS_cell x, rfl, by decide⟩, if_neg (by decide)]
      simp
    · rw [List.append_assoc, List.getElem?_append_left (by omega)]
  · have hbl := (List.getElem?_eq_some_iff.1 h3).1
    have h3' : (t ++ [Blk.cells true (cS x)])[b]? = some (.cells true (l.flatMap cS)) := by rw [List.getElem?_append_left hbl]; exact h3
    have hx : cellsA (t ++ [Blk.cells true (cS x)]) 1 (.sl b 0 1 l.length none) = some (l.flatMap cS) := by
      simp only [cellsA, rd_own h3', List.drop_zero, true_and]
      have := flat_len cS_len l
      rw [if_pos (by omega), List.take_of_length_le (by omega)]
    refine ⟨.sl (t.length + 1) 0 1 (l.length + 1) none, (t ++ [Blk.cells true (cS x)]).set b Blk.dead ++ [.cells true (l.flatMap cS ++ cS x)], ?_, .inr ⟨t.length + 1, by omega, by simp, by simp, ?_⟩, rfl, by simp; omega, fun i hi => ?_, (((hc.app _ _).set (.inr rfl)).app _ _)⟩
    · simp only [appA, hy, hx, lenA, h3']
      rw [if_pos ⟨cS_cell x, cells_flat cS_cell l, by omega⟩, if_neg (by decide)]
      simp
    · rw [List.getElem?_append_right (by simp)]
      simp
    · rw [List.getElem?_append_left (by simp; omega), List.getElem?_set_ne (by omega), List.getElem?_append_left (by omega)]

def cntV (n : Int) (x : ByteArray) : Int := IntKind.i64.wrap (n + IntKind.i64.wrap (8 + (x.size : Int)))
theorem cnt_scan (a : ByteArray) (ha : a.size < 1000000000) : ∀ (d p : Nat), p ≤ a.size → (scanG a d p).1.foldl cntV (p : Int) = ((scanG a d p).2 : Int)
  | 0, p, _ => rfl
  | d + 1, p, hp => by
    cases h : recV a p with
    | none => rw [scanG_none h]; rfl
    | some r =>
      obtain ⟨h1, h2⟩ := recV_room h
      rw [scanG_some h]
      simp only [List.foldl_cons]
      have e : cntV (p : Int) r = ((p + 8 + r.size : Nat) : Int) := by
        unfold cntV
        rw [w64_in (x := 8 + (r.size : Int)) (by omega) (by omega), w64_in (by omega) (by omega)]; omega
      rw [e]
      exact cnt_scan a ha d _ (by omega)

/-- What the program's Scan comes to. -/
def ScanR (args : List AV) (s : St) (v : AV) (s' : St) : Prop := ∃ a r, args = [.str a] ∧ a.size < 1000000000 ∧ v = .tup [r, .int .i64 (scanV a).2] ∧
  (((scanV a).1 = [] ∧ r = .nils ∧ s' = s) ∨ ((scanV a).1 ≠ [] ∧ r = .sl s.length 0 1 (scanV a).1.length none ∧ s' = s ++ [.cells true ((scanV a).1.flatMap cS)]))

/-- Between two rounds. -/
structure ScS (a : ByteArray) (n : Nat) (s : St) (pre : List ByteArray) (t : St) (vo : AV) : Prop where
  ext : Ext s t
  ln : s.length = n
  lst : t[n]? = some (.cells true [vo])
  cnt : t[n + 1]? = some (.cells true [.int .i64 (pre.foldl cntV 0)])
  dat : t[n + 2]? = some (.cells true [.str a])
  own : OwnN (n + 3) t vo pre
  cel : Cel n t
def ScI (a : ByteArray) (m0 : Inj) (s : St) (w0 : World) (m3 : Inj) (pre : List ByteArray) (W : World) : Prop :=
  ∃ m t vo, Sim m t W ∧ Goes m0 s w0 m t W ∧ m3.le m ∧ ScS a s.length s pre t vo

set_option maxHeartbeats 1000000 in
theorem sc_5 (a x : ByteArray) (n : Nat) (s t : St) (pre : List ByteArray) (vo : AV) (h : ScS a n s pre t vo) (e : Env) (g4 : e.get 4 = .ptr n 0) (g5 : e.get 5 = .ptr (n + 1) 0) (g6 : e.get 6 = .str x) (hl : pre.length < 1000000000000) :
    opsA (Run T0) sq5 e t fun e' t' => e'.get 5 = .ptr (n + 1) 0 ∧ e'.get 6 = .str x ∧ ∃ vo', Ext s t' ∧ t'[n]? = some (.cells true [vo']) ∧ t'[n + 1]? = some (.cells true [.int .i64 (pre.foldl cntV 0)]) ∧ t'[n + 2]? = some (.cells true [.str a]) ∧ OwnN (n + 3) t' vo' (pre ++ [x]) ∧ Cel n t' := by
  have hnl : n + 2 < t.length := (List.getElem?_eq_some_iff.1 h.dat).1
  have hcel3 : Cel (n + 3) t := fun i b hi hb => h.cel i b (by omega) hb
  have hsl : s.length = n := h.ln
  obtain ⟨v', t', a1, a2, a3, a4, a5, a6⟩ := sc_app x h.own (by omega) hcel3 hl
  have l0 : ldA t none (.ptr n 0) = some vo := by rw [ld_own h.lst]; rfl
  have hf : fillA [AV.str (bts [])] [(0, 1, .str x)] = some (cS x) := rfl
  have hr1 : (List.replicate 1 [AV.str (bts [])]).flatten = [.str (bts [])] := rfl
  have hn' : t'[n]? = some (.cells true [vo]) := by rw [a5 n (by omega)]; exact h.lst
  have s1 : stA t' none (.ptr n 0) v' = some (t'.set n (.cells true [v'])) := by
    rw [st_one a3, wr_own hn', if_pos ⟨by simp, by simp [a3]⟩]; rfl
  simp only [sq5, XX, CC, YY, Nat.reduceAdd, Nat.reduceSub, Nat.reduceLeDiff, Nat.reduceLT, Nat.reduceEqDiff, reduceIte, ↓reduceIte, Nat.reduceBEq, g4, g5, g6, l0, hr1, hf, a1, s1]
  have hce : Cel n t' := fun i b hi hb => by
    by_cases hi3 : i < n + 3
    · rw [a5 i hi3] at hb; exact h.cel i b hi hb
    · exact a6 i b (by omega) hb
  refine ⟨v', ?_, key_set (by omega), ?_, ?_, ?_, hce.set (.inl ⟨_, _, rfl⟩)⟩
  · exact ext_get fun i hi => by
      rw [List.getElem?_set_ne (by omega), a5 i (by omega), h.ext.get hi]
  · rw [List.getElem?_set_ne (by omega), a5 _ (by omega)]; exact h.cnt
  · rw [List.getElem?_set_ne (by omega), a5 _ (by omega)]; exact h.dat
  · rcases a2 with ⟨_, k⟩ | ⟨b, k1, k2, k4, k3⟩
    · simp at k
    · exact .inr ⟨b, k1, k2, k4, by rw [List.getElem?_set_ne (by omega)]; exact k3⟩
end Go.Ev

/-! The program's Scan: its contract, the end. -/
namespace Go.Ev
set_option linter.unusedVariables false
set_option linter.unusedSimpArgs false
open Go.Ev.So Go.Proofs

set_option maxHeartbeats 1000000 in
theorem sc_6 (a x : ByteArray) (n : Nat) (s t : St) (pre : List ByteArray) (vo : AV) (e : Env) (hs : s.length = n) (hx : Ext s t) (h1 : t[n]? = some (.cells true [vo])) (h2 : t[n + 1]? = some (.cells true [.int .i64 (pre.foldl cntV 0)])) (h3 : t[n + 2]? = some (.cells true [.str a])) (h4 : OwnN (n + 3) t vo (pre ++ [x])) (h5 : Cel n t)
    (g5 : e.get 5 = .ptr (n + 1) 0) (g6 : e.get 6 = .str x) :
    opsA (Run T0) sq6 e t fun e' t' => ∃ vo', ScS a n s (pre ++ [x]) t' vo' := by
  have hnl : n + 2 < t.length := (List.getElem?_eq_some_iff.1 h3).1
  have l0 : ldA t none (.ptr (n + 1) 0) = some (.int .i64 (pre.foldl cntV 0)) := by rw [ld_own h2]; rfl
  have hc : IntKind.i64.wrap (pre.foldl cntV 0 + IntKind.i64.wrap (8 + (x.size : Int))) = (pre ++ [x]).foldl cntV 0 := by rw [List.foldl_append]; rfl
  have s1 : stA t none (.ptr (n + 1) 0) (.int .i64 ((pre ++ [x]).foldl cntV 0)) = some (t.set (n + 1) (.cells true [.int .i64 ((pre ++ [x]).foldl cntV 0)])) := by
    rw [st_one (by rfl), wr_own h2, if_pos ⟨by simp, by rfl⟩]; rfl
  simp only [sq6, XX, CC, YY, Nat.reduceAdd, Nat.reduceSub, Nat.reduceLeDiff, Nat.reduceLT, Nat.reduceEqDiff, reduceIte, ↓reduceIte, Nat.reduceBEq, g5, g6, l0, hc, s1]
  refine ⟨vo, ⟨?_, hs, ?_, key_set (by omega), ?_, ?_, h5.set (.inl ⟨_, _, rfl⟩)⟩⟩
  · exact ext_get fun i hi => by rw [List.getElem?_set_ne (by omega), hx.get hi]
  · rw [List.getElem?_set_ne (by omega)]; exact h1
  · rw [List.getElem?_set_ne (by omega)]; exact h3
  · rcases h4 with h4 | ⟨b, k1, k2, k4, k3⟩
    · exact .inl h4
    · exact .inr ⟨b, k1, k2, k4, by rw [List.getElem?_set_ne (by omega)]; exact k3⟩

theorem Ret.cq {m0 m : Inj} {s s1 : St} {w w1 : World} {v : Value} {r : AV} {k : AV → St → Prop} (h0 : Sim m0 s w) (hS : Sim m s1 w1) (hG : Goes m0 s w m s1 w1) (hv : VR m r v) (h : Ret s r s1 k) : CQ m0 s w k (.returned v) w1 := by
  rcases h with hk | ⟨r', s', hg, hk⟩ | ⟨r', s', hg, hk⟩
  · exact ⟨_, _, m, v, hk, rfl, hS, hG, hv⟩
  · obtain ⟨m2, g1, g2, g3⟩ := hg.sound h0 hS hG hv
    exact ⟨r', s', m2, v, hk, rfl, g1, g2, g3⟩
  · obtain ⟨g1, g2, g3⟩ := hg.sound hS hv hG
    exact ⟨r', s', m, v, hk, rfl, g1, g2, g3⟩

section
variable {a : ByteArray} {m0 : Inj} {s : St} {w0 : World} {m3 : Inj} {pre : List ByteArray} {W : World}
/-- A block that is no cells of the run's. -/
theorem sc_out {m : Inj} {t : St} {r : Nat} {o : Obj} (h0 : Sim m0 s w0) (hS : Sim m t W) (hG : Goes m0 s w0 m t W) (hc : Cel s.length t) (hB : w0.heap.size ≤ r) (ho : W.heap[r]? = some o) (hn : o.isCells = false) : ∀ i l, m i = some l → l.c = r → t[i]? = some .dead := by
  intro i l hi hl
  rcases hG.new i l hi with h | h
  · have := (h0.lt h).2; omega
  · obtain ⟨b, o', h1, h2, h3⟩ := hS.at_ i l hi
    rw [hl, ho] at h2
    cases h2
    rcases hc i b h h1 with ⟨w, c, rfl⟩ | rfl
    · obtain ⟨c', t', fz, rfl, _⟩ := h3
      cases hn
    · exact h1
theorem scI_own (h0 : Sim m0 s w0) (B : Nat) (hB : w0.heap.size ≤ B) : OwnFrom B (ScI a m0 s w0 m3) := by
  rintro pre W W' row ⟨m, t, vo, hS, hG, hle, hs⟩ hg hr
  refine ⟨m, t, vo, grown_sim hS hg fun i l hi e => ?_, grown_goes hG hg fun c e => ?_, hle, hs⟩
  · obtain ⟨h1, o, h2, h3⟩ := hr _ e
    exact sc_out h0 hS hG hs.cel (by omega) h2 h3 i l hi rfl
  · have := (hr _ e).1; omega

theorem ScI.dat (h : ScI a m0 s w0 m3 pre W) {l : Loc} (hl : m3 (s.length + 2) = some l) : DatAt l.c l.d a W := by
  obtain ⟨m, t, vo, hS, hG, hle, hs⟩ := h
  obtain ⟨b, o, h1, h2, h3⟩ := hS.at_ _ _ (hle _ _ hl)
  rw [hs.dat] at h1
  cases h1
  obtain ⟨c, ty, fz, rfl, hz, hr, _⟩ := h3
  obtain ⟨v, hv, hvr⟩ := hr 0 _ rfl
  have hvr' : v = .string a := hvr
  exact ⟨c, ty, fz, h2, by rw [← hvr']; exact hv⟩
end

theorem fr_known : Known Tryd.prog f_wal_frames_1 := ⟨⟨_, Tryd.func60, by kernel_rfl, by kernel_rfl⟩⟩
theorem DatAt.put {lc ld : Nat} {a : ByteArray} {W : World} {l : Nat} {o o' : Obj} (ho : W.heap[l]? = some o) (hn : o.isCells = false) (h : DatAt lc ld a W) : DatAt lc ld a (W.putObj l o') := by
  obtain ⟨c, t, fz, h1, h2⟩ := h
  refine ⟨c, t, fz, ?_, h2⟩
  have hne : lc ≠ l := by rintro rfl; rw [h1] at ho; cases ho; cases hn
  rw [World.putObj_heap_other hne]; exact h1
theorem sc_ret {a : ByteArray} {s t : St} {vo r : AV} {s' : St} (ha : a.size < 1000000000) (h : ScS a s.length s (scanV a).1 t vo)
    (hout : ((scanV a).1 = [] ∧ r = .nils ∧ s' = s) ∨ ((scanV a).1 ≠ [] ∧ r = .sl s.length 0 1 (scanV a).1.length none ∧ s' = s ++ [.cells true ((scanV a).1.flatMap cS)])) :
    Ret s (.tup [vo, .int .i64 ((scanV a).1.foldl cntV 0)]) t fun x y => x = .tup [r, .int .i64 (scanV a).2] ∧ y = s' := by
  have hc : (scanV a).1.foldl cntV 0 = ((scanV a).2 : Int) := cnt_scan a ha (a.size + 1) 0 (Nat.zero_le _)
  rw [hc]
  rcases h.own with ⟨rfl, hn⟩ | ⟨b, hb, rfl, hn, hbb⟩
  · rcases hout with ⟨_, rfl, rfl⟩ | ⟨h1, _⟩
    · exact ret_drop h.ext rfl ⟨rfl, rfl⟩
    · exact absurd hn h1
  · rcases hout with ⟨h1, _⟩ | ⟨_, rfl, rfl⟩
    · exact absurd h1 hn
    · refine ret_one (r := .tup [.sl s.length 0 1 (scanV a).1.length none, .int .i64 (scanV a).2]) h.ext (by omega) hbb ?_ (by simp [AV.under, unders]) (unders_flat cS_un _) ⟨rfl, rfl⟩
      simp [AV.ren, AV.rens]

set_option maxHeartbeats 8000000 in
theorem scan_calls (args : List AV) (s : St) (v : AV) (s' : St) (hR : ScanR args s v s') (m0 : Inj) (w0 : World) (vs : Array Value) (h0 : Sim m0 s w0) (hv : VRs m0 args vs.toList) :
    Calls Tryd.prog f_wal_Scan vs w0 (CQ m0 s w0 fun a t => a = v ∧ t = s') := by
  obtain ⟨a, r, rfl, ha, rfl, hout⟩ := hR
  refine (callsIn_wide (n := 9)).1 (?_ : CallsIn (wd none) 9 Tryd.prog f_wal_Scan vs w0 _)
  refine callsIn_of_wp_marks Tryd.func10 sc_body trivial ?_ rfl
  rw [sc_nt]
  have R0 := rel_start h0 hv (N := 21) (by simp)
  refine wpIn_seq (wpIn_region ?_)
  rw [sc_n.1, show List.range 2 = List.range' 0 2 ++ [] from rfl]
  refine reg_in (k := fun e' s' => s' = s ∧ e'.get 0 = .str a) sound0 exok (p := 30) (pv := undef) ?_ (List.range' 0 2) ((sq0.drop 0).take 2) (by kernel_rfl) (hc_of sc_c0 0 2) (by kernel_rfl) _ _ _ _ R0 ?_ ?_
  rotate_left
  · obtain ⟨_, _, _, _, hN, _⟩ := R0
    rw [Array.getD_eq_getD_getElem?, Array.getElem?_eq_none (by rw [hN]; decide)]; rfl
  · show opsA (Run T0) sq0 _ _ _
    simp only [sq0, RC.fa, RC.ops, r_wal_Scan, XX, CC, YY, Nat.reduceAdd, Nat.reduceSub, Nat.reduceLeDiff, Nat.reduceLT, Nat.reduceEqDiff, reduceIte, ↓reduceIte, Nat.reduceBEq]
  rintro e1 s1 a1 w1 ⟨rfl, g0⟩ R1 hp1
  refine wpIn_seq (wpIn_region ?_)
  rw [sc_n.2.1, show List.range 1 = List.range' 0 1 ++ [] from rfl]
  refine reg_in (k := fun e' s' => s' = s1 ++ [.cells true [.nils]] ∧ e'.get 0 = .str a ∧ e'.get 4 = .ptr s1.length 0) sound0 exok (p := 30) (pv := undef) ?_ (List.range' 0 1) ((sq1.drop 0).take 1) (by kernel_rfl) (hc_of sc_c1 0 1) (by kernel_rfl) _ _ _ _ R1 hp1 ?_
  rotate_left
  · show opsA (Run T0) sq1 _ _ _
    simp only [sq1, RC.fa, RC.fb, RC.ops, r_wal_Scan, XX, CC, YY, Nat.reduceAdd, Nat.reduceSub, Nat.reduceLeDiff, Nat.reduceLT, Nat.reduceEqDiff, reduceIte, ↓reduceIte, Nat.reduceBEq, g0]
  clear R1 hp1 g0
  rintro e2 s2 a2 w2 ⟨rfl, g0, g4⟩ R2 hp2
  refine wpIn_seq (wpIn_region ?_)
  rw [sc_n.2.2.1, show List.range 2 = List.range' 0 2 ++ [] from rfl]
  refine reg_in (k := fun e' s' => s' = s1 ++ [.cells true [.nils], .cells true [.int .i64 0]] ∧ e'.get 0 = .str a ∧ e'.get 4 = .ptr s1.length 0 ∧ e'.get 5 = .ptr (s1.length + 1) 0) sound0 exok (p := 30) (pv := undef) ?_ (List.range' 0 2) ((sq2.drop 0).take 2) (by kernel_rfl) (hc_of sc_c2 0 2) (by kernel_rfl) _ _ _ _ R2 hp2 ?_
  rotate_left
  · show opsA (Run T0) sq2 _ _ _
    have s1' : stA ((s1 ++ [Blk.cells true [.nils]]) ++ [.cells true [.int .i64 0]]) none (.ptr (s1 ++ [Blk.cells true [.nils]]).length 0) (.int .i64 0) = some ((s1 ++ [Blk.cells true [.nils]]) ++ [.cells true [.int .i64 0]]) := by
      rw [st_one (by rfl), wr_own (get_last (s := s1 ++ [Blk.cells true [.nils]]) (b := .cells true [.int .i64 0])), if_pos ⟨by simp, by rfl⟩]
      exact congrArg some (set_same (get_last (s := s1 ++ [Blk.cells true [.nils]]) (b := .cells true [.int .i64 0])))
    simp only [sq2, RC.fa, RC.fb, RC.ops, r_wal_Scan, XX, CC, YY, Nat.reduceAdd, Nat.reduceSub, Nat.reduceLeDiff, Nat.reduceLT, Nat.reduceEqDiff, reduceIte, ↓reduceIte, Nat.reduceBEq, g0, g4, s1']
    all_goals exact ⟨by simp, by simp⟩
  clear R2 hp2 g0 g4
  rintro e3 s3 a3 w3 ⟨rfl, g0, g4, g5⟩ R3 hp3
  refine wpIn_seq (wpIn_seq (wpIn_region ?_))
  rw [sc_n.2.2.2.1, show List.range 2 = List.range' 0 2 ++ [] from rfl]
  refine reg_in (k := fun e' s' => s' = s1 ++ [.cells true [.nils], .cells true [.int .i64 0], .cells true [.str a]] ∧ e'.get 4 = .ptr s1.length 0 ∧ e'.get 5 = .ptr (s1.length + 1) 0 ∧ e'.get 8 = .fn f_wal_frames_1 [.ptr (s1.length + 2) 0]) sound0 exok (p := 30) (pv := undef) ?_ (List.range' 0 2) ((sq3.drop 0).take 2) (by kernel_rfl) (hc_of sc_c3 0 2) (by kernel_rfl) _ _ _ _ R3 hp3 ?_
  rotate_left
  · show opsA (Run T0) sq3 _ _ _
    simp only [sq3, RC.fa, RC.fb, RC.ops, r_wal_Scan, XX, CC, YY, Nat.reduceAdd, Nat.reduceSub, Nat.reduceLeDiff, Nat.reduceLT, Nat.reduceEqDiff, reduceIte, ↓reduceIte, Nat.reduceBEq, g0, g4, g5]
    refine Run.mono _ _ _ _ _ ?_ (frames_r _ a)
    rintro v t ⟨rfl, rfl⟩
    simp only [XX, CC, YY, Nat.reduceAdd, Nat.reduceSub, Nat.reduceLeDiff, Nat.reduceLT, Nat.reduceEqDiff, reduceIte, ↓reduceIte, Nat.reduceBEq, g0, g4, g5]
    all_goals exact ⟨by simp, by simp⟩
  clear R3 hp3 g0 g4 g5
  rintro e4 s4 a4 w4 ⟨rfl, g4, g5, g8⟩ ⟨m4, hS4, hE4, hG4, hN4, hD4⟩ hp4
  have hsz := hG4.size
  have hS0 : ScS a s1.length s1 [] (s1 ++ [.cells true [.nils], .cells true [.int .i64 0], .cells true [.str a]]) .nils := by
    refine ⟨⟨_, rfl⟩, rfl, by simp, by simp, by simp, .inl ⟨rfl, rfl⟩, fun i b hi hb => ?_⟩
    rw [List.getElem?_append_right hi] at hb
    match h : i - s1.length with
    | 0 => rw [h] at hb; cases hb; exact .inl ⟨_, _, rfl⟩
    | 1 => rw [h] at hb; cases hb; exact .inl ⟨_, _, rfl⟩
    | 2 => rw [h] at hb; cases hb; exact .inl ⟨_, _, rfl⟩
    | k + 3 => rw [h] at hb; simp at hb
  have hI0 : ScI a m0 s1 w0 m4 [] w4 := ⟨m4, _, _, hS4, hG4, Inj.le_refl _, hS0⟩
  have v4 := hE4 4
  rw [g4] at v4
  have v5 := hE4 5
  rw [g5] at v5
  have v8 := hE4 8
  rw [g8] at v8
  obtain ⟨lb, e8, y1, ys, e9, ⟨l, hl, rfl⟩, rfl⟩ := v8
  obtain rfl : lb = #[.pointer (some ⟨l.c, l.d, none⟩)] := by apply Array.ext'; exact e9
  have hd4 : DatAt l.c l.d a w4 := hI0.dat hl
  have tk : ∀ (x : ByteArray) (j : Nat), ((a4.tmps.setIfInBounds 9 (.string x)).setIfInBounds 6 (.string x)).getD j undef = if j = 6 then .string x else if j = 9 then .string x else a4.tmps.getD j undef := by
    intro x j
    have h1 := put_get (a := (a4.put (some 9) (.string x))) (t := 6) (j := j) (u := .string x) (by rw [put_size, hN4]; decide)
    have h2 := put_get (a := a4) (t := 9) (j := j) (u := .string x) (by rw [hN4]; decide)
    rw [h2] at h1
    exact h1
  refine wpIn_block ?_
  refine wpIn_rangeFunc_ownG (α := ByteArray) (encs := fun x => #[.string x]) (Kp := fun W W' => DatAt l.c l.d a W → DatAt l.c l.d a W') (S := fun ys => ys = (scanV a).1) (Sp := fun _ => True) (N := a.size + 1) (w0 := w4) (gf := f_wal_frames_1) (lb := #[.pointer (some ⟨l.c, l.d, none⟩)])
    rfl (by decide) e8 trivial (fun args w => run_callFunc_known fr_known args w) ?seq (fun h k d => k (h d)) (fun W l' o o' _ ho hn _ => DatAt.put ho hn) (Go.RowKit.Below.refl _ _) (fun _ => rfl) (ScI a m0 s1 w0 m4) (fun _ _ _ => False) (scI_own h0 _ hsz) (fun _ _ _ _ _ h _ _ => h) hI0
    (fun x => { tmps := (a4.tmps.setIfInBounds 9 (.string x)).setIfInBounds 6 (.string x), defers := [] }) ?assign ?body ?done ?stop
  case seq =>
    intro l' J Jx W hW hJ hJx hY hj
    refine frames1_in 8 a ha l' l.c l.d J Jx W.heap.size hJ hJx hY W ?_ hj
    obtain ⟨c, t, fz, k1, k2⟩ := hd4
    exact ⟨c, t, fz, (hW.block _ (Array.getElem?_eq_some_iff.1 k1).1).trans k1, k2⟩
  case assign =>
    intro l' x W K hK
    refine wpIn_region ?_
    rw [sc_n.2.2.2.2.1]
    have k9 := put_get (a := a4) (t := 9) (j := 9) (u := .string x) (by rw [hN4]; decide)
    rw [if_pos rfl] at k9
    refine one_in (r := some l') (l := []) (w' := W) (u := .string x) sc_as.1 sc_as.2.2.2 (by rw [sc_as.2.1]; simp) ?_ ?_
    · simp only [execOp, sc_as.2.1, Act.eval]
      rw [show ((#[9].zip #[Value.string x]).foldl (fun t (x : Tmp × Value) => t.setIfInBounds x.1 x.2) a4.tmps) = a4.tmps.setIfInBounds 9 (.string x) from by simp]
      have : (a4.tmps.setIfInBounds 9 (Value.string x)).getD 9 undef = .string x := k9
      rw [this]; rfl
    · rw [sc_as.2.2.1]
      show Exit.then K _ .normal _ _
      have e : ((#[9].zip #[Value.string x]).foldl (fun t (x : Tmp × Value) => t.setIfInBounds x.1 x.2) a4.tmps) = a4.tmps.setIfInBounds 9 (.string x) := by simp
      rw [show (fun (t : Array Value) (x : Tmp × Value) => match x with | (p, v) => t.setIfInBounds p v) = fun t x => t.setIfInBounds x.1 x.2 from rfl, e]
      exact hK
  case body =>
    rintro l' pre x W ⟨m, t, vo, hS, hG, hle, hs⟩ hlt
    show Code.wpIn (wd (some l')) 7 _ _ _ _ _
    have R : Rel [] m t W 21 (((Env.put [] 4 (.ptr s1.length 0)).put 5 (.ptr (s1.length + 1) 0)).put 6 (.str x)) t { tmps := (a4.tmps.setIfInBounds 9 (.string x)).setIfInBounds 6 (.string x), defers := [] } W := by
      refine ⟨m, hS, ER.cons (ER.cons (ER.cons ER.nil ?_) ?_) ?_, Goes.refl _ _ _, by simp; exact hN4, rfl⟩
      · rw [tk, if_neg (by decide), if_neg (by decide)]; exact VR.mono hle _ _ v4
      · rw [tk, if_neg (by decide), if_neg (by decide)]; exact VR.mono hle _ _ v5
      · rw [tk, if_pos rfl]; rfl
    refine wpIn_block (wpIn_seq (wpIn_region ?_))
    rw [sc_n.2.2.2.2.2.1, show List.range 5 = List.range' 0 5 ++ [] from rfl]
    have hp : ({ tmps := (a4.tmps.setIfInBounds 9 (.string x)).setIfInBounds 6 (.string x), defers := [] } : Act).tmps.getD 30 undef = undef := by
      rw [tk, if_neg (by decide), if_neg (by decide)]; exact hp4
    refine reg_in sound0 exok (p := 30) (pv := undef) ?_ (List.range' 0 5) ((sq5.drop 0).take 5) (by kernel_rfl) (hc_of sc_c5 0 5) (by kernel_rfl) _ _ _ _ R hp (sc_5 a x s1.length s1 t pre vo hs _ rfl rfl rfl (by omega))
    rintro e5 t5 a5 w5 ⟨g5', g6', vo', q1, q2, q3, q4, q5, q6⟩ R5 hp5
    refine wpIn_region ?_
    rw [sc_n.2.2.2.2.2.2, show List.range 6 = List.range' 0 6 ++ [] from rfl]
    refine reg_in sound0 exok (p := 30) (pv := undef) ?_ (List.range' 0 6) ((sq6.drop 0).take 6) (by kernel_rfl) (hc_of sc_c6 0 6) (by kernel_rfl) _ _ _ _ R5 hp5 (sc_6 a x s1.length s1 t5 pre vo' _ rfl q1 q2 q3 q4 q5 q6 g5' g6')
    rintro e6 t6 a6 w6 ⟨vo6, hs6⟩ ⟨m6, hS6, hE6, hG6, hN6, hD6⟩ hp6
    have hI6 : ScI a m0 s1 w0 m4 (pre ++ [x]) w6 := ⟨m6, t6, vo6, hS6, hG.trans hG6, Inj.le_trans hle hG6.le, hs6⟩
    refine ⟨⟨hG6.size, fun k o hk ho hn => ?_⟩, fun _ => hI6.dat hl, hI6⟩
    rw [(hG6.keep k (Array.getElem?_eq_some_iff.1 ho).1 fun i l2 hi hl2 => .inl (sc_out h0 hS hG hs.cel (by omega) ho hn i l2 hi hl2)).1]
    exact ho
  case done =>
    rintro D xs W hD rfl ⟨m, t, vo, hS, hG, hle, hs⟩ hK
    show Code.wpIn (wd none) 9 _ (.seq scR7 .ret) _ _ _
    refine wpIn_seq ((wpIn_wide (n := 9)).2 (code_sound (dd := [{ target := .collected D, args := #[] }]) sound0 exok mixed scR7 sq7 sc_c7 (fun y e' t' => y = .nrm ∧ t' = t ∧ e'.get 2 = vo ∧ e'.get 3 = .int .i64 ((scanV a).1.foldl cntV 0)) _ ?_
      ((Env.put [] 4 (.ptr s1.length 0)).put 5 (.ptr (s1.length + 1) 0)) t _ W (m0 := m) (s0 := t) (w0 := W) (N := 21) ⟨m, hS, ER.cons (ER.cons ER.nil (VR.mono hle _ _ v4)) (VR.mono hle _ _ v5), Goes.refl _ _ _, hN4, by rw [hD4]⟩ ?_))
    · rintro y e5 t5 a5 w5 ⟨rfl, rfl, g2, g3⟩ ⟨m5, hS5, hE5, hG5, hN5, hD5⟩
      have hDl : D < W.heap.size := (Array.getElem?_eq_some_iff.1 hK).1
      have hK5 : w5.heap[D]? = some (.deferred (some [])) := by
        rw [(hG5.keep D hDl fun i l2 hi hl2 => .inl (sc_out h0 hS hG hs.cel (by omega) hK rfl i l2 hi hl2)).1]; exact hK
      have hG05 := hG.trans hG5
      have hS6 := grown_sim hS5 (grownBy_putObj' w5 D (.deferred none)) fun i l2 hi e => sc_out h0 hS5 hG05 hs.cel (by omega) hK5 rfl i l2 hi (by simpa using e.symm)
      have hG6 := grown_goes hG05 (grownBy_putObj' w5 D (.deferred none)) fun c e => by cases e; omega
      refine wpIn_ret ?_
      show LeavesInM _ _ _ _ _ _ a5.defers .returning w5
      rw [hD5]
      refine ⟨by simp, .inl ⟨D, _, rfl, run_takeDeferred hK5, ?_⟩⟩
      obtain ⟨u, hu, hru⟩ := results_run (P := Tryd.prog) (fn := Tryd.f10) (rs := [.tmp 2, .tmp 3]) (vs := [e5.get 2, e5.get 3]) hS6 hE5 sc_rs rfl
      rw [g2, g3] at hu
      exact ⟨u, hru, Ret.cq h0 hS6 hG6 hu (sc_ret ha hs hout)⟩
    · have l0 : ldA t none (.ptr s1.length 0) = some vo := by rw [ld_own hs.lst]; rfl
      have l1 : ldA t none (.ptr (s1.length + 1) 0) = some (.int .i64 ((scanV a).1.foldl cntV 0)) := by rw [ld_own hs.cnt]; rfl
      simp only [sq7, RC.fa, RC.fb, r_wal_Scan, XX, CC, YY, Nat.reduceAdd, Nat.reduceSub, Nat.reduceLeDiff, Nat.reduceLT, Nat.reduceEqDiff, reduceIte, ↓reduceIte, Nat.reduceBEq]
      refine drw_in [] rfl ?_
      simp only [List.append_nil, DD, CC, YY, Nat.reduceAdd, Nat.reduceSub, Nat.reduceLeDiff, Nat.reduceLT, Nat.reduceEqDiff, reduceIte, ↓reduceIte, Nat.reduceBEq, l0, l1]
  case stop =>
    intro D c pre W _ _ h _
    exact h.elim
end Go.Ev

/-! The whole table: the compiled functions, and those whose contracts are given. -/
namespace Go.Ev
set_option linter.unusedVariables false
set_option linter.unusedSimpArgs false
open Go.Ev.So Go.Proofs

def gLose : RF := ⟨2, [.tmp 0], .given LoseR⟩
def gScan : RF := ⟨1, [.tmp 0], .given ScanR⟩
def gtbl (f : Nat) : Option RF := if f = f_files_Disk_lose then some gLose else
  if f = f_wal_Scan then some gScan else
  none
def T (f : Nat) : Option RF := match T0 f with
  | some F => some F
  | none => gtbl f
instance : Has T := ⟨fun _ _ h => by unfold T; rw [h]⟩
theorem lose_given : GivenOK Tryd.prog f_files_Disk_lose gLose := ⟨LoseR, rfl, ⟨⟨_, Tryd.func47, by kernel_rfl, by kernel_rfl⟩⟩, lose_calls⟩
theorem scan_given : GivenOK Tryd.prog f_wal_Scan gScan := ⟨ScanR, rfl, ⟨⟨_, Tryd.func10, by kernel_rfl, by kernel_rfl⟩⟩, scan_calls⟩
theorem tok : TOK Tryd.prog ex0 T := ⟨fun f F h => by
  unfold T at h
  split at h
  · cases h
    rename_i h
    exact tok0.ok f _ h
  · right
    unfold gtbl at h
    split at h
    · rename_i e; subst e; cases h; exact lose_given
    split at h
    · rename_i e; subst e; cases h; exact scan_given
    cases h⟩
theorem sound : XS Tryd.prog (Run T) := run_sound exok mixed tok

theorem lose_r (t : St) (n b : Nat) (D : Dsk) (keep : Int) (hD : DAt t n b D) (hO : DOk D) : RunD T f_files_Disk_lose [.ptr b 0, .int .i64 keep] t (.tup []) (loseS t b D keep) := by
  refine run_body (F := gLose) rfl (by simp [gLose]) ?_
  exact ⟨_, _, ⟨n, b, D, keep, rfl, hD, hO, rfl, rfl⟩, _, rfl, .inl ⟨rfl, rfl⟩⟩
theorem scan_r (t : St) (a : ByteArray) (ha : a.size < 1000000000) : Run T f_wal_Scan [.str a] t fun v t' => ∃ r, v = .tup [r, .int .i64 (scanV a).2] ∧ Out 1 cS t (scanV a).1 r t' := by
  refine run_body (F := gScan) rfl (by simp [gScan]) ?_
  by_cases h : (scanV a).1 = []
  · exact ⟨_, _, ⟨a, .nils, rfl, ha, rfl, .inl ⟨h, rfl, rfl⟩⟩, _, rfl, .inl ⟨_, rfl, .inl ⟨rfl, h, rfl⟩⟩⟩
  · exact ⟨_, _, ⟨a, _, rfl, ha, rfl, .inr ⟨h, rfl, rfl⟩⟩, _, rfl, .inl ⟨_, rfl, .inr ⟨none, [], .inl rfl, rfl, by simp, rfl⟩⟩⟩
end Go.Ev

/-! The disk's operations, wherever the power goes. -/
namespace Go.Ev
set_option linter.unusedVariables false
set_option linter.unusedSimpArgs false
open Go.Ev.So Go.Proofs

section
variable {t : St} {n b : Nat} {D D' : Dsk}
theorem DFoot.same (hm : D'.mb = D.mb) (hf : D'.fs.map (·.1.fb) = D.fs.map (·.1.fb)) (i : Nat) : DFoot b D' i ↔ DFoot b D i := by
  have e : (∃ f ∈ D'.fs, i = f.1.fb) ↔ ∃ f ∈ D.fs, i = f.1.fb := by
    have h1 : (∃ f ∈ D'.fs, i = f.1.fb) ↔ i ∈ D'.fs.map (·.1.fb) := by rw [List.mem_map]; exact ⟨fun ⟨f, h, e⟩ => ⟨f, h, e.symm⟩, fun ⟨f, h, e⟩ => ⟨f, h, e.symm⟩⟩
    have h2 : (∃ f ∈ D.fs, i = f.1.fb) ↔ i ∈ D.fs.map (·.1.fb) := by rw [List.mem_map]; exact ⟨fun ⟨f, h, e⟩ => ⟨f, h, e.symm⟩, fun ⟨f, h, e⟩ => ⟨f, h, e.symm⟩⟩
    rw [h1, h2, hf]
  unfold DFoot
  rw [hm, e]
theorem DStep.setD (h : DAt t n b D) (ho : DOk D) (hm : D'.mb = D.mb) (hc : D'.clock = D.clock) (hf : D'.fs = D.fs) : DStep n b D D' t (t.set b (.cells true (cD D'))) :=
  ⟨h.setD hm hc hf, ho.same hc hf, by simp, fun i _ hn => List.getElem?_set_ne (fun e => hn (.inl e.symm)), fun i hi => .inl ((DFoot.same hm (by rw [hf]) i).1 hi)⟩
theorem setF_fbs (D : Dsk) (name : ByteArray) (g : Fil → Fil) (hb : ∀ x, (g x).fb = x.fb) : (setF D name g).fs.map (·.1.fb) = D.fs.map (·.1.fb) := by
  show (D.fs.map (updF name g)).map (·.1.fb) = _
  rw [List.map_map]
  apply List.map_congr_left
  intro x _
  simp only [Function.comp, updF]
  split
  · simp only [hb]
  · rfl
theorem setF_ok (ho : DOk D) {name : ByteArray} {f : Fil} (hnm : (D.fs.map (·.1.name)).Nodup) (hg : getF D name = some f) (g : Fil → Fil) (hok : FOk (g f).data (g f).safe) : DOk (setF D name g) := by
  obtain ⟨k, hk, hfn⟩ := getF_mem hg
  refine ⟨fun x hx => ?_, ?_, fun x hx => ?_, ?_⟩
  · obtain ⟨y, hy, rfl⟩ := List.mem_map.1 hx
    unfold updF
    split
    · rename_i c
      have e := nodup_eq hnm hy hk (by rw [← c, hfn])
      subst e
      exact hok
    · exact ho.files y hy
  · show (D.fs.map (updF name g)).length ≤ 16
    rw [List.length_map]; exact ho.few
  · obtain ⟨y, hy, rfl⟩ := List.mem_map.1 hx
    have : (updF name g y).2 = y.2 := by unfold updF; split <;> rfl
    rw [this]; exact ho.clock y hy
  · show ((D.fs.map (updF name g)).map (·.2)).Nodup
    rw [List.map_map, List.map_congr_left (g := (·.2)) fun y _ => by simp only [Function.comp]; unfold updF; split <;> rfl]
    exact ho.stamps
theorem DStep.setF (h : DAt t n b D) (ho : DOk D) {name : ByteArray} {f : Fil} (hg : getF D name = some f) (g : Fil → Fil) (hn : ∀ x, (g x).name = x.name) (hb : ∀ x, (g x).fb = x.fb) (hok : FOk (g f).data (g f).safe) :
    DStep n b D (Ev.setF D name g) t (t.set f.fb (.cells true (cF (g f)))) := by
  obtain ⟨k, hk, hfn⟩ := getF_mem hg
  exact ⟨h.setF hg g hn hb, setF_ok ho h.names hg g hok, by simp, fun i _ hni => List.getElem?_set_ne (fun e => hni (.inr (.inr ⟨_, hk, e.symm⟩))), fun i hi => .inl ((DFoot.same (D' := Ev.setF D name g) (D := D) rfl (setF_fbs D name g hb) i).1 hi)⟩
theorem DStep.addF (h : DAt t n b D) (ho : DOk D) (hnt : n ≤ t.length) {name : ByteArray} (hg : getF D name = none) (data : ByteArray) (hd : data.size ≤ 1048576) (hl : D.fs.length < 16) (x : List Blk) (hx : x = [.cells true (cF ⟨name, data, 0, t.length⟩)]) :
    DStep n b D (Ev.addF D name data t.length) t ((t ++ x).set D.mb (.map (D.fs.map entF ++ [(.str name, .ptr t.length 0, D.clock)]) (D.clock + 1))) := by
  subst hx
  refine ⟨h.addF hnt hg data _ rfl, ⟨fun f hf => ?_, ?_, fun f hf => ?_, ?_⟩, by simp, fun i hi hn => ?_, fun i hi => ?_⟩
  · rcases List.mem_append.1 hf with k | k
    · exact ho.files f k
    · simp only [List.mem_singleton] at k; subst k
      exact ⟨Int.le_refl _, by simp, hd⟩
  · show (D.fs ++ _).length ≤ 16
    simp; omega
  · rcases List.mem_append.1 hf with k | k
    · have := ho.clock f k
      show f.2 < D.clock + 1
      omega
    · simp only [List.mem_singleton] at k; subst k
      show D.clock < D.clock + 1
      omega
  · show ((D.fs ++ [((⟨name, data, 0, t.length⟩ : Fil), D.clock)]).map (·.2)).Nodup
    rw [List.map_append, List.nodup_append]
    refine ⟨ho.stamps, by simp, ?_⟩
    intro i hi j hj
    simp only [List.map_cons, List.map_nil, List.mem_singleton] at hj
    subst hj
    obtain ⟨f, hf, rfl⟩ := List.mem_map.1 hi
    have := ho.clock f hf
    omega
  · rw [List.getElem?_set_ne (fun e => hn (.inr (.inl e.symm))), List.getElem?_append_left hi]
  · rcases hi with rfl | rfl | ⟨f, hf, rfl⟩
    · exact .inl (.inl rfl)
    · exact .inl (.inr (.inl rfl))
    · rcases List.mem_append.1 hf with k | k
      · exact .inl (.inr (.inr ⟨f, k, rfl⟩))
      · simp only [List.mem_singleton] at k; subst k
        exact .inr (Nat.le_refl _)
end

def gone (D : Dsk) : Prop := D.armed = true ∧ D.left = 0
instance (D : Dsk) : Decidable (gone D) := inferInstanceAs (Decidable (_ ∧ _))
def spendC (D : Dsk) : Int := if gone D then 60 else 0
def spendV (D : Dsk) : Dsk := if gone D then loseD D D.keep else spendD D
set_option maxHeartbeats 1000000 in
theorem spend_g (t : St) (n b : Nat) (D : Dsk) (hD : DAt t n b D) (hO : DOk D) : Run T f_files_Disk_spend [.ptr b 0] t fun v t' => v = .int .i64 (spendC D) ∧ DStep n b D (spendV D) t t' := by
  unfold spendC spendV
  by_cases h : gone D
  · rw [if_pos h, if_pos h]
    obtain ⟨h1, h2⟩ := h
    obtain ⟨_, _, l2, l3, l4, _⟩ := hD.ld
    rw [h1] at l2
    refine run_body (F := r_files_Disk_spend) (has rfl) (by simp [r_files_Disk_spend]) ?_
    have hz : (D.left == 0) = true := by simp [h2]
    simp only [r_files_Disk_spend, XX, CC, YY, Nat.reduceAdd, Nat.reduceSub, Nat.reduceLeDiff, Nat.reduceLT, Nat.reduceEqDiff, reduceIte, ↓reduceIte, Nat.reduceBEq, l2, gv_tt, l3, hz, l4]
    refine (lose_r t n b D D.keep hD hO).use ?_
    (try simp only [XX, CC, YY, Nat.reduceAdd, Nat.reduceSub, Nat.reduceLeDiff, Nat.reduceLT, Nat.reduceEqDiff, reduceIte, ↓reduceIte, Nat.reduceBEq])
    exact .inl ⟨rfl, lose_step hD hO D.keep⟩
  · rw [if_neg h, if_neg h]
    refine (spend_r t n b D hD h).use ⟨rfl, DStep.setD hD hO rfl rfl rfl⟩

/-- the disk behind an append -/
def appM (D : Dsk) (name data : ByteArray) (fb : Nat) : Dsk := match getF D name with
  | some f => setF D name fun x => { x with data := x.data ++ data }
  | none => addF D name (bts [] ++ data) fb
def appV (D : Dsk) (name data : ByteArray) (fb : Nat) : Dsk := if appC D name data ≠ 0 then D else spendV (appM D name data fb)
def outC (D : Dsk) (c : Int) : Int := if c ≠ 0 then c else spendC D
set_option maxHeartbeats 4000000 in
theorem append_g (t : St) (n b : Nat) (D : Dsk) (name data : ByteArray) (hD : DAt t n b D) (hO : DOk D) (hnt : n ≤ t.length) (hs : name.size < 140737488355328) (hds : data.size < 140737488355328) :
    Run T f_files_Disk_Append [.ptr b 0, .str name, .str data] t fun v t' => v = .int .i64 (outC D (appC D name data)) ∧ DStep n b D (appV D name data t.length) t t' := by
  refine run_body (F := r_files_Disk_Append) (has rfl) (by simp [r_files_Disk_Append]) ?_
  have same : ∀ (v : AV) (c : Int), appC D name data = c → c ≠ 0 → v = .int .i64 c → (v = .int .i64 (outC D (appC D name data)) ∧ DStep n b D (appV D name data t.length) t t) := by
    rintro v c h1 h2 rfl
    exact ⟨by unfold outC; rw [h1, if_pos h2], by unfold appV; rw [if_pos (by rw [h1]; exact h2)]; exact .refl hD hO⟩
  have hcv := chkV_val D [name]
  have hval : appC D name data = if chkV D [name] ≠ 0 then chkV D [name] else match getF D name with
    | some f => if (data.size : Int) > 1048576 - f.data.size then 63 else 0
    | none => if D.fs.length ≥ 16 then 63 else if (data.size : Int) > 1048576 then 63 else 0 := rfl
  have hvD : appC D name data = 0 → appV D name data t.length = spendV (match getF D name with
    | some f => setF D name fun x => { x with data := x.data ++ data }
    | none => addF D name (bts [] ++ data) t.length) := fun h => by unfold appV; rw [if_neg (by rw [h]; simp)]; rfl
  have hvC : appC D name data = 0 → outC D (appC D name data) = spendC D := fun h => by unfold outC; rw [if_neg (by rw [h]; simp)]
  simp only [r_files_Disk_Append, XX, CC, YY, Nat.reduceAdd, Nat.reduceSub, Nat.reduceLeDiff, Nat.reduceLT, Nat.reduceEqDiff, reduceIte, ↓reduceIte, Nat.reduceBEq]
  refine (find_r t n b D name hD hs).use ?_
  unfold findV
  generalize chkV D [name] = e at *
  generalize outC D (appC D name data) = O at *
  generalize appC D name data = C at *
  generalize appV D name data t.length = D' at *
  have em : e = 0 ∨ ¬ e = 0 := Classical.em _
  rcases em with c | c
  · subst c
    rw [if_neg (by simp)] at hval ⊢
    have hm := hD.ld.1
    cases hg : getF D name with
    | some f =>
      rw [hg] at hval hvD
      simp only at hval hvD
      obtain ⟨k, hk, hfn⟩ := getF_mem hg
      have hfd := hO.files _ hk
      (try simp only at hfd)
      unfold FOk at hfd
      have hfat := (hD.file _ hk).2
      have l0 : ldA t none (.ptr f.fb 0) = some (.str f.data) := by rw [ld_own hfat]; rfl
      have hw : IntKind.i64.wrap (1048576 - (f.data.size : Int)) = 1048576 - (f.data.size : Int) := w64_in (by omega) (by omega)
      by_cases c2 : (data.size : Int) > 1048576 - f.data.size
      · rw [if_pos c2] at hval
        simp only [XX, CC, YY, Nat.reduceAdd, Nat.reduceSub, Nat.reduceLeDiff, Nat.reduceLT, Nat.reduceEqDiff, reduceIte, ↓reduceIte, Nat.reduceBEq, show ((0 : Int) == 0) = true from rfl, Bool.not_true, gv_tf, eqp_f, l0, hw, dec_t c2]
        exact .inl (same _ 63 hval (by decide) rfl)
      · rw [if_neg c2] at hval
        have hadd := add_s (a := f.data) (b := data) (by omega)
        have hst : stA t none (.ptr f.fb 0) (.str (f.data ++ data)) = some (t.set f.fb (.cells true (cF { f with data := f.data ++ data }))) := by
          rw [st_one (by rfl), wr_own hfat, if_pos ⟨by simp [cF], by rfl⟩]; rfl
        have hD1 := DStep.setF hD hO hg (fun x => { x with data := x.data ++ data }) (fun _ => rfl) (fun _ => rfl) (show FOk (f.data ++ data) f.safe from by unfold FOk; rw [app_size]; omega)
        (try simp only at hD1)
        have hg1 : ∃ f', getF (setF D name fun x => { x with data := x.data ++ data }) name = some f' ∧ f'.fb = f.fb := by
          rw [getF_setF D name (fun x => { x with data := x.data ++ data }) (fun _ => rfl), hg]
          exact ⟨_, rfl, rfl⟩
        obtain ⟨f', hg2, hfb⟩ := hg1
        have hmu := mup_same hD1.at_ hg2
        rw [hfb] at hmu
        have hm1 := hD1.at_.ld.1
        have hsp := spend_g _ n b _ hD1.at_ hD1.ok
        have hmm : (setF D name fun x => { x with data := x.data ++ data }).mb = D.mb := rfl
        rw [hmm] at hmu hm1
        simp only [XX, CC, YY, Nat.reduceAdd, Nat.reduceSub, Nat.reduceLeDiff, Nat.reduceLT, Nat.reduceEqDiff, reduceIte, ↓reduceIte, Nat.reduceBEq, show ((0 : Int) == 0) = true from rfl, Bool.not_true, gv_tf, eqp_f, l0, hw, dec_f c2, hadd, hst, hm1, hmu]
        refine Run.mono _ _ _ _ _ ?_ hsp
        rintro v t' ⟨rfl, h2⟩
        (try simp only [XX, CC, YY, Nat.reduceAdd, Nat.reduceSub, Nat.reduceLeDiff, Nat.reduceLT, Nat.reduceEqDiff, reduceIte, ↓reduceIte, Nat.reduceBEq])
        exact .inl ⟨by rw [hvC hval]; rfl, by rw [hvD hval]; exact hD1.trans h2⟩
    | none =>
      rw [hg] at hval hvD
      simp only at hval hvD
      have hmb : mapB t D.mb = some (D.fs.map entF, D.clock) := by unfold mapB; rw [hD.map]
      have hln : xtA t .lenm [.map D.mb] = some (.int .i64 D.fs.length, t) := by
        show (mapB t D.mb).map _ = _
        rw [hmb]; simp
      by_cases c2 : (D.fs.length : Int) ≥ 16
      · rw [if_pos (by omega)] at hval
        simp only [XX, CC, YY, Nat.reduceAdd, Nat.reduceSub, Nat.reduceLeDiff, Nat.reduceLT, Nat.reduceEqDiff, reduceIte, ↓reduceIte, Nat.reduceBEq, show ((62 : Int) == 0) = false from rfl, show ((62 : Int) == 62) = true from rfl, Bool.not_true, Bool.not_false, gv_tt, eqp_t, hm, hln, dec_t c2]
        exact .inl (same _ 63 hval (by decide) rfl)
      · rw [if_neg (by omega)] at hval
        have hb0 : boxA (some 2) (.agg [.str (bts []), .int .i64 0]) = some [.str (bts []), .int .i64 0] := rfl
        have hw : IntKind.i64.wrap (1048576 - ((bts []).size : Int)) = 1048576 := by
          rw [show (((bts []).size : Nat) : Int) = 0 from rfl, w64_in (by decide) (by decide)]; rfl
        have l0 : ldA (t ++ [Blk.cells true [.str (bts []), .int .i64 0]]) none (.ptr t.length 0) = some (.str (bts [])) := by rw [ld_own get_last]; rfl
        by_cases c3 : (data.size : Int) > 1048576
        · rw [if_pos c3] at hval
          simp only [XX, CC, YY, Nat.reduceAdd, Nat.reduceSub, Nat.reduceLeDiff, Nat.reduceLT, Nat.reduceEqDiff, reduceIte, ↓reduceIte, Nat.reduceBEq, show ((62 : Int) == 0) = false from rfl, show ((62 : Int) == 62) = true from rfl, Bool.not_true, Bool.not_false, gv_tt, eqp_t, hm, hln, dec_f c2, hb0, l0, hw, dec_t c3]
          refine ret_drop ⟨_, rfl⟩ rfl (same _ 63 hval (by decide) rfl)
        · rw [if_neg c3] at hval
          have hadd := add_s (a := bts []) (b := data) (by rw [show (bts []).size = 0 from rfl]; omega)
          have hlt := (List.getElem?_eq_some_iff.1 hD.cells).1
          have hx2 : Ext t (t ++ [.cells true [.str (bts [] ++ data), .int .i64 0]]) := ⟨_, rfl⟩
          have hm2 : ldA (t ++ [Blk.cells true [.str (bts [] ++ data), .int .i64 0]]) none (.ptr b 0) = some (.map D.mb) := ldA_ext hm _
          have hmu := mup_new (hD.ext hx2) hg t.length
          have hD2 := DStep.addF hD hO hnt hg (bts [] ++ data) (by rw [app_size, show (bts []).size = 0 from rfl]; omega) (by omega) _ rfl
          have hsp := spend_g _ n b _ hD2.at_ hD2.ok
          have hcF : cF ⟨name, bts [] ++ data, 0, t.length⟩ = [.str (bts [] ++ data), .int .i64 0] := rfl
          rw [hcF] at hsp hD2
          simp only [XX, CC, YY, Nat.reduceAdd, Nat.reduceSub, Nat.reduceLeDiff, Nat.reduceLT, Nat.reduceEqDiff, reduceIte, ↓reduceIte, Nat.reduceBEq, show ((62 : Int) == 0) = false from rfl, show ((62 : Int) == 62) = true from rfl, Bool.not_true, Bool.not_false, gv_tt, eqp_t, hm, hln, dec_f c2, hb0, l0, hw, dec_f c3, hadd, hm2, hmu]
          refine Run.mono _ _ _ _ _ ?_ hsp
          rintro v t' ⟨rfl, h2⟩
          (try simp only [XX, CC, YY, Nat.reduceAdd, Nat.reduceSub, Nat.reduceLeDiff, Nat.reduceLT, Nat.reduceEqDiff, reduceIte, ↓reduceIte, Nat.reduceBEq])
          exact .inl ⟨by rw [hvC hval]; rfl, by rw [hvD hval]; exact hD2.trans h2⟩
  · have c' : (e == 0) = false := by simp [c]
    have c2 : (e == 62) = false := by
      have : e ≠ 62 := by omega
      simp [this]
    rw [if_pos c] at hval ⊢
    simp only [XX, CC, YY, Nat.reduceAdd, Nat.reduceSub, Nat.reduceLeDiff, Nat.reduceLT, Nat.reduceEqDiff, reduceIte, ↓reduceIte, Nat.reduceBEq, c', Bool.not_false, gv_tt, c2]
    exact .inl (same _ e hval c rfl)

def syncV (D : Dsk) (name : ByteArray) : Dsk := if syncC D name ≠ 0 then D else if spendC D ≠ 0 then spendV D else setF (spendV D) name fun x => { x with safe := x.data.size }
theorem spendC_val (D : Dsk) : spendC D = 0 ∧ spendV D = spendD D ∨ spendC D = 60 ∧ spendV D = loseD D D.keep := by
  unfold spendC spendV
  split
  · exact .inr ⟨rfl, rfl⟩
  · exact .inl ⟨rfl, rfl⟩
set_option maxHeartbeats 2000000 in
theorem sync_g (t : St) (n b : Nat) (D : Dsk) (name : ByteArray) (hD : DAt t n b D) (hO : DOk D) (hs : name.size < 140737488355328) :
    Run T f_files_Disk_Sync [.ptr b 0, .str name] t fun v t' => v = .int .i64 (outC D (syncC D name)) ∧ DStep n b D (syncV D name) t t' := by
  refine run_body (F := r_files_Disk_Sync) (has rfl) (by simp [r_files_Disk_Sync]) ?_
  have same : ∀ (v : AV) (c : Int), syncC D name = c → c ≠ 0 → v = .int .i64 c → (v = .int .i64 (outC D (syncC D name)) ∧ DStep n b D (syncV D name) t t) := by
    rintro v c h1 h2 rfl
    exact ⟨by unfold outC; rw [h1, if_pos h2], by unfold syncV; rw [if_pos (by rw [h1]; exact h2)]; exact .refl hD hO⟩
  have hval : syncC D name = if chkV D [name] ≠ 0 then chkV D [name] else match getF D name with
    | some _ => 0
    | none => 62 := rfl
  have hvD : syncC D name = 0 → syncV D name = if spendC D ≠ 0 then spendV D else setF (spendV D) name fun x => { x with safe := x.data.size } := fun h => by unfold syncV; rw [if_neg (by rw [h]; simp)]
  have hvC : syncC D name = 0 → outC D (syncC D name) = spendC D := fun h => by unfold outC; rw [if_neg (by rw [h]; simp)]
  simp only [r_files_Disk_Sync, XX, CC, YY, Nat.reduceAdd, Nat.reduceSub, Nat.reduceLeDiff, Nat.reduceLT, Nat.reduceEqDiff, reduceIte, ↓reduceIte, Nat.reduceBEq]
  refine (find_r t n b D name hD hs).use ?_
  unfold findV
  generalize chkV D [name] = e at *
  generalize outC D (syncC D name) = O at *
  generalize syncC D name = C at *
  generalize syncV D name = D' at *
  have em : e = 0 ∨ ¬ e = 0 := Classical.em _
  rcases em with c | c
  · subst c
    rw [if_neg (by simp)] at hval ⊢
    cases hg : getF D name with
    | none =>
      rw [hg] at hval
      simp only [XX, CC, YY, Nat.reduceAdd, Nat.reduceSub, Nat.reduceLeDiff, Nat.reduceLT, Nat.reduceEqDiff, reduceIte, ↓reduceIte, Nat.reduceBEq, show ((62 : Int) == 0) = false from rfl, Bool.not_false]
      exact .inl (same _ 62 hval (by decide) rfl)
    | some f =>
      rw [hg] at hval
      simp only at hval
      obtain ⟨k, hk, hfn⟩ := getF_mem hg
      have hfd : FOk f.data f.safe := hO.files _ hk
      simp only [XX, CC, YY, Nat.reduceAdd, Nat.reduceSub, Nat.reduceLeDiff, Nat.reduceLT, Nat.reduceEqDiff, reduceIte, ↓reduceIte, Nat.reduceBEq, show ((0 : Int) == 0) = true from rfl, Bool.not_true]
      refine Run.mono _ _ _ _ _ ?_ (spend_g t n b D hD hO)
      rintro v t' ⟨rfl, hst⟩
      rcases spendC_val D with ⟨h1, h2⟩ | ⟨h1, h2⟩
      · rw [h2] at hst
        rw [h1]
        have hgs : getF (spendD D) name = some f := by rw [getF_spend]; exact hg
        have hfat := (hst.at_.file (f, k) hk).2
        have l0 : ldA t' none (.ptr f.fb 0) = some (.str f.data) := by rw [ld_own hfat]; rfl
        have hsto : stA t' none (.ptr f.fb 1) (.int .i64 f.data.size) = some (t'.set f.fb (.cells true (cF { f with safe := f.data.size }))) := by
          rw [st_one (by rfl), wr_own hfat, if_pos ⟨by simp [cF], by rfl⟩]; rfl
        have hD2 := DStep.setF hst.at_ hst.ok hgs (fun x => { x with safe := x.data.size }) (fun _ => rfl) (fun _ => rfl) (by unfold FOk at hfd ⊢; simp only; omega)
        simp only [XX, CC, YY, Nat.reduceAdd, Nat.reduceSub, Nat.reduceLeDiff, Nat.reduceLT, Nat.reduceEqDiff, reduceIte, ↓reduceIte, Nat.reduceBEq, show ((0 : Int) == 0) = true from rfl, Bool.not_true, l0, hsto]
        refine .inl ⟨by rw [hvC hval, h1], ?_⟩
        rw [hvD hval, h1, if_neg (by simp), h2]
        exact hst.trans hD2
      · rw [h1]
        simp only [XX, CC, YY, Nat.reduceAdd, Nat.reduceSub, Nat.reduceLeDiff, Nat.reduceLT, Nat.reduceEqDiff, reduceIte, ↓reduceIte, Nat.reduceBEq, show ((60 : Int) == 0) = false from rfl, Bool.not_false]
        refine .inl ⟨by rw [hvC hval, h1], ?_⟩
        rw [hvD hval, h1, if_pos (by decide)]
        exact hst
  · have c' : (e == 0) = false := by simp [c]
    rw [if_pos c] at hval ⊢
    simp only [XX, CC, YY, Nat.reduceAdd, Nat.reduceSub, Nat.reduceLeDiff, Nat.reduceLT, Nat.reduceEqDiff, reduceIte, ↓reduceIte, Nat.reduceBEq, c', Bool.not_false]
    exact .inl (same _ e hval c rfl)
end Go.Ev

/-! The disk's operations, wherever the power goes: Cut, Off, On, Arm. -/
namespace Go.Ev
set_option linter.unusedVariables false
set_option linter.unusedSimpArgs false
open Go.Ev.So Go.Proofs

def cutV' (D : Dsk) (name : ByteArray) (m : Int) : Dsk := if cutC D name m ≠ 0 then D else if spendC D ≠ 0 then spendV D else setF (spendV D) name fun x => { x with data := x.data.extract 0 m.toNat, safe := m }
set_option maxHeartbeats 2000000 in
theorem dcut_g (t : St) (n b : Nat) (D : Dsk) (name : ByteArray) (m : Int) (hD : DAt t n b D) (hO : DOk D) (hs : name.size < 140737488355328) :
    Run T f_files_Disk_Cut [.ptr b 0, .str name, .int .i64 m] t fun v t' => v = .int .i64 (outC D (cutC D name m)) ∧ DStep n b D (cutV' D name m) t t' := by
  refine run_body (F := r_files_Disk_Cut) (has rfl) (by simp [r_files_Disk_Cut]) ?_
  have same : ∀ (v : AV) (c : Int), cutC D name m = c → c ≠ 0 → v = .int .i64 c → (v = .int .i64 (outC D (cutC D name m)) ∧ DStep n b D (cutV' D name m) t t) := by
    rintro v c h1 h2 rfl
    exact ⟨by unfold outC; rw [h1, if_pos h2], by unfold cutV'; rw [if_pos (by rw [h1]; exact h2)]; exact .refl hD hO⟩
  have hval : cutC D name m = if chkV D [name] ≠ 0 then chkV D [name] else match getF D name with
    | some f => if m < 0 ∨ m > f.data.size then 1 else 0
    | none => 62 := rfl
  have hvD : cutC D name m = 0 → cutV' D name m = if spendC D ≠ 0 then spendV D else setF (spendV D) name fun x => { x with data := x.data.extract 0 m.toNat, safe := m } := fun h => by unfold cutV'; rw [if_neg (by rw [h]; simp)]
  have hvC : cutC D name m = 0 → outC D (cutC D name m) = spendC D := fun h => by unfold outC; rw [if_neg (by rw [h]; simp)]
  simp only [r_files_Disk_Cut, XX, CC, YY, Nat.reduceAdd, Nat.reduceSub, Nat.reduceLeDiff, Nat.reduceLT, Nat.reduceEqDiff, reduceIte, ↓reduceIte, Nat.reduceBEq]
  refine (find_r t n b D name hD hs).use ?_
  unfold findV
  generalize chkV D [name] = e at *
  generalize outC D (cutC D name m) = O at *
  generalize cutC D name m = C at *
  generalize cutV' D name m = D' at *
  have em : e = 0 ∨ ¬ e = 0 := Classical.em _
  rcases em with c | c
  · subst c
    rw [if_neg (by simp)] at hval ⊢
    cases hg : getF D name with
    | none =>
      rw [hg] at hval
      simp only [XX, CC, YY, Nat.reduceAdd, Nat.reduceSub, Nat.reduceLeDiff, Nat.reduceLT, Nat.reduceEqDiff, reduceIte, ↓reduceIte, Nat.reduceBEq, show ((62 : Int) == 0) = false from rfl, Bool.not_false]
      exact .inl (same _ 62 hval (by decide) rfl)
    | some f =>
      rw [hg] at hval
      simp only at hval
      obtain ⟨k, hk, hfn⟩ := getF_mem hg
      have hfd : FOk f.data f.safe := hO.files _ hk
      have l00 : ldA t none (.ptr f.fb 0) = some (.str f.data) := by rw [ld_own (hD.file _ hk).2]; rfl
      have em1 : m < 0 ∨ ¬ m < 0 := Classical.em _
      rcases em1 with c1 | c1
      · rw [if_pos (.inl c1)] at hval
        simp only [XX, CC, YY, Nat.reduceAdd, Nat.reduceSub, Nat.reduceLeDiff, Nat.reduceLT, Nat.reduceEqDiff, reduceIte, ↓reduceIte, Nat.reduceBEq, show ((0 : Int) == 0) = true from rfl, Bool.not_true, dec_t c1, gv_ft, gv_u]
        exact .inl (same _ 1 hval (by decide) rfl)
      have em2 : m > (f.data.size : Int) ∨ ¬ m > (f.data.size : Int) := Classical.em _
      rcases em2 with c2 | c2
      · rw [if_pos (.inr c2)] at hval
        simp only [XX, CC, YY, Nat.reduceAdd, Nat.reduceSub, Nat.reduceLeDiff, Nat.reduceLT, Nat.reduceEqDiff, reduceIte, ↓reduceIte, Nat.reduceBEq, show ((0 : Int) == 0) = true from rfl, Bool.not_true, dec_f c1, gv_ff, l00, dec_t c2]
        exact .inl (same _ 1 hval (by decide) rfl)
      rw [if_neg (by omega)] at hval
      simp only [XX, CC, YY, Nat.reduceAdd, Nat.reduceSub, Nat.reduceLeDiff, Nat.reduceLT, Nat.reduceEqDiff, reduceIte, ↓reduceIte, Nat.reduceBEq, show ((0 : Int) == 0) = true from rfl, Bool.not_true, dec_f c1, gv_ff, l00, dec_f c2]
      refine Run.mono _ _ _ _ _ ?_ (spend_g t n b D hD hO)
      rintro v t' ⟨rfl, hst⟩
      rcases spendC_val D with ⟨h1, h2⟩ | ⟨h1, h2⟩
      · rw [h2] at hst
        rw [h1]
        have hgs : getF (spendD D) name = some f := by rw [getF_spend]; exact hg
        have hfat := (hst.at_.file (f, k) hk).2
        have l0 : ldA t' none (.ptr f.fb 0) = some (.str f.data) := by rw [ld_own hfat]; rfl
        have hsl : slsA (.str f.data) none (some (.int .i64 m)) = some (.str (f.data.extract 0 m.toNat)) := by
          simp only [slsA, boundA]
          rw [if_pos (by omega)]
        have hsto : stA t' none (.ptr f.fb 0) (.str (f.data.extract 0 m.toNat)) = some (t'.set f.fb (.cells true (cF { f with data := f.data.extract 0 m.toNat }))) := by
          rw [st_one (by rfl), wr_own hfat, if_pos ⟨by simp [cF], by rfl⟩]; rfl
        have hkey : (t'.set f.fb (.cells true (cF { f with data := f.data.extract 0 m.toNat })))[f.fb]? = some (.cells true (cF { f with data := f.data.extract 0 m.toNat })) := key_set (List.getElem?_eq_some_iff.1 hfat).1
        have hsto2 : wrA (t'.set f.fb (.cells true (cF { f with data := f.data.extract 0 m.toNat }))) f.fb 1 [AV.int .i64 m] = some (t'.set f.fb (.cells true (cF { f with data := f.data.extract 0 m.toNat, safe := m }))) := by
          rw [wr_own hkey, if_pos ⟨by simp [cF], by rfl⟩, List.set_set]; rfl
        have hsz := extract_size (d := f.data) (n := m) (by omega) (by omega)
        have hD2 := DStep.setF hst.at_ hst.ok hgs (fun x => { x with data := x.data.extract 0 m.toNat, safe := m }) (fun _ => rfl) (fun _ => rfl) (by unfold FOk at hfd ⊢; simp only; omega)
        simp only [XX, CC, YY, Nat.reduceAdd, Nat.reduceSub, Nat.reduceLeDiff, Nat.reduceLT, Nat.reduceEqDiff, reduceIte, ↓reduceIte, Nat.reduceBEq, show ((0 : Int) == 0) = true from rfl, Bool.not_true, l0, hsl, hsto, hsto2]
        refine .inl ⟨by rw [hvC hval, h1], ?_⟩
        rw [hvD hval, h1, if_neg (by simp), h2]
        exact hst.trans hD2
      · rw [h1]
        simp only [XX, CC, YY, Nat.reduceAdd, Nat.reduceSub, Nat.reduceLeDiff, Nat.reduceLT, Nat.reduceEqDiff, reduceIte, ↓reduceIte, Nat.reduceBEq, show ((60 : Int) == 0) = false from rfl, Bool.not_false]
        refine .inl ⟨by rw [hvC hval, h1], ?_⟩
        rw [hvD hval, h1, if_pos (by decide)]
        exact hst
  · have c' : (e == 0) = false := by simp [c]
    rw [if_pos c] at hval ⊢
    simp only [XX, CC, YY, Nat.reduceAdd, Nat.reduceSub, Nat.reduceLeDiff, Nat.reduceLT, Nat.reduceEqDiff, reduceIte, ↓reduceIte, Nat.reduceBEq, c', Bool.not_false]
    exact .inl (same _ e hval c rfl)

def offV (D : Dsk) (keep : Int) : Dsk := if D.down then D else loseD D keep
theorem off_g (t : St) (n b : Nat) (D : Dsk) (keep : Int) (hD : DAt t n b D) (hO : DOk D) : Run T f_files_Disk_Off [.ptr b 0, .int .i64 keep] t fun v t' => v = .tup [] ∧ DStep n b D (offV D keep) t t' := by
  refine run_body (F := r_files_Disk_Off) (has rfl) (by simp [r_files_Disk_Off]) ?_
  have hd := hD.ld.2.1
  unfold offV
  cases c : D.down with
  | true =>
    rw [c] at hd
    simp only [r_files_Disk_Off, XX, CC, YY, Nat.reduceAdd, Nat.reduceSub, Nat.reduceLeDiff, Nat.reduceLT, Nat.reduceEqDiff, reduceIte, ↓reduceIte, Nat.reduceBEq, eqp_f, Bool.not_false, gv_tt, hd, Bool.not_true]
    exact .inl ⟨rfl, .refl hD hO⟩
  | false =>
    rw [c] at hd
    simp only [r_files_Disk_Off, XX, CC, YY, Nat.reduceAdd, Nat.reduceSub, Nat.reduceLeDiff, Nat.reduceLT, Nat.reduceEqDiff, reduceIte, ↓reduceIte, Nat.reduceBEq, eqp_f, Bool.not_false, gv_tt, hd]
    refine (lose_r t n b D keep hD hO).use ?_
    (try simp only [XX, CC, YY, Nat.reduceAdd, Nat.reduceSub, Nat.reduceLeDiff, Nat.reduceLT, Nat.reduceEqDiff, reduceIte, ↓reduceIte, Nat.reduceBEq])
    exact .inl ⟨rfl, lose_step hD hO keep⟩
theorem on_g (t : St) (n b : Nat) (D : Dsk) (hD : DAt t n b D) (hO : DOk D) : Run T f_files_Disk_On [.ptr b 0] t fun v t' => v = .tup [] ∧ DStep n b D (onD D) t t' :=
  (on_r t n b D hD).use ⟨rfl, DStep.setD hD hO rfl rfl rfl⟩
theorem armD_same (D : Dsk) (k keep : Int) : (armD D k keep).mb = D.mb ∧ (armD D k keep).clock = D.clock ∧ (armD D k keep).fs = D.fs := by
  unfold armD; split <;> exact ⟨rfl, rfl, rfl⟩
theorem arm_g (t : St) (n b : Nat) (D : Dsk) (k keep : Int) (hD : DAt t n b D) (hO : DOk D) : Run T f_files_Disk_Arm [.ptr b 0, .int .i64 k, .int .i64 keep] t fun v t' => v = .tup [] ∧ DStep n b D (armD D k keep) t t' := by
  refine Run.mono _ _ _ _ _ ?_ (arm_r t n b D k keep hD)
  rintro v t' ⟨rfl, rfl⟩
  obtain ⟨h1, h2, h3⟩ := armD_same D k keep
  exact ⟨rfl, DStep.setD hD hO h1 h2 h3⟩

/-- The blocks of a disk are as they were. -/
theorem lose_fbs (D : Dsk) (keep : Int) : (loseD D keep).fs.map (·.1.fb) = D.fs.map (·.1.fb) := by
  show (D.fs.map fun f => (loseF keep f.1, f.2)).map (·.1.fb) = _
  rw [List.map_map]; rfl
theorem spend_fbs (D : Dsk) : (spendV D).mb = D.mb ∧ (spendV D).fs.map (·.1.fb) = D.fs.map (·.1.fb) := by
  unfold spendV; split
  · exact ⟨rfl, lose_fbs D D.keep⟩
  · exact ⟨rfl, rfl⟩
theorem cut_foot (D : Dsk) (name : ByteArray) (m : Int) (b i : Nat) : DFoot b (cutV' D name m) i ↔ DFoot b D i := by
  obtain ⟨h1, h2⟩ := spend_fbs D
  refine DFoot.same (D := D) ?_ ?_ i
  · unfold cutV'; split
    · rfl
    · split
      · exact h1
      · exact h1
  · unfold cutV'; split
    · rfl
    · split
      · exact h2
      · exact (setF_fbs (spendV D) name (fun x => { x with data := x.data.extract 0 m.toNat, safe := m }) fun _ => rfl).trans h2
end Go.Ev

/-! The log: Append, Sync, Open. -/
namespace Go.Ev
set_option linter.unusedVariables false
set_option linter.unusedSimpArgs false
open Go.Ev.So Go.Proofs

/-- A call in a region that draws its order, with which nothing else is out of order. -/
theorem dr_callf {T : Nat → Option RF} {n0 i : Nat} {d : Option Nat} {f : Nat} {xs_ : List AV} {H : List (Nat × St × St)} {L : List (Nat × Nat)} {e : Env} {s : St} {next : DrK} {k : AV → St → Prop} (h : Run T f xs_ s k)
    (hn : ∀ v t, k v t → next ((i, s, t) :: H) L (putO e d v) t) : drCall T n0 d f xs_ [] [] i H L e s next := by
  obtain ⟨v, t, hk, hr⟩ := h.det
  exact ⟨v, t, hr, fun j hj => by simp at hj, fun a ha => by simp at ha, hn v t hk⟩
/-- From a log and its disk to a log and its disk. -/
structure LStep (n k : Nat) (L L' : Lg) (D D' : Dsk) (t t' : St) : Prop where
  at_ : DAt t' n L.db D'
  ok : DOk D'
  db : L'.db = L.db
  name : L'.name = L.name
  log : t'[k]? = some (.cells true (cG L'))
  len : t.length ≤ t'.length
  same : ∀ i, i < t.length → ¬ DFoot L.db D i → i ≠ k → t'[i]? = t[i]?
  foot : ∀ i, DFoot L.db D' i → DFoot L.db D i ∨ t.length ≤ i
section
variable {n k : Nat} {L L' L2 : Lg} {D D' D2 : Dsk} {t t1 t2 : St}
theorem LStep.trans (h : LStep n k L L' D D' t t1) (g : LStep n k L' L2 D' D2 t1 t2) : LStep n k L L2 D D2 t t2 := by
  have e := h.db
  refine ⟨by rw [← e]; exact g.at_, g.ok, g.db.trans e, g.name.trans h.name, g.log, Nat.le_trans h.len g.len, fun i hi hn hk => ?_, fun i hi => ?_⟩
  · have hl := h.len
    rw [g.same i (by omega) (fun hf => by rw [e] at hf; exact (h.foot i hf).elim hn (by omega)) hk]
    exact h.same i hi hn hk
  · have hl := h.len
    rcases g.foot i (by rw [e]; exact hi) with x | x
    · rw [e] at x; exact h.foot i x
    · exact .inr (by omega)
/-- The log's cells are written. -/
theorem LStep.set (hD : DAt t n L.db D) (hO : DOk D) (hL : t[k]? = some (.cells true (cG L))) (hk : ¬ DFoot L.db D k) (h1 : L'.db = L.db) (h2 : L'.name = L.name) : LStep n k L L' D D t (t.set k (.cells true (cG L'))) :=
  ⟨hD.other fun i hi => List.getElem?_set_ne (fun e => hk (by rw [e]; exact hi)), hO, h1, h2, key_set (List.getElem?_eq_some_iff.1 hL).1, by simp, fun i _ _ hi => List.getElem?_set_ne (fun e => hi e.symm), fun i hi => .inl hi⟩
theorem LStep.disk (hL : t[k]? = some (.cells true (cG L))) (hk : ¬ DFoot L.db D k) (h : DStep n L.db D D' t t1) : LStep n k L L D D' t t1 :=
  ⟨h.at_, h.ok, rfl, rfl, by rw [h.same k (List.getElem?_eq_some_iff.1 hL).1 hk]; exact hL, h.len, fun i hi hn _ => h.same i hi hn, h.foot⟩
theorem LStep.out (hL : t[k]? = some (.cells true (cG L))) (hk : ¬ DFoot L.db D k) (h : LStep n k L L' D D' t t1) : ¬ DFoot L'.db D' k := fun hf => by
  rw [h.db] at hf
  have := (List.getElem?_eq_some_iff.1 hL).1
  exact (h.foot k hf).elim hk (by omega)
end

def lgOff (L : Lg) (D : Dsk) : Bool := L.ended || D.down
def appCode (L : Lg) (D : Dsk) (p : ByteArray) : Int := if lgOff L D then 60 else if (frameV p).2 ≠ 0 then (frameV p).2 else outC D (appC D L.name (frameV p).1)
def appDisk (L : Lg) (D : Dsk) (p : ByteArray) (fb : Nat) : Dsk := if lgOff L D then D else if (frameV p).2 ≠ 0 then D else appV D L.name (frameV p).1 fb
def appLog (L : Lg) (D : Dsk) (p : ByteArray) : Lg := { L with
  size := if lgOff L D = false ∧ (frameV p).2 = 0 ∧ outC D (appC D L.name (frameV p).1) = 0 then IntKind.i64.wrap (L.size + ((frameV p).1.size : Int)) else L.size
  ended := if lgOff L D then true else if (frameV p).2 ≠ 0 then false else decide (outC D (appC D L.name (frameV p).1) = 60) }
theorem frameV_size (p : ByteArray) (h : p.size < 1000000) : (frameV p).1.size < 10000000 := by
  unfold frameV
  split
  · simp only [app_size, put4_size]; omega
  · decide
set_option maxHeartbeats 4000000 in
theorem lgappend_r (t : St) (n k : Nat) (L : Lg) (D : Dsk) (p : ByteArray) (hL : t[k]? = some (.cells true (cG L))) (hD : DAt t n L.db D) (hO : DOk D) (hnt : n ≤ t.length) (hk : ¬ DFoot L.db D k) (hs : L.name.size < 140737488355328) (hp : p.size < 1000000) :
    Run T f_wal_Log_Append [.ptr k 0, .str p] t fun v t' => v = .int .i64 (appCode L D p) ∧ LStep n k L (appLog L D p) D (appDisk L D p t.length) t t' := by
  refine run_body (F := r_wal_Log_Append) (has rfl) (by simp [r_wal_Log_Append]) ?_
  have hset : ∀ L', L'.db = L.db → L'.name = L.name → LStep n k L L' D D t (t.set k (.cells true (cG L'))) := fun L' h1 h2 => LStep.set hD hO hL hk h1 h2
  have hlt := (List.getElem?_eq_some_iff.1 hL).1
  simp only [r_wal_Log_Append, XX, CC, YY, Nat.reduceAdd, Nat.reduceSub, Nat.reduceLeDiff, Nat.reduceLT, Nat.reduceEqDiff, reduceIte, ↓reduceIte, Nat.reduceBEq]
  refine (lgcheck_r t n k L D hL hD).use ?_
  unfold appCode appDisk
  cases c : lgOff L D with
  | true =>
    have c' : (L.ended || D.down) = true := c
    rw [c', if_pos rfl]
    simp only [XX, CC, YY, Nat.reduceAdd, Nat.reduceSub, Nat.reduceLeDiff, Nat.reduceLT, Nat.reduceEqDiff, reduceIte, ↓reduceIte, Nat.reduceBEq, show ((60 : Int) == 0) = false from rfl, Bool.not_false]
    refine .inl ⟨rfl, ?_⟩
    have e : appLog L D p = lgEnd L true := by
      unfold appLog lgEnd; rw [c]; simp
    rw [e]
    exact hset _ rfl rfl
  | false =>
    have c' : (L.ended || D.down) = false := c
    rw [c', if_neg (by simp)]
    have hl := frameV_size p hp
    have hfr := frame_r (T := T) (t.set k (.cells true (cG (lgEnd L false)))) p (by omega)
    simp only [XX, CC, YY, Nat.reduceAdd, Nat.reduceSub, Nat.reduceLeDiff, Nat.reduceLT, Nat.reduceEqDiff, reduceIte, ↓reduceIte, Nat.reduceBEq, show ((0 : Int) == 0) = true from rfl, Bool.not_true]
    refine hfr.use ?_
    have em : (frameV p).2 = 0 ∨ ¬ (frameV p).2 = 0 := Classical.em _
    rcases em with e | e
    rotate_left
    · have e' : ((frameV p).2 == 0) = false := by simp [e]
      simp only [XX, CC, YY, Nat.reduceAdd, Nat.reduceSub, Nat.reduceLeDiff, Nat.reduceLT, Nat.reduceEqDiff, reduceIte, ↓reduceIte, Nat.reduceBEq, e', Bool.not_false]
      have ee : (frameV p).2 ≠ 0 := e
      rw [if_pos ee, if_pos ee]
      have e2 : appLog L D p = lgEnd L false := by
        unfold appLog lgEnd; rw [c]; simp [e]
      rw [e2]
      exact .inl ⟨rfl, hset _ rfl rfl⟩
    have hs1 := hset (lgEnd L false) rfl rfl
    have hln : (t.set k (.cells true (cG (lgEnd L false)))).length = t.length := by simp
    obtain ⟨l0, l1, l2, l3⟩ := lgld hs1.log
    have ha := append_g _ n L.db D L.name (frameV p).1 hs1.at_ hO (by rw [hln]; exact hnt) hs (by omega)
    rw [hln] at ha
    have e' : ((frameV p).2 == 0) = true := by simp [e]
    have hld : (lgEnd L false).db = L.db := rfl
    have hlm : (lgEnd L false).name = L.name := rfl
    rw [hld] at l0
    rw [hlm] at l1
    simp only [XX, CC, YY, Nat.reduceAdd, Nat.reduceSub, Nat.reduceLeDiff, Nat.reduceLT, Nat.reduceEqDiff, reduceIte, ↓reduceIte, Nat.reduceBEq, e', Bool.not_true]
    refine drw_in [] rfl ?_
    simp only [List.append_nil, DD, CC, YY, Nat.reduceAdd, Nat.reduceSub, Nat.reduceLeDiff, Nat.reduceLT, Nat.reduceEqDiff, reduceIte, ↓reduceIte, Nat.reduceBEq, l0, l1]
    refine dr_callf ha ?_
    rintro v t' ⟨rfl, hst⟩
    have ee : ¬ ((frameV p).2 ≠ 0) := fun h => h e
    rw [if_neg ee, if_neg ee]
    have hs2 : LStep n k (lgEnd L false) (lgEnd L false) D (appV D L.name (frameV p).1 t.length) (t.set k (.cells true (cG (lgEnd L false)))) t' := LStep.disk hs1.log hk hst
    have hs3 := hs1.trans hs2
    have hk3 := hs3.out hL hk
    generalize hO' : outC D (appC D L.name (frameV p).1) = O at *
    have fin : ∀ L', L' = appLog L D p → L'.db = L.db → L'.name = L.name → LStep n k L (appLog L D p) D (appV D L.name (frameV p).1 t.length) t (t'.set k (.cells true (cG L'))) := by
      rintro L' rfl h1 h2
      exact hs3.trans (LStep.set hs3.at_ hs3.ok hs3.log hk3 h1 h2)
    have lsz : ldA t' none (.ptr k 2) = some (.int .i64 L.size) := (lgld hs3.log).2.2.1
    have em2 : O = 0 ∨ ¬ O = 0 := Classical.em _
    rcases em2 with e3 | e3
    · have hsto : stA t' none (.ptr k 2) (.int .i64 (IntKind.i64.wrap (L.size + ((frameV p).1.size : Int)))) = some (t'.set k (.cells true (cG { L with size := IntKind.i64.wrap (L.size + ((frameV p).1.size : Int)), ended := false }))) := by
        rw [st_one (by rfl), wr_own hs3.log, if_pos ⟨by simp [cG], by rfl⟩]; rfl
      have e4 : (O == 0) = true := by simp [e3]
      simp only [DD, CC, YY, Nat.reduceAdd, Nat.reduceSub, Nat.reduceLeDiff, Nat.reduceLT, Nat.reduceEqDiff, reduceIte, ↓reduceIte, Nat.reduceBEq, e4, Bool.not_true, lsz, hsto]
      refine .inl ⟨rfl, fin _ ?_ rfl rfl⟩
      unfold appLog
      rw [c, hO', e3]; simp [e]
    · have e4 : (O == 0) = false := by simp [e3]
      have em3 : O = 60 ∨ ¬ O = 60 := Classical.em _
      rcases em3 with e5 | e5
      · have e6 : (O == 60) = true := by simp [e5]
        have hsto : stA t' none (.ptr k 3) (.bool true) = some (t'.set k (.cells true (cG { L with ended := true }))) := by
          rw [st_one (by rfl), wr_own hs3.log, if_pos ⟨by simp [cG], by rfl⟩]; rfl
        simp only [DD, CC, YY, Nat.reduceAdd, Nat.reduceSub, Nat.reduceLeDiff, Nat.reduceLT, Nat.reduceEqDiff, reduceIte, ↓reduceIte, Nat.reduceBEq, e4, e6, Bool.not_true, Bool.not_false, hsto]
        refine .inl ⟨rfl, fin _ ?_ rfl rfl⟩
        unfold appLog
        rw [c, hO', e5]; simp [e]
      · have e6 : (O == 60) = false := by simp [e5]
        have e7 : appLog L D p = lgEnd L false := by
          unfold appLog lgEnd
          rw [c, hO']; simp [e, e3, e5]
        simp only [DD, CC, YY, Nat.reduceAdd, Nat.reduceSub, Nat.reduceLeDiff, Nat.reduceLT, Nat.reduceEqDiff, reduceIte, ↓reduceIte, Nat.reduceBEq, e4, e6, Bool.not_true, Bool.not_false]
        rw [e7]
        exact .inl ⟨rfl, hs3⟩

def syncCode (L : Lg) (D : Dsk) : Int := if lgOff L D then 60 else if outC D (syncC D L.name) = 62 then 0 else outC D (syncC D L.name)
def syncDisk (L : Lg) (D : Dsk) : Dsk := if lgOff L D then D else syncV D L.name
def syncLog (L : Lg) (D : Dsk) : Lg := { L with ended := if lgOff L D then true else decide (outC D (syncC D L.name) = 60) }
set_option maxHeartbeats 4000000 in
theorem lgsync_r (t : St) (n k : Nat) (L : Lg) (D : Dsk) (hL : t[k]? = some (.cells true (cG L))) (hD : DAt t n L.db D) (hO : DOk D) (hk : ¬ DFoot L.db D k) (hs : L.name.size < 140737488355328) :
    Run T f_wal_Log_Sync [.ptr k 0] t fun v t' => v = .int .i64 (syncCode L D) ∧ LStep n k L (syncLog L D) D (syncDisk L D) t t' := by
  refine run_body (F := r_wal_Log_Sync) (has rfl) (by simp [r_wal_Log_Sync]) ?_
  have hset : ∀ L', L'.db = L.db → L'.name = L.name → LStep n k L L' D D t (t.set k (.cells true (cG L'))) := fun L' h1 h2 => LStep.set hD hO hL hk h1 h2
  have hlt := (List.getElem?_eq_some_iff.1 hL).1
  simp only [r_wal_Log_Sync, XX, CC, YY, Nat.reduceAdd, Nat.reduceSub, Nat.reduceLeDiff, Nat.reduceLT, Nat.reduceEqDiff, reduceIte, ↓reduceIte, Nat.reduceBEq]
  refine (lgcheck_r t n k L D hL hD).use ?_
  unfold syncCode syncDisk
  cases c : lgOff L D with
  | true =>
    have c' : (L.ended || D.down) = true := c
    rw [c', if_pos rfl]
    simp only [XX, CC, YY, Nat.reduceAdd, Nat.reduceSub, Nat.reduceLeDiff, Nat.reduceLT, Nat.reduceEqDiff, reduceIte, ↓reduceIte, Nat.reduceBEq, show ((60 : Int) == 0) = false from rfl, Bool.not_false]
    refine .inl ⟨rfl, ?_⟩
    have e : syncLog L D = lgEnd L true := by
      unfold syncLog lgEnd; rw [c]; simp
    rw [e]
    exact hset _ rfl rfl
  | false =>
    have c' : (L.ended || D.down) = false := c
    rw [c', if_neg (by simp)]
    have hs1 := hset (lgEnd L false) rfl rfl
    obtain ⟨l0, l1, l2, l3⟩ := lgld hs1.log
    have ha := sync_g _ n L.db D L.name hs1.at_ hO hs
    have hld : (lgEnd L false).db = L.db := rfl
    have hlm : (lgEnd L false).name = L.name := rfl
    rw [hld] at l0
    rw [hlm] at l1
    simp only [XX, CC, YY, Nat.reduceAdd, Nat.reduceSub, Nat.reduceLeDiff, Nat.reduceLT, Nat.reduceEqDiff, reduceIte, ↓reduceIte, Nat.reduceBEq, show ((0 : Int) == 0) = true from rfl, Bool.not_true]
    refine drw_in [] rfl ?_
    simp only [List.append_nil, DD, CC, YY, Nat.reduceAdd, Nat.reduceSub, Nat.reduceLeDiff, Nat.reduceLT, Nat.reduceEqDiff, reduceIte, ↓reduceIte, Nat.reduceBEq, l0, l1]
    refine dr_callf ha ?_
    rintro v t' ⟨rfl, hst⟩
    have hs2 : LStep n k (lgEnd L false) (lgEnd L false) D (syncV D L.name) (t.set k (.cells true (cG (lgEnd L false)))) t' := LStep.disk hs1.log hk hst
    have hs3 := hs1.trans hs2
    have hk3 := hs3.out hL hk
    generalize hO' : outC D (syncC D L.name) = O at *
    have fin : ∀ L', L' = syncLog L D → L'.db = L.db → L'.name = L.name → LStep n k L (syncLog L D) D (syncV D L.name) t (t'.set k (.cells true (cG L'))) := by
      rintro L' rfl h1 h2
      exact hs3.trans (LStep.set hs3.at_ hs3.ok hs3.log hk3 h1 h2)
    have em2 : O = 62 ∨ ¬ O = 62 := Classical.em _
    rcases em2 with e3 | e3
    · have e4 : (O == 62) = true := by simp [e3]
      have e7 : syncLog L D = lgEnd L false := by
        unfold syncLog lgEnd
        rw [c, hO', e3]; simp
      simp only [DD, CC, YY, Nat.reduceAdd, Nat.reduceSub, Nat.reduceLeDiff, Nat.reduceLT, Nat.reduceEqDiff, reduceIte, ↓reduceIte, Nat.reduceBEq, e4, Bool.not_true]
      rw [e7, if_pos e3]
      exact .inl ⟨rfl, hs3⟩
    · have e4 : (O == 62) = false := by simp [e3]
      rw [if_neg e3]
      have em3 : O = 60 ∨ ¬ O = 60 := Classical.em _
      rcases em3 with e5 | e5
      · have e6 : (O == 60) = true := by simp [e5]
        have hsto : stA t' none (.ptr k 3) (.bool true) = some (t'.set k (.cells true (cG { L with ended := true }))) := by
          rw [st_one (by rfl), wr_own hs3.log, if_pos ⟨by simp [cG], by rfl⟩]; rfl
        simp only [DD, CC, YY, Nat.reduceAdd, Nat.reduceSub, Nat.reduceLeDiff, Nat.reduceLT, Nat.reduceEqDiff, reduceIte, ↓reduceIte, Nat.reduceBEq, e4, e6, Bool.not_true, Bool.not_false, hsto]
        refine .inl ⟨rfl, fin _ ?_ rfl rfl⟩
        unfold syncLog
        rw [c, hO', e5]; simp
      · have e6 : (O == 60) = false := by simp [e5]
        have e7 : syncLog L D = lgEnd L false := by
          unfold syncLog lgEnd
          rw [c, hO']; simp [e5]
        simp only [DD, CC, YY, Nat.reduceAdd, Nat.reduceSub, Nat.reduceLeDiff, Nat.reduceLT, Nat.reduceEqDiff, reduceIte, ↓reduceIte, Nat.reduceBEq, e4, e6, Bool.not_true, Bool.not_false]
        rw [e7]
        exact .inl ⟨rfl, hs3⟩
end Go.Ev

/-! The reference's disk: where it lies, the loss of power. -/
namespace Go.Ev
set_option linter.unusedVariables false
set_option linter.unusedSimpArgs false
open Go.Ev.So Go.Proofs
variable {T : Nat → Option RF} [Has T]

section
variable {α : Type} {e n : Nat} {enc : α → List AV} {s t : St} {v : AV} {l : List α}
theorem set_fld (he : ∀ x, (enc x).length = e) (cs : List AV) {k : Nat} {u : AV} {q q' : α} (hk : k < e) (hq : enc q' = (enc q).set k u) : ∀ (L : List α) (i : Nat), L[i]? = some q → (L.flatMap enc ++ cs).set (i * e + k) u = (L.set i q').flatMap enc ++ cs
  | [], i, h => by simp at h
  | x :: L, 0, h => by
    have hx : x = q := by simpa using h
    rw [hx]
    simp only [List.flatMap_cons, List.set_cons_zero, Nat.zero_mul, Nat.zero_add, List.append_assoc]
    rw [List.set_append_left _ _ (by rw [he]; exact hk), hq]
  | x :: L, i + 1, h => by
    simp only [List.flatMap_cons, List.set_cons_succ, List.append_assoc]
    have e1 : (i + 1) * e + k = (enc x).length + (i * e + k) := by rw [he, Nat.succ_mul]; omega
    rw [e1, List.set_append_right _ _ (by omega), Nat.add_sub_cancel_left, set_fld he cs hk hq L i (by simpa using h)]
/-- A field of an element of an own slice is written. -/
theorem own_fld (he : ∀ x, (enc x).length = e) (h : Own n e enc t v l) {i : Nat} {q q' : α} (hi : l[i]? = some q) {k : Nat} {u : AV} (hk : k < e) (hu : u.cell = true) (hq : enc q' = (enc q).set k u) : ∃ b x, n ≤ b ∧ (∃ o e' k c, v = .sl b o e' k c) ∧ (∀ k : IntKind, ixaA e v (.int k (i : Int)) = some (.ptr b (i * e))) ∧
    stA t none (.ptr b (i * e + k)) u = some (t.set b x) ∧ Own n e enc (t.set b x) v (l.set i q') := by
  have hil := (List.getElem?_eq_some_iff.1 hi).1
  rcases h with ⟨_, h⟩ | ⟨b, c, cs, h3, h4, rfl, h5, h6⟩
  · rw [h] at hil; simp at hil
  · have hb := (List.getElem?_eq_some_iff.1 h5).1
    have hle : i * e + e ≤ (l.flatMap enc ++ cs).length := by
      rw [List.length_append, flat_len he]
      have : (i + 1) * e ≤ l.length * e := Nat.mul_le_mul_right _ hil
      rw [Nat.succ_mul] at this
      omega
    refine ⟨b, .cells true ((l.set i q').flatMap enc ++ cs), h3, ⟨_, _, _, _, rfl⟩, fun k => by rw [ixa_nat hil, Nat.zero_add], ?_, .inr ⟨b, c, cs, h3, by simpa using h4, by simp, key_set hb, h6⟩⟩
    rw [st_one hu, wr_own h5, if_pos ⟨by simp only [List.length_cons, List.length_nil]; omega, by simp [hu]⟩]
    rw [← set_fld he cs hk hq l i hi]; rfl
end

/-- The reference's disk lies at b. -/
structure RAt (t : St) (n b : Nat) (R : Rsk) : Prop where
  low : n ≤ b
  cells : t[b]? = some (.cells true (cE R))
  own : Own n 3 cT t R.v R.l
  apart : ∀ o e k c, R.v ≠ .sl b o e k c
def RFoot (b : Nat) (R : Rsk) (i : Nat) : Prop := i = b ∨ ∃ o e k c, R.v = .sl i o e k c
structure RStep (n b : Nat) (R R' : Rsk) (t t' : St) : Prop where
  at_ : RAt t' n b R'
  len : t.length ≤ t'.length
  same : ∀ i, i < t.length → ¬ RFoot b R i → t'[i]? = t[i]?
  foot : ∀ i, RFoot b R' i → RFoot b R i ∨ t.length ≤ i
theorem RAt.rd {t : St} {n b : Nat} {R : Rsk} (h : RAt t n b R) : Rd 3 cT t R.v R.l := h.own.rd cT_len
theorem RFoot.lt {t : St} {n b : Nat} {R : Rsk} (h : RAt t n b R) {i : Nat} (hi : RFoot b R i) : i < t.length := by
  rcases hi with rfl | ⟨o, e, k, c, hv⟩
  · exact (List.getElem?_eq_some_iff.1 h.cells).1
  · exact h.rd.lt hv
theorem RFoot.ge {t : St} {n b : Nat} {R : Rsk} (h : RAt t n b R) {i : Nat} (hi : RFoot b R i) : n ≤ i := by
  rcases hi with rfl | ⟨o, e, k, c, hv⟩
  · exact h.low
  · exact h.own.ge hv
theorem RStep.refl {n b : Nat} {R : Rsk} {t : St} (h : RAt t n b R) : RStep n b R R t t := ⟨h, Nat.le_refl _, fun _ _ _ => rfl, fun _ h => .inl h⟩
theorem RStep.trans {n b : Nat} {R R1 R2 : Rsk} {t t1 t2 : St} (h : RStep n b R R1 t t1) (k : RStep n b R1 R2 t1 t2) : RStep n b R R2 t t2 :=
  ⟨k.at_, Nat.le_trans h.len k.len, fun i hi hn => by
    have hl := h.len
    rw [k.same i (by omega) fun hf => (h.foot i hf).elim hn (by omega)]
    exact h.same i hi hn, fun i hi => by
    have hl := h.len
    rcases k.foot i hi with e | e
    · exact h.foot i e
    · exact .inr (by omega)⟩
theorem RAt.other {t t' : St} {n b : Nat} {R : Rsk} (h : RAt t n b R) (hs : ∀ i, RFoot b R i → t'[i]? = t[i]?) : RAt t' n b R :=
  ⟨h.low, by rw [hs b (.inl rfl)]; exact h.cells, h.own.keep fun i hi hv => by obtain ⟨o, e, k, c, hv⟩ := hv; exact hs i (.inr ⟨o, e, k, c, hv⟩), h.apart⟩
theorem RAt.ext {t t' : St} {n b : Nat} {R : Rsk} (h : RAt t n b R) (x : Ext t t') : RAt t' n b R := h.other fun i hi => x.get (hi.lt h)
/-- The disk's own cells are written. -/
theorem RStep.set {t : St} {n b : Nat} {R R' : Rsk} (h : RAt t n b R) (hv : R'.v = R.v) (hl : R'.l = R.l) : RStep n b R R' t (t.set b (.cells true (cE R'))) := by
  have hlt := (List.getElem?_eq_some_iff.1 h.cells).1
  refine ⟨⟨h.low, key_set hlt, ?_, fun o e k c => by rw [hv]; exact h.apart o e k c⟩, by simp, fun i _ hn => List.getElem?_set_ne (fun e => hn (.inl e.symm)), fun i hi => .inl ?_⟩
  · rw [hv, hl]
    exact h.own.keep fun i hi hvv => by
      obtain ⟨o, e, k, c, hvv⟩ := hvv
      exact List.getElem?_set_ne (fun eq => h.apart o e k c (by rw [eq]; exact hvv))
  · rcases hi with rfl | ⟨o, e, k, c, hv'⟩
    · exact .inl rfl
    · exact .inr ⟨o, e, k, c, by rw [← hv]; exact hv'⟩
/-- A field of a file is written. -/
theorem RStep.fld {t : St} {n b : Nat} {R : Rsk} (h : RAt t n b R) {i : Nat} {q q' : RFil} (hi : R.l[i]? = some q) {k : Nat} {u : AV} (hk : k < 3) (hu : u.cell = true) (hq : cT q' = (cT q).set k u) :
    ∃ b2 t', (∀ kd : IntKind, ixaA 3 R.v (.int kd (i : Int)) = some (.ptr b2 (i * 3))) ∧ stA t none (.ptr b2 (i * 3 + k)) u = some t' ∧ RStep n b R { R with l := R.l.set i q' } t t' := by
  obtain ⟨b2, x, h1, ⟨o, e', k', c, hv⟩, h3, h4, h5⟩ := own_fld cT_len h.own hi hk hu hq
  have hne : b2 ≠ b := fun e => h.apart o e' k' c (by rw [← e]; exact hv)
  refine ⟨b2, _, h3, h4, ⟨⟨h.low, ?_, h5, h.apart⟩, by simp, fun j _ hn => List.getElem?_set_ne (fun e => hn (.inr ⟨o, e', k', c, by rw [← e]; exact hv⟩)), fun j hj => .inl hj⟩⟩
  rw [List.getElem?_set_ne hne]; exact h.cells

/-- A file's loss. -/
def cutT (keep : Int) (f : RFil) : RFil := (f.1, f.2.1.extract 0 (keptF keep f.2.1 f.2.2).toNat, keptF keep f.2.1 f.2.2)
def rgone (R : Rsk) (keep : Int) : Rsk := { R with l := R.l.map (cutT keep), down := true, left := -1 }
def ROk (R : Rsk) : Prop := (∀ f ∈ R.l, FOk f.2.1 f.2.2) ∧ R.l.length ≤ 16
theorem map_take {α : Type} (f : α → α) (l : List α) (i : Nat) {x : α} (h : l[i]? = some x) : ((l.take i).map f ++ l.drop i).set i (f x) = (l.take (i + 1)).map f ++ l.drop (i + 1) := by
  have hil := (List.getElem?_eq_some_iff.1 h).1
  rw [List.set_append_right _ _ (by simp; omega)]
  have h1 : i - ((l.take i).map f).length = 0 := by simp; omega
  rw [h1, List.drop_eq_getElem_cons hil, List.set_cons_zero, List.take_add_one, h]
  simp
theorem map_at {α : Type} (f : α → α) (l : List α) (i : Nat) {x : α} (h : l[i]? = some x) : ((l.take i).map f ++ l.drop i)[i]? = some x := by
  have hil := (List.getElem?_eq_some_iff.1 h).1
  rw [List.getElem?_append_right (by simp; omega)]
  have h1 : i - ((l.take i).map f).length = 0 := by simp; omega
  rw [h1, List.getElem?_drop]
  simpa using h
set_option maxHeartbeats 4000000 in
theorem rgoes_r (t : St) (n b : Nat) (R : Rsk) (keep : Int) (h : RAt t n b R) (ho : ROk R) : Run T f_r06_Disk_goes [.ptr b 0, .int .i64 keep] t fun v t' => v = .tup [] ∧ RStep n b R (rgone R keep) t t' := by
  refine run_body (F := r_r06_Disk_goes) (has rfl) (by simp [r_r06_Disk_goes]) ?_
  simp only [r_r06_Disk_goes, XX, CC, YY, Nat.reduceAdd, Nat.reduceSub, Nat.reduceLeDiff, Nat.reduceLT, Nat.reduceEqDiff, reduceIte, ↓reduceIte, Nat.reduceBEq]
  have hlen : ∀ i, i ≤ R.l.length → ((R.l.take i).map (cutT keep) ++ R.l.drop i).length = R.l.length := fun i hi => by simp; omega
  refine awp_rounds (fun d e t' => ∃ i : Nat, i + d = R.l.length ∧ RStep n b R { R with l := (R.l.take i).map (cutT keep) ++ R.l.drop i } t t' ∧ e.get 0 = .ptr b 0 ∧ e.get 1 = .int .i64 keep ∧ e.get 4 = .int .i64 i) R.l.length ?_ ?_
  · refine ⟨0, by omega, ?_, ?_, ?_, ?_⟩
    · exact .refl h
    all_goals (try simp only [XX, CC, YY, Nat.reduceAdd, Nat.reduceSub, Nat.reduceLeDiff, Nat.reduceLT, Nat.reduceEqDiff, reduceIte, ↓reduceIte, Nat.reduceBEq])
    rfl
  rintro J d e t1 hJ ⟨i, hi, hst, g0, g1, g4⟩
  have hA := hst.at_
  have l0 := (rld hA.cells).1
  (try simp only at l0)
  have hrl := hA.rd.len
  (try simp only at hrl)
  rw [hlen i (by omega)] at hrl
  simp only [XX, CC, YY, Nat.reduceAdd, Nat.reduceSub, Nat.reduceLeDiff, Nat.reduceLT, Nat.reduceEqDiff, reduceIte, ↓reduceIte, Nat.reduceBEq, g0, g1, g4, l0, hrl]
  by_cases c : i < R.l.length
  · have hq : R.l[i]? = some (R.l[i]'c) := List.getElem?_eq_getElem _
    generalize R.l[i]'c = q at hq
    have hqok : FOk q.2.1 q.2.2 := ho.1 q (List.mem_of_getElem? hq)
    obtain ⟨k1, k2⟩ := kept_in (keep := keep) hqok
    have hqok' := hqok
    unfold FOk at hqok'
    have hq1 : ({ R with l := (R.l.take i).map (cutT keep) ++ R.l.drop i } : Rsk).l[i]? = some q := map_at (cutT keep) R.l i hq
    obtain ⟨b1, o1, j1, j2, j3, j4⟩ := rdT hA.rd hq1
    (try simp only at j1)
    have w1 : IntKind.i64.wrap ((q.2.1.size : Int) - q.2.2) = (q.2.1.size : Int) - q.2.2 := w64_in (by omega) (by omega)
    have w2 : IntKind.i64.wrap ((q.2.1.size : Int) - q.2.2 + 1) = (q.2.1.size : Int) - q.2.2 + 1 := w64_in (by omega) (by omega)
    have hw1 : IntKind.i64.wrap ((i : Int) + 1) = ((i + 1 : Nat) : Int) := by have := ho.2; rw [w64_in (by omega) (by omega)]; omega
    obtain ⟨b2, t2, f1, f2, f3⟩ := RStep.fld hA hq1 (k := 2) (u := .int .i64 (keptF keep q.2.1 q.2.2)) (q' := (q.1, q.2.1, keptF keep q.2.1 q.2.2)) (by decide) rfl rfl
    (try simp only at f1)
    have hA2 := f3.at_
    (try simp only at hA2)
    have hq2 : ({ R with l := ((R.l.take i).map (cutT keep) ++ R.l.drop i).set i (q.1, q.2.1, keptF keep q.2.1 q.2.2) } : Rsk).l[i]? = some (q.1, q.2.1, keptF keep q.2.1 q.2.2) := by
      show (((R.l.take i).map (cutT keep) ++ R.l.drop i).set i (q.1, q.2.1, keptF keep q.2.1 q.2.2))[i]? = _
      rw [List.getElem?_set_self (by rw [hlen i (by omega)]; exact c)]
    obtain ⟨b3, o3, m1, m2, m3, m4⟩ := rdT hA2.rd hq2
    (try simp only at m1)
    obtain ⟨b4, t4, p1, p2, p3⟩ := RStep.fld hA2 hq2 (k := 1) (u := .str (q.2.1.extract 0 (keptF keep q.2.1 q.2.2).toNat)) (q' := cutT keep q) (by decide) rfl rfl
    (try simp only at p1)
    have l02 := (rld hA2.cells).1
    (try simp only at l02)
    have hsl : slsA (.str q.2.1) none (some (.int .i64 (keptF keep q.2.1 q.2.2))) = some (.str (q.2.1.extract 0 (keptF keep q.2.1 q.2.2).toNat)) := by
      simp only [slsA, boundA]
      rw [if_pos (by omega)]
    have hb12 : (AV.ptr b1 o1) = .ptr b2 (i * 3) := by have := (j1 .i64).symm.trans (f1 .i64); simpa using this
    have hb34 : (AV.ptr b3 o3) = .ptr b4 (i * 3) := by have := (m1 .i64).symm.trans (p1 .i64); simpa using this
    simp only [AV.ptr.injEq] at hb12 hb34
    obtain ⟨rfl, rfl⟩ := hb12
    obtain ⟨rfl, rfl⟩ := hb34
    have hst4 := (hst.trans f3).trans p3
    have hset : ((((R.l.take i).map (cutT keep) ++ R.l.drop i).set i (q.1, q.2.1, keptF keep q.2.1 q.2.2)).set i (cutT keep q)) = (R.l.take (i + 1)).map (cutT keep) ++ R.l.drop (i + 1) := by
      rw [List.set_set]; exact map_take (cutT keep) R.l i hq
    (try simp only at hst4)
    rw [hset] at hst4
    have em : keep > 0 ∨ ¬ keep > 0 := Classical.em _
    rcases em with ck | ck
    · have hrem : binA .rem (.int .i64 keep) (.int .i64 ((q.2.1.size : Int) - q.2.2 + 1)) = some (.int .i64 (keep % ((q.2.1.size : Int) - q.2.2 + 1))) := by
        simp only [binA]
        rw [if_pos ⟨trivial, by omega⟩, Int.tmod_eq_emod_of_nonneg (by omega)]
      have hk0 : q.2.2 + keep % ((q.2.1.size : Int) - q.2.2 + 1) = keptF keep q.2.1 q.2.2 := by unfold keptF; rw [if_pos ck]
      have w3 : IntKind.i64.wrap (q.2.2 + keep % ((q.2.1.size : Int) - q.2.2 + 1)) = keptF keep q.2.1 q.2.2 := by rw [hk0]; exact w64_in (by omega) (by omega)
      simp only [dec_t (show (i : Int) < R.l.length by omega), XX, CC, YY, Nat.reduceAdd, Nat.reduceSub, Nat.reduceLeDiff, Nat.reduceLT, Nat.reduceEqDiff, reduceIte, ↓reduceIte, Nat.reduceBEq]
      refine drw_in [] rfl ?_
      simp only [List.append_nil, DD, CC, YY, Nat.reduceAdd, Nat.reduceSub, Nat.reduceLeDiff, Nat.reduceLT, Nat.reduceEqDiff, reduceIte, ↓reduceIte, Nat.reduceBEq, g0, g1, g4, l0, j1, j3, j4, w1]
      simp only [dec_t ck, DD, CC, YY, Nat.reduceAdd, Nat.reduceSub, Nat.reduceLeDiff, Nat.reduceLT, Nat.reduceEqDiff, reduceIte, ↓reduceIte, Nat.reduceBEq, g0, g1, g4, w2, hrem]
      refine drw_in [] rfl ?_
      simp only [List.append_nil, DD, CC, YY, Nat.reduceAdd, Nat.reduceSub, Nat.reduceLeDiff, Nat.reduceLT, Nat.reduceEqDiff, reduceIte, ↓reduceIte, Nat.reduceBEq, g0, g1, g4, l0, j1, j4, w3, f2]
      refine drw_in [] rfl ?_
      simp only [List.append_nil, DD, CC, YY, Nat.reduceAdd, Nat.reduceSub, Nat.reduceLeDiff, Nat.reduceLT, Nat.reduceEqDiff, reduceIte, ↓reduceIte, Nat.reduceBEq, g0, g1, g4, l02, m1, m3, m4, hsl, p2]
      refine hJ (d - 1) _ _ (by omega) ⟨i + 1, by omega, hst4, ?_, ?_, ?_⟩ <;> (try simp only [XX, CC, YY, Nat.reduceAdd, Nat.reduceSub, Nat.reduceLeDiff, Nat.reduceLT, Nat.reduceEqDiff, reduceIte, ↓reduceIte, Nat.reduceBEq, g0, g1, g4, hw1])
    · have hk0 : keptF keep q.2.1 q.2.2 = q.2.2 := by unfold keptF; rw [if_neg ck]
      have w3 : IntKind.i64.wrap (q.2.2 + 0) = keptF keep q.2.1 q.2.2 := by rw [hk0, Int.add_zero]; exact w64_in (by omega) (by omega)
      simp only [dec_t (show (i : Int) < R.l.length by omega), XX, CC, YY, Nat.reduceAdd, Nat.reduceSub, Nat.reduceLeDiff, Nat.reduceLT, Nat.reduceEqDiff, reduceIte, ↓reduceIte, Nat.reduceBEq]
      refine drw_in [] rfl ?_
      simp only [List.append_nil, DD, CC, YY, Nat.reduceAdd, Nat.reduceSub, Nat.reduceLeDiff, Nat.reduceLT, Nat.reduceEqDiff, reduceIte, ↓reduceIte, Nat.reduceBEq, g0, g1, g4, l0, j1, j3, j4, w1]
      simp only [dec_f ck, DD, CC, YY, Nat.reduceAdd, Nat.reduceSub, Nat.reduceLeDiff, Nat.reduceLT, Nat.reduceEqDiff, reduceIte, ↓reduceIte, Nat.reduceBEq, g0, g1, g4]
      refine drw_in [] rfl ?_
      simp only [List.append_nil, DD, CC, YY, Nat.reduceAdd, Nat.reduceSub, Nat.reduceLeDiff, Nat.reduceLT, Nat.reduceEqDiff, reduceIte, ↓reduceIte, Nat.reduceBEq, g0, g1, g4, l0, j1, j4, w3, f2]
      refine drw_in [] rfl ?_
      simp only [List.append_nil, DD, CC, YY, Nat.reduceAdd, Nat.reduceSub, Nat.reduceLeDiff, Nat.reduceLT, Nat.reduceEqDiff, reduceIte, ↓reduceIte, Nat.reduceBEq, g0, g1, g4, l02, m1, m3, m4, hsl, p2]
      refine hJ (d - 1) _ _ (by omega) ⟨i + 1, by omega, hst4, ?_, ?_, ?_⟩ <;> (try simp only [XX, CC, YY, Nat.reduceAdd, Nat.reduceSub, Nat.reduceLeDiff, Nat.reduceLT, Nat.reduceEqDiff, reduceIte, ↓reduceIte, Nat.reduceBEq, g0, g1, g4, hw1])
  · have hii : i = R.l.length := by omega
    subst hii
    rw [List.take_length, List.drop_length, List.append_nil] at hst
    have hA := hst.at_
    have s1 : stA t1 none (.ptr b (0 + 1)) (.bool true) = some (t1.set b (.cells true (cE { R with l := R.l.map (cutT keep), down := true }))) := by
      rw [st_one (by rfl), wr_own hA.cells, if_pos ⟨by simp [cE], by rfl⟩]; rfl
    have q1 := RStep.set (R' := { R with l := R.l.map (cutT keep), down := true }) hA rfl rfl
    have s2 : stA (t1.set b (.cells true (cE { R with l := R.l.map (cutT keep), down := true }))) none (.ptr b (0 + 2)) (.int .i64 (-1)) = some ((t1.set b (.cells true (cE { R with l := R.l.map (cutT keep), down := true }))).set b (.cells true (cE (rgone R keep)))) := by
      rw [st_one (by rfl), wr_own q1.at_.cells, if_pos ⟨by simp [cE], by rfl⟩]; rfl
    have s2' : wrA (t1.set b (.cells true (cE { R with l := R.l.map (cutT keep), down := true }))) b 2 [AV.int .i64 (-1)] = some ((t1.set b (.cells true (cE { R with l := R.l.map (cutT keep), down := true }))).set b (.cells true (cE (rgone R keep)))) := by
      rw [wr_own q1.at_.cells, if_pos ⟨by simp [cE], by rfl⟩]; rfl
    have q2 := RStep.set (R' := rgone R keep) q1.at_ rfl rfl
    simp only [dec_f (show ¬ ((R.l.length : Nat) : Int) < R.l.length by omega), XX, CC, YY, Nat.reduceAdd, Nat.reduceSub, Nat.reduceLeDiff, Nat.reduceLT, Nat.reduceEqDiff, reduceIte, ↓reduceIte, Nat.reduceBEq, g0, s1, s2, s2']
    exact .inl ⟨rfl, (hst.trans q1).trans q2⟩
end Go.Ev

/-! The reference's disk: power, put, Arm, Off, On. -/
namespace Go.Ev
set_option linter.unusedVariables false
set_option linter.unusedSimpArgs false
open Go.Ev.So Go.Proofs
variable {T : Nat → Option RF} [Has T]

def rpowV (R : Rsk) : Rsk := if R.left = 0 then rgone R R.keep else rpow R
set_option maxHeartbeats 1000000 in
theorem rpower_g (t : St) (n b : Nat) (R : Rsk) (h : RAt t n b R) (ho : ROk R) : Run T f_r06_Disk_power [.ptr b 0] t fun v t' => v = .bool (decide (R.left ≠ 0)) ∧ RStep n b R (rpowV R) t t' := by
  unfold rpowV
  have em : R.left = 0 ∨ ¬ R.left = 0 := Classical.em _
  rcases em with c | c
  · rw [if_pos c, dec_f (fun hh => hh c)]
    refine run_body (F := r_r06_Disk_power) (has rfl) (by simp [r_r06_Disk_power]) ?_
    obtain ⟨_, _, l2, l3, _⟩ := rld h.cells
    have hz : (R.left == 0) = true := by simp [c]
    simp only [r_r06_Disk_power, XX, CC, YY, Nat.reduceAdd, Nat.reduceSub, Nat.reduceLeDiff, Nat.reduceLT, Nat.reduceEqDiff, reduceIte, ↓reduceIte, Nat.reduceBEq, l2, hz, l3]
    refine Run.mono _ _ _ _ _ ?_ (rgoes_r t n b R R.keep h ho)
    rintro v t' ⟨rfl, hst⟩
    (try simp only [XX, CC, YY, Nat.reduceAdd, Nat.reduceSub, Nat.reduceLeDiff, Nat.reduceLT, Nat.reduceEqDiff, reduceIte, ↓reduceIte, Nat.reduceBEq])
    exact .inl ⟨rfl, hst⟩
  · rw [if_neg c, dec_t (show R.left ≠ 0 from c)]
    refine Run.mono _ _ _ _ _ ?_ (rpower_r t b R h.cells c)
    rintro v t' ⟨rfl, rfl⟩
    exact ⟨rfl, RStep.set h rfl rfl⟩
def rarm (R : Rsk) (k keep : Int) : Rsk := if R.down then R else { R with left := if k < 0 then -1 else k, keep := keep }
set_option maxHeartbeats 1000000 in
theorem rarm_g (t : St) (n b : Nat) (R : Rsk) (k keep : Int) (h : RAt t n b R) : Run T f_r06_Disk_Arm [.ptr b 0, .int .i64 k, .int .i64 keep] t fun v t' => v = .tup [] ∧ RStep n b R (rarm R k keep) t t' := by
  refine run_body (F := r_r06_Disk_Arm) (has rfl) (by simp [r_r06_Disk_Arm]) ?_
  have hd := (rld h.cells).2.1
  unfold rarm
  cases c : R.down with
  | true =>
    rw [c] at hd
    simp only [r_r06_Disk_Arm, XX, CC, YY, Nat.reduceAdd, Nat.reduceSub, Nat.reduceLeDiff, Nat.reduceLT, Nat.reduceEqDiff, reduceIte, ↓reduceIte, Nat.reduceBEq, eqp_f, gv_ff, hd]
    exact .inl ⟨rfl, .refl h⟩
  | false =>
    rw [c] at hd
    have a1 := RStep.set (R' := { R with left := k }) h rfl rfl
    have s1 : stA t none (.ptr b 2) (.int .i64 k) = some (t.set b (.cells true (cE { R with left := k }))) := by
      rw [st_one (by rfl), wr_own h.cells, if_pos ⟨by simp [cE], by rfl⟩]; rfl
    have em : k < 0 ∨ ¬ k < 0 := Classical.em _
    rcases em with c2 | c2
    · have a2 := RStep.set (R' := { R with left := -1 }) a1.at_ rfl rfl
      have s2 : wrA (t.set b (.cells true (cE { R with left := k }))) b 2 [AV.int .i64 (-1)] = some ((t.set b (.cells true (cE { R with left := k }))).set b (.cells true (cE { R with left := -1 }))) := by
        rw [wr_own a1.at_.cells, if_pos ⟨by simp [cE], by rfl⟩]; rfl
      have a3 := RStep.set (R' := { R with left := -1, keep := keep }) a2.at_ rfl rfl
      have s3 : wrA ((t.set b (.cells true (cE { R with left := k }))).set b (.cells true (cE { R with left := -1 }))) b 3 [AV.int .i64 keep] = some (((t.set b (.cells true (cE { R with left := k }))).set b (.cells true (cE { R with left := -1 }))).set b (.cells true (cE { R with left := -1, keep := keep }))) := by
        rw [wr_own a2.at_.cells, if_pos ⟨by simp [cE], by rfl⟩]; rfl
      have s2' : stA (t.set b (.cells true (cE { R with left := k }))) none (.ptr b 2) (.int .i64 (-1)) = some ((t.set b (.cells true (cE { R with left := k }))).set b (.cells true (cE { R with left := -1 }))) := by rw [st_one (by rfl), s2]
      have s3' : stA ((t.set b (.cells true (cE { R with left := k }))).set b (.cells true (cE { R with left := -1 }))) none (.ptr b 3) (.int .i64 keep) = some (((t.set b (.cells true (cE { R with left := k }))).set b (.cells true (cE { R with left := -1 }))).set b (.cells true (cE { R with left := -1, keep := keep }))) := by rw [st_one (by rfl), s3]
      have e : RStep n b R (if false = true then R else { R with left := if k < 0 then -1 else k, keep := keep }) t (((t.set b (.cells true (cE { R with left := k }))).set b (.cells true (cE { R with left := -1 }))).set b (.cells true (cE { R with left := -1, keep := keep }))) := by
        rw [if_neg (by simp), if_pos c2]; exact (a1.trans a2).trans a3
      simp only [r_r06_Disk_Arm, XX, CC, YY, Nat.reduceAdd, Nat.reduceSub, Nat.reduceLeDiff, Nat.reduceLT, Nat.reduceEqDiff, reduceIte, ↓reduceIte, Nat.reduceBEq, eqp_f, gv_ff, hd, s1, dec_t c2, s2, s2', s3, s3']
      exact .inl ⟨rfl, by simpa [c2, c] using e⟩
    · have a3 := RStep.set (R' := { R with left := k, keep := keep }) a1.at_ rfl rfl
      have s3 : wrA (t.set b (.cells true (cE { R with left := k }))) b 3 [AV.int .i64 keep] = some ((t.set b (.cells true (cE { R with left := k }))).set b (.cells true (cE { R with left := k, keep := keep }))) := by
        rw [wr_own a1.at_.cells, if_pos ⟨by simp [cE], by rfl⟩]; rfl
      have s3' : stA (t.set b (.cells true (cE { R with left := k }))) none (.ptr b 3) (.int .i64 keep) = some ((t.set b (.cells true (cE { R with left := k }))).set b (.cells true (cE { R with left := k, keep := keep }))) := by rw [st_one (by rfl), s3]
      simp only [r_r06_Disk_Arm, XX, CC, YY, Nat.reduceAdd, Nat.reduceSub, Nat.reduceLeDiff, Nat.reduceLT, Nat.reduceEqDiff, reduceIte, ↓reduceIte, Nat.reduceBEq, eqp_f, gv_ff, hd, s1, dec_f c2, s3, s3']
      refine .inl ⟨rfl, ?_⟩
      simpa [c2, c] using a1.trans a3
def roff (R : Rsk) (keep : Int) : Rsk := if R.down then R else rgone R keep
theorem roff_g (t : St) (n b : Nat) (R : Rsk) (keep : Int) (h : RAt t n b R) (ho : ROk R) : Run T f_r06_Disk_Off [.ptr b 0, .int .i64 keep] t fun v t' => v = .tup [] ∧ RStep n b R (roff R keep) t t' := by
  refine run_body (F := r_r06_Disk_Off) (has rfl) (by simp [r_r06_Disk_Off]) ?_
  have hd := (rld h.cells).2.1
  unfold roff
  cases c : R.down with
  | true =>
    rw [c] at hd
    simp only [r_r06_Disk_Off, XX, CC, YY, Nat.reduceAdd, Nat.reduceSub, Nat.reduceLeDiff, Nat.reduceLT, Nat.reduceEqDiff, reduceIte, ↓reduceIte, Nat.reduceBEq, eqp_f, Bool.not_false, gv_tt, hd, Bool.not_true]
    exact .inl ⟨rfl, .refl h⟩
  | false =>
    rw [c] at hd
    simp only [r_r06_Disk_Off, XX, CC, YY, Nat.reduceAdd, Nat.reduceSub, Nat.reduceLeDiff, Nat.reduceLT, Nat.reduceEqDiff, reduceIte, ↓reduceIte, Nat.reduceBEq, eqp_f, Bool.not_false, gv_tt, hd]
    refine Run.mono _ _ _ _ _ ?_ (rgoes_r t n b R keep h ho)
    rintro v t' ⟨rfl, hst⟩
    (try simp only [XX, CC, YY, Nat.reduceAdd, Nat.reduceSub, Nat.reduceLeDiff, Nat.reduceLT, Nat.reduceEqDiff, reduceIte, ↓reduceIte, Nat.reduceBEq])
    exact .inl ⟨rfl, hst⟩
theorem ron_g (t : St) (n b : Nat) (R : Rsk) (h : RAt t n b R) : Run T f_r06_Disk_On [.ptr b 0] t fun v t' => v = .tup [] ∧ RStep n b R (ron R) t t' := by
  refine Run.mono _ _ _ _ _ ?_ (ron_r t b R h.cells)
  rintro v t' ⟨rfl, rfl⟩
  exact ⟨rfl, RStep.set h rfl rfl⟩

/-- A file is written whole. -/
theorem RStep.elt {t : St} {n b : Nat} {R : Rsk} (h : RAt t n b R) {i : Nat} (hi : i < R.l.length) (q : RFil) :
    ∃ b2 t', (∀ kd : IntKind, ixaA 3 R.v (.int kd (i : Int)) = some (.ptr b2 (i * 3))) ∧ stA t (some 3) (.ptr b2 (i * 3)) (.agg (cT q)) = some t' ∧ RStep n b R { R with l := R.l.set i q } t t' := by
  obtain ⟨b2, x, h1, ⟨o, e', k', c, hv⟩, h3, h4, _, h5⟩ := own_at cT_len cT_cell h.own hi q
  have hne : b2 ≠ b := fun e => h.apart o e' k' c (by rw [← e]; exact hv)
  refine ⟨b2, _, h3, h4, ⟨⟨h.low, ?_, h5, h.apart⟩, by simp, fun j _ hn => List.getElem?_set_ne (fun e => hn (.inr ⟨o, e', k', c, by rw [← e]; exact hv⟩)), fun j hj => .inl hj⟩⟩
  rw [List.getElem?_set_ne hne]; exact h.cells
def ltB (a b : ByteArray) : Bool := Op.bytesLess a.toList b.toList
theorem lss_S (a b : ByteArray) : binA .lss (.str a) (.str b) = some (.bool (ltB a b)) := rfl
/-- how many files stand ahead of a name -/
def posT (nm : ByteArray) : List RFil → Nat
  | [] => 0
  | g :: l => if ltB g.1 nm = true then posT nm l + 1 else 0
theorem posT_le (nm : ByteArray) : ∀ l : List RFil, posT nm l ≤ l.length
  | [] => Nat.le_refl _
  | g :: l => by
    unfold posT
    have := posT_le nm l
    split <;> simp <;> omega
def insT (f : RFil) (l : List RFil) : List RFil := l.take (posT f.1 l) ++ f :: l.drop (posT f.1 l)
def rzero : RFil := (bts [], bts [], 0)
theorem mid_set {α : Type} (l : List α) (i : Nat) (y x : α) (h : i ≤ l.length) : (l.take i ++ y :: l.drop i).set i x = l.take i ++ x :: l.drop i := by
  rw [List.set_append_right _ _ (by simp; omega)]
  have : i - (l.take i).length = 0 := by simp; omega
  rw [this, List.set_cons_zero]
theorem mid_len {α : Type} (l : List α) (i : Nat) (y : α) (h : i ≤ l.length) : (l.take i ++ y :: l.drop i).length = l.length + 1 := by simp; omega
theorem mid_get {α : Type} (l : List α) (i : Nat) (y : α) {x : α} (h : l[i]? = some x) : (l.take (i + 1) ++ y :: l.drop (i + 1))[i]? = some x := by
  have hil := (List.getElem?_eq_some_iff.1 h).1
  rw [List.getElem?_append_left (by simp; omega), List.getElem?_take, if_pos (by omega), h]
theorem mid_down {α : Type} (l : List α) (i : Nat) {x : α} (h : l[i]? = some x) : l.take (i + 1) ++ x :: l.drop (i + 1) = l.take i ++ x :: l.drop i := by
  have hil := (List.getElem?_eq_some_iff.1 h).1
  rw [List.take_add_one, h, List.drop_eq_getElem_cons hil]
  have : l[i] = x := (List.getElem?_eq_some_iff.1 h).2
  rw [this]
  simp
set_option maxHeartbeats 4000000 in
theorem rput_r (t : St) (n b : Nat) (R : Rsk) (f : RFil) (h : RAt t n b R) (hnt : n ≤ t.length) (ho : R.l.length ≤ 16) : Run T f_r06_Disk_put [.ptr b 0, .agg (cT f)] t fun v t' => v = .tup [] ∧ ∃ v', RStep n b R { R with l := insT f R.l, v := v' } t t' := by
  refine run_body (F := r_r06_Disk_put) (has rfl) (by simp [r_r06_Disk_put]) ?_
  have hb0 : boxA (some 3) (.agg (cT f)) = some (cT f) := rfl
  have x1 : Ext t (t ++ [.cells true (cT f)]) := ⟨_, rfl⟩
  have h1 := h.ext x1
  have l0 := (rld h1.cells).1
  have lb : ldA (t ++ [Blk.cells true (cT f)]) none (.ptr t.length 0) = some (.str f.1) := by rw [ld_own get_last]; rfl
  have lbn : t.length + 0 = t.length := rfl
  simp only [r_r06_Disk_put, XX, CC, YY, Nat.reduceAdd, Nat.reduceSub, Nat.reduceLeDiff, Nat.reduceLT, Nat.reduceEqDiff, reduceIte, ↓reduceIte, Nat.reduceBEq, hb0]
  refine awp_rounds (fun d e t' => t' = t ++ [.cells true (cT f)] ∧ ∃ i : Nat, i + d = R.l.length ∧ e.get 0 = .ptr b 0 ∧ e.get 3 = .ptr t.length 0 ∧ e.get 4 = .int .i64 i ∧ posT f.1 R.l = i + posT f.1 (R.l.drop i)) R.l.length ?_ ?_
  · refine ⟨rfl, 0, by omega, ?_, ?_, ?_, by simp⟩ <;> (try simp only [XX, CC, YY, Nat.reduceAdd, Nat.reduceSub, Nat.reduceLeDiff, Nat.reduceLT, Nat.reduceEqDiff, reduceIte, ↓reduceIte, Nat.reduceBEq]) <;> rfl
  rintro J d e t1 hJ ⟨rfl, i, hi, g0, g3, g4, hpos⟩
  have go : ∀ (Q : Prop), True := fun _ => trivial
  by_cases c : i < R.l.length ∧ ∃ q, R.l[i]? = some q ∧ ltB q.1 f.1 = true
  · obtain ⟨c, q, hq, hlt⟩ := c
    obtain ⟨b1, o1, j1, j2, _⟩ := rdT h1.rd hq
    have hw1 : IntKind.i64.wrap ((i : Int) + 1) = ((i + 1 : Nat) : Int) := by rw [w64_in (by omega) (by omega)]; omega
    have hd' : R.l.drop i = q :: R.l.drop (i + 1) := by
      rw [List.drop_eq_getElem_cons c]; congr 1; exact (List.getElem?_eq_some_iff.1 hq).2
    simp only [XX, CC, YY, Nat.reduceAdd, Nat.reduceSub, Nat.reduceLeDiff, Nat.reduceLT, Nat.reduceEqDiff, reduceIte, ↓reduceIte, Nat.reduceBEq]
    refine drw_in [] rfl ?_
    simp only [List.append_nil, DD, CC, YY, Nat.reduceAdd, Nat.reduceSub, Nat.reduceLeDiff, Nat.reduceLT, Nat.reduceEqDiff, reduceIte, ↓reduceIte, Nat.reduceBEq, g0, g3, g4, l0, h1.rd.len, dec_t (show (i : Int) < R.l.length by omega), gv_tt, j1, j2, lb, lss_S, hlt, hw1]
    refine hJ (d - 1) _ _ (by omega) ⟨rfl, i + 1, by omega, ?_, ?_, ?_, ?_⟩
    all_goals (try simp only [XX, CC, YY, Nat.reduceAdd, Nat.reduceSub, Nat.reduceLeDiff, Nat.reduceLT, Nat.reduceEqDiff, reduceIte, ↓reduceIte, Nat.reduceBEq, g0, g3, g4])
    rw [hpos, hd', posT, if_pos hlt]; omega
  · have hp : posT f.1 R.l = i := by
      rw [hpos]
      by_cases ci : i < R.l.length
      · have hq : R.l[i]? = some (R.l[i]'ci) := List.getElem?_eq_getElem _
        rw [List.drop_eq_getElem_cons ci, posT, if_neg (fun hh => c ⟨ci, _, hq, hh⟩)]; omega
      · rw [List.drop_of_length_le (by omega)]; simp [posT]
    -- where the file goes
    obtain ⟨v', t2, a1, a2, a3, a4, a5, a6⟩ := own_app (by_ := 40) (y := .sl (t ++ [Blk.cells true (cT f)]).length 0 3 1 (some 1)) (l2 := [rzero]) (h1.own.app [.cells true (cT rzero)]) (by simp; omega) (rd_lit (by simp) cT_len rfl) cT_len cT_cell (by simp; omega)
    have a1' : appA (t ++ [Blk.cells true (cT f), Blk.cells true (cT rzero)]) 3 40 R.v (AV.sl (t.length + 1) 0 3 1 (some 1)) = some (v', t2) := by simpa using a1
    have hv'c : v'.cell = true := by
      rcases a2 with ⟨rfl, _⟩ | ⟨_, _, _, _, _, rfl, _⟩ <;> rfl
    have hbl : b < t.length := (List.getElem?_eq_some_iff.1 h.cells).1
    have hbt2 : t2[b]? = some (.cells true (cE R)) := by
      rw [a4 b (by simp; omega) (fun o e' k c => h.apart o e' k c), List.getElem?_append_left (by simp; omega)]; exact h1.cells
    have hft2 : t2[t.length]? = some (.cells true (cT f)) := by
      rw [a4 t.length (by simp) (fun o e' k c hv => by have := h.rd.lt hv; omega), List.getElem?_append_left (by simp)]; exact get_last
    have hapart : ∀ o e k c, v' ≠ .sl b o e k c := fun o e k c hv => by
      rcases a6 _ _ _ _ _ hv with x | x
      · exact h.apart o e k c x
      · simp at x; omega
    have hfar : ∀ o e k c, v' ≠ .sl t.length o e k c := fun o e k c hv => by
      rcases a6 _ _ _ _ _ hv with x | x
      · have := h.rd.lt x; omega
      · simp at x; omega
    have sv : stA t2 none (.ptr b 0) v' = some (t2.set b (.cells true (cE { R with v := v' }))) := by
      rw [st_one hv'c, wr_own hbt2, if_pos ⟨by simp [cE], by simp [hv'c]⟩]; rfl
    have hR2 : RStep n b R { R with v := v', l := R.l ++ [rzero] } t (t2.set b (.cells true (cE { R with v := v' }))) := by
      refine ⟨⟨h.low, key_set (by simp at a3; omega), a2.keep fun i hi hv => ?_, hapart⟩, by simp at a3; simp; omega, fun i hi hn => ?_, fun i hi => ?_⟩
      · obtain ⟨o, e, k, c, hv⟩ := hv
        exact List.getElem?_set_ne (fun e' => hapart o e k c (by rw [e']; exact hv))
      · rw [List.getElem?_set_ne (fun e => hn (.inl e.symm)), a4 i (by simp; omega) (fun o e' k c hv => hn (.inr ⟨o, e', k, c, hv⟩)), List.getElem?_append_left (by simp; omega), List.getElem?_append_left hi]
      · rcases hi with rfl | ⟨o, e, k, c, hv⟩
        · exact .inl (.inl rfl)
        · rcases a6 _ _ _ _ _ hv with x | x
          · exact .inl (.inr ⟨o, e, k, c, x⟩)
          · right; simp at x; omega
    have hf2 : (t2.set b (.cells true (cE { R with v := v' })))[t.length]? = some (.cells true (cT f)) := by
      rw [List.getElem?_set_ne (by omega)]; exact hft2
    generalize t2.set b (.cells true (cE { R with v := v' })) = t3 at *
    have hA2 := hR2.at_
    have l02 := (rld hA2.cells).1
    (try simp only at l02)
    have hrl2 := hA2.rd.len
    (try simp only at hrl2)
    have hrl3 : ((R.l ++ [rzero]).length : Int) = (R.l.length : Int) + 1 := by simp
    rw [hrl3] at hrl2
    have hz1 : (List.replicate 1 [AV.str (bts []), .str (bts []), .int .i64 0]).flatten = [AV.str (bts []), .str (bts []), .int .i64 0] := rfl
    have hz2 : fillA [AV.str (bts []), .str (bts []), .int .i64 0] [] = some (cT rzero) := rfl
    have hz3 : fillA [AV.str (bts []), .str (bts []), .int .i64 0] [(0, 3, .agg (cT rzero))] = some (cT rzero) := rfl
    have hw2 : IntKind.i64.wrap ((R.l.length : Int) + 1 - 1) = (R.l.length : Int) := by rw [w64_in (by omega) (by omega)]; omega
    have hexit : (i < R.l.length ∧ ∃ q, R.l[i]? = some q ∧ ltB q.1 f.1 = false) ∨ ¬ i < R.l.length := by
      by_cases ci : i < R.l.length
      · refine .inl ⟨ci, _, List.getElem?_eq_getElem ci, ?_⟩
        cases hh : ltB (R.l[i]'ci).1 f.1 with
        | false => rfl
        | true => exact absurd ⟨ci, _, List.getElem?_eq_getElem ci, hh⟩ c
      · exact .inr ci
    have hjoin : ∀ (J2 : Env → St → Prop), True := fun _ => trivial
    rcases hexit with ⟨ci, q, hq, hlt⟩ | ci
    · obtain ⟨b1, o1, j1, j2, _⟩ := rdT h1.rd hq
      simp only [XX, CC, YY, Nat.reduceAdd, Nat.reduceSub, Nat.reduceLeDiff, Nat.reduceLT, Nat.reduceEqDiff, reduceIte, ↓reduceIte, Nat.reduceBEq]
      refine drw_in [] rfl ?_
      simp only [List.append_nil, DD, CC, YY, Nat.reduceAdd, Nat.reduceSub, Nat.reduceLeDiff, Nat.reduceLT, Nat.reduceEqDiff, reduceIte, ↓reduceIte, Nat.reduceBEq, g0, g3, g4, l0, h1.rd.len, dec_t (show (i : Int) < R.l.length by omega), gv_tt, j1, j2, lb, lss_S, hlt, hz1, hz2, hz3, a1', sv, l02, hrl2, hw2]
      refine awp_rounds (fun d e t' => ∃ j y, j = i + d ∧ j ≤ R.l.length ∧ RStep n b R { R with v := v', l := R.l.take j ++ y :: R.l.drop j } t t' ∧ t'[t.length]? = some (.cells true (cT f)) ∧ e.get 0 = .ptr b 0 ∧ e.get 3 = .ptr t.length 0 ∧ e.get 4 = .int .i64 i ∧ e.get 5 = .int .i64 j) (R.l.length - i) ?_ ?_
      · refine ⟨R.l.length, rzero, by omega, Nat.le_refl _, ?_, hf2, ?_, ?_, ?_, ?_⟩
        all_goals (try simp only [XX, CC, YY, Nat.reduceAdd, Nat.reduceSub, Nat.reduceLeDiff, Nat.reduceLT, Nat.reduceEqDiff, reduceIte, ↓reduceIte, Nat.reduceBEq, g0, g3, g4])
        rw [List.take_length, List.drop_length]; exact hR2
      clear g0 g3 g4
      rintro J d e t4 hJ ⟨j, y, hj, hjl, hst, hf4, g0, g3, g4, g5⟩
      have hA := hst.at_
      have l04 := (rld hA.cells).1
      (try simp only at l04)
      have hmlen := mid_len R.l j y hjl
      by_cases cj : i < j
      · obtain ⟨j', rfl⟩ : ∃ j', j = j' + 1 := ⟨j - 1, by omega⟩
        have hq : R.l[j']? = some (R.l[j']'(by omega)) := List.getElem?_eq_getElem _
        generalize R.l[j']'(by omega) = q at hq
        have hq' : ({ R with v := v', l := R.l.take (j' + 1) ++ y :: R.l.drop (j' + 1) } : Rsk).l[j']? = some q := mid_get R.l j' y hq
        obtain ⟨b1, o1, j1, j2⟩ := hA.rd.get cT_len hq'
        have j3 : ldA t4 (some 3) (.ptr b1 o1) = some (.agg (cT q)) := j2 (some 3) 0 (.agg (cT q)) rfl
        (try simp only at j1)
        obtain ⟨b2, t5, f1, f2, f3⟩ := RStep.elt hA (i := j' + 1) (by show j' + 1 < (R.l.take (j' + 1) ++ y :: R.l.drop (j' + 1)).length; omega) q
        (try simp only at f1)
        have hwj : IntKind.i64.wrap (((j' + 1 : Nat) : Int) - 1) = (j' : Int) := by rw [w64_in (by omega) (by omega)]; omega
        have hst5 := hst.trans f3
        (try simp only at hst5)
        rw [mid_set R.l (j' + 1) y q hjl, mid_down R.l j' hq] at hst5
        have hf5 : t5[t.length]? = some (.cells true (cT f)) := by
          rw [f3.same t.length (List.getElem?_eq_some_iff.1 hf4).1 (fun hf => by
            rcases hf with hf | ⟨o, e, k, c, hv⟩
            · omega
            · exact hfar o e k c hv)]; exact hf4
        simp only [XX, CC, YY, Nat.reduceAdd, Nat.reduceSub, Nat.reduceLeDiff, Nat.reduceLT, Nat.reduceEqDiff, reduceIte, ↓reduceIte, Nat.reduceBEq, g4, g5, dec_t (show ((j' + 1 : Nat) : Int) > (i : Int) by omega)]
        refine drw_in [] rfl ?_
        simp only [List.append_nil, DD, CC, YY, Nat.reduceAdd, Nat.reduceSub, Nat.reduceLeDiff, Nat.reduceLT, Nat.reduceEqDiff, reduceIte, ↓reduceIte, Nat.reduceBEq, g0, g3, g4, g5, l04, hwj, j1, j3, f1, f2]
        refine hJ (d - 1) _ _ (by omega) ⟨j', q, by omega, by omega, hst5, hf5, ?_, ?_, ?_, ?_⟩ <;> (try simp only [XX, CC, YY, Nat.reduceAdd, Nat.reduceSub, Nat.reduceLeDiff, Nat.reduceLT, Nat.reduceEqDiff, reduceIte, ↓reduceIte, Nat.reduceBEq, g0, g3, g4, g5, hwj])
      · have hji : j = i := by omega
        subst hji
        obtain ⟨b2, t5, f1, f2, f3⟩ := RStep.elt hA (i := j) (by show j < (R.l.take j ++ y :: R.l.drop j).length; omega) f
        (try simp only at f1)
        have hst5 := hst.trans f3
        (try simp only at hst5)
        rw [mid_set R.l j y f hjl] at hst5
        have lf : ldA t4 (some 3) (.ptr t.length 0) = some (.agg (cT f)) := by rw [ld_own hf4]; rfl
        simp only [XX, CC, YY, Nat.reduceAdd, Nat.reduceSub, Nat.reduceLeDiff, Nat.reduceLT, Nat.reduceEqDiff, reduceIte, ↓reduceIte, Nat.reduceBEq, g4, g5, dec_f (show ¬ (j : Int) > (j : Int) by omega)]
        refine drw_in [] rfl ?_
        simp only [List.append_nil, DD, CC, YY, Nat.reduceAdd, Nat.reduceSub, Nat.reduceLeDiff, Nat.reduceLT, Nat.reduceEqDiff, reduceIte, ↓reduceIte, Nat.reduceBEq, g0, g3, g4, g5, l04, lf, f1, f2]
        refine .inl ⟨rfl, v', ?_⟩
        unfold insT
        rw [hp]
        exact hst5
    · simp only [XX, CC, YY, Nat.reduceAdd, Nat.reduceSub, Nat.reduceLeDiff, Nat.reduceLT, Nat.reduceEqDiff, reduceIte, ↓reduceIte, Nat.reduceBEq]
      refine drw_in [] rfl ?_
      simp only [List.append_nil, DD, CC, YY, Nat.reduceAdd, Nat.reduceSub, Nat.reduceLeDiff, Nat.reduceLT, Nat.reduceEqDiff, reduceIte, ↓reduceIte, Nat.reduceBEq, g0, g3, g4, l0, h1.rd.len, dec_f (show ¬ (i : Int) < R.l.length by omega), gv_tf, hz1, hz2, hz3, a1', sv, l02, hrl2, hw2]
      refine awp_rounds (fun d e t' => ∃ j y, j = i + d ∧ j ≤ R.l.length ∧ RStep n b R { R with v := v', l := R.l.take j ++ y :: R.l.drop j } t t' ∧ t'[t.length]? = some (.cells true (cT f)) ∧ e.get 0 = .ptr b 0 ∧ e.get 3 = .ptr t.length 0 ∧ e.get 4 = .int .i64 i ∧ e.get 5 = .int .i64 j) (R.l.length - i) ?_ ?_
      · refine ⟨R.l.length, rzero, by omega, Nat.le_refl _, ?_, hf2, ?_, ?_, ?_, ?_⟩
        all_goals (try simp only [XX, CC, YY, Nat.reduceAdd, Nat.reduceSub, Nat.reduceLeDiff, Nat.reduceLT, Nat.reduceEqDiff, reduceIte, ↓reduceIte, Nat.reduceBEq, g0, g3, g4])
        rw [List.take_length, List.drop_length]; exact hR2
      clear g0 g3 g4
      rintro J d e t4 hJ ⟨j, y, hj, hjl, hst, hf4, g0, g3, g4, g5⟩
      have hA := hst.at_
      have l04 := (rld hA.cells).1
      (try simp only at l04)
      have hmlen := mid_len R.l j y hjl
      by_cases cj : i < j
      · obtain ⟨j', rfl⟩ : ∃ j', j = j' + 1 := ⟨j - 1, by omega⟩
        have hq : R.l[j']? = some (R.l[j']'(by omega)) := List.getElem?_eq_getElem _
        generalize R.l[j']'(by omega) = q at hq
        have hq' : ({ R with v := v', l := R.l.take (j' + 1) ++ y :: R.l.drop (j' + 1) } : Rsk).l[j']? = some q := mid_get R.l j' y hq
        obtain ⟨b1, o1, j1, j2⟩ := hA.rd.get cT_len hq'
        have j3 : ldA t4 (some 3) (.ptr b1 o1) = some (.agg (cT q)) := j2 (some 3) 0 (.agg (cT q)) rfl
        (try simp only at j1)
        obtain ⟨b2, t5, f1, f2, f3⟩ := RStep.elt hA (i := j' + 1) (by show j' + 1 < (R.l.take (j' + 1) ++ y :: R.l.drop (j' + 1)).length; omega) q
        (try simp only at f1)
        have hwj : IntKind.i64.wrap (((j' + 1 : Nat) : Int) - 1) = (j' : Int) := by rw [w64_in (by omega) (by omega)]; omega
        have hst5 := hst.trans f3
        (try simp only at hst5)
        rw [mid_set R.l (j' + 1) y q hjl, mid_down R.l j' hq] at hst5
        have hf5 : t5[t.length]? = some (.cells true (cT f)) := by
          rw [f3.same t.length (List.getElem?_eq_some_iff.1 hf4).1 (fun hf => by
            rcases hf with hf | ⟨o, e, k, c, hv⟩
            · omega
            · exact hfar o e k c hv)]; exact hf4
        simp only [XX, CC, YY, Nat.reduceAdd, Nat.reduceSub, Nat.reduceLeDiff, Nat.reduceLT, Nat.reduceEqDiff, reduceIte, ↓reduceIte, Nat.reduceBEq, g4, g5, dec_t (show ((j' + 1 : Nat) : Int) > (i : Int) by omega)]
        refine drw_in [] rfl ?_
        simp only [List.append_nil, DD, CC, YY, Nat.reduceAdd, Nat.reduceSub, Nat.reduceLeDiff, Nat.reduceLT, Nat.reduceEqDiff, reduceIte, ↓reduceIte, Nat.reduceBEq, g0, g3, g4, g5, l04, hwj, j1, j3, f1, f2]
        refine hJ (d - 1) _ _ (by omega) ⟨j', q, by omega, by omega, hst5, hf5, ?_, ?_, ?_, ?_⟩ <;> (try simp only [XX, CC, YY, Nat.reduceAdd, Nat.reduceSub, Nat.reduceLeDiff, Nat.reduceLT, Nat.reduceEqDiff, reduceIte, ↓reduceIte, Nat.reduceBEq, g0, g3, g4, g5, hwj])
      · have hji : j = i := by omega
        subst hji
        obtain ⟨b2, t5, f1, f2, f3⟩ := RStep.elt hA (i := j) (by show j < (R.l.take j ++ y :: R.l.drop j).length; omega) f
        (try simp only at f1)
        have hst5 := hst.trans f3
        (try simp only at hst5)
        rw [mid_set R.l j y f hjl] at hst5
        have lf : ldA t4 (some 3) (.ptr t.length 0) = some (.agg (cT f)) := by rw [ld_own hf4]; rfl
        simp only [XX, CC, YY, Nat.reduceAdd, Nat.reduceSub, Nat.reduceLeDiff, Nat.reduceLT, Nat.reduceEqDiff, reduceIte, ↓reduceIte, Nat.reduceBEq, g4, g5, dec_f (show ¬ (j : Int) > (j : Int) by omega)]
        refine drw_in [] rfl ?_
        simp only [List.append_nil, DD, CC, YY, Nat.reduceAdd, Nat.reduceSub, Nat.reduceLeDiff, Nat.reduceLT, Nat.reduceEqDiff, reduceIte, ↓reduceIte, Nat.reduceBEq, g0, g3, g4, g5, l04, lf, f1, f2]
        refine .inl ⟨rfl, v', ?_⟩
        unfold insT
        rw [hp]
        exact hst5
end Go.Ev

/-! The reference's disk: Append, Sync, Cut. -/
namespace Go.Ev
set_option linter.unusedVariables false
set_option linter.unusedSimpArgs false
open Go.Ev.So Go.Proofs
variable {T : Nat → Option RF} [Has T]

def rget (R : Rsk) (name : ByteArray) : Option RFil := R.l.find? fun f => decide (f.1 = name)
/-- A disk of the reference as it makes it. -/
structure RGd (R : Rsk) : Prop where
  ok : ROk R
  names : (R.l.map (·.1)).Nodup
def updT (name : ByteArray) (g : RFil → RFil) (f : RFil) : RFil := if f.1 = name then g f else f
theorem upd_set {l : List RFil} (hn : (l.map (·.1)).Nodup) (g : RFil → RFil) : ∀ {i : Nat} {f : RFil}, l[i]? = some f → l.set i (g f) = l.map (updT f.1 g) := by
  induction l with
  | nil => intro i f h; simp at h
  | cons x l ih =>
    intro i f h
    rw [List.map_cons, List.nodup_cons] at hn
    cases i with
    | zero =>
      have hx : x = f := by simpa using h
      subst hx
      rw [List.set_cons_zero, List.map_cons]
      have h1 : updT x.1 g x = g x := if_pos rfl
      rw [h1]
      congr 1
      exact ((List.map_congr_left (g := id) fun y hy => if_neg fun e => hn.1 (by rw [← e]; exact List.mem_map_of_mem hy)).trans (List.map_id l)).symm
    | succ i =>
      have hi : l[i]? = some f := by simpa using h
      rw [List.set_cons_succ, List.map_cons, ih hn.2 hi]
      congr 1
      unfold updT
      rw [if_neg]
      exact fun e => hn.1 (by rw [e]; exact List.mem_map_of_mem (List.mem_of_getElem? hi))
theorem upd_names (l : List RFil) (name : ByteArray) (g : RFil → RFil) (hg : ∀ f, (g f).1 = f.1) : (l.map (updT name g)).map (·.1) = l.map (·.1) := by
  rw [List.map_map]
  apply List.map_congr_left
  intro x _
  simp only [Function.comp, updT]
  split
  · exact hg x
  · rfl
theorem upd_gd {R : Rsk} (h : RGd R) {name : ByteArray} (g : RFil → RFil) (hg : ∀ f, (g f).1 = f.1) (hok : ∀ f, R.l.find? (fun f => decide (f.1 = name)) = some f → FOk (g f).2.1 (g f).2.2) : RGd { R with l := R.l.map (updT name g) } := by
  refine ⟨⟨fun x hx => ?_, ?_⟩, ?_⟩
  · obtain ⟨y, hy, rfl⟩ := List.mem_map.1 hx
    unfold updT
    split
    · rename_i c
      refine hok y ?_
      obtain ⟨i, hi⟩ := List.getElem?_of_mem hy
      rcases idx_find name R.l with ⟨_, h2⟩ | ⟨j, f, h1, h2, h3⟩
      · exfalso
        have := List.find?_eq_none.1 h2 y hy
        simp [c] at this
      · rw [h3]
        have hf := List.find?_some h3
        simp only [decide_eq_true_eq] at hf
        have hpw := List.pairwise_iff_getElem.1 h.names
        have hil := (List.getElem?_eq_some_iff.1 hi).1
        have hjl := (List.getElem?_eq_some_iff.1 h2).1
        have ei := (List.getElem?_eq_some_iff.1 hi).2
        have ej := (List.getElem?_eq_some_iff.1 h2).2
        rcases Nat.lt_trichotomy i j with k | k | k
        · exact absurd (by rw [List.getElem_map, List.getElem_map, ei, ej, c, hf]) (hpw i j (by simpa using hil) (by simpa using hjl) k)
        · subst k; rw [hi] at h2; exact h2.symm
        · exact absurd (by rw [List.getElem_map, List.getElem_map, ei, ej, c, hf]) (hpw j i (by simpa using hjl) (by simpa using hil) k)
    · exact h.ok.1 y hy
  · show (R.l.map (updT name g)).length ≤ 16
    rw [List.length_map]; exact h.ok.2
  · show ((R.l.map (updT name g)).map (·.1)).Nodup
    rw [upd_names _ _ _ hg]; exact h.names
theorem gone_gd {R : Rsk} (h : RGd R) (keep : Int) : RGd (rgone R keep) := by
  refine ⟨⟨fun x hx => ?_, ?_⟩, ?_⟩
  · obtain ⟨y, hy, rfl⟩ := List.mem_map.1 hx
    exact lose_ok (h.ok.1 y hy)
  · show (R.l.map (cutT keep)).length ≤ 16
    rw [List.length_map]; exact h.ok.2
  · show ((R.l.map (cutT keep)).map (·.1)).Nodup
    rw [List.map_map]; exact h.names
theorem RGd.same {R R' : Rsk} (h : RGd R) (hl : R'.l = R.l) : RGd R' := ⟨⟨by rw [hl]; exact h.ok.1, by rw [hl]; exact h.ok.2⟩, by rw [hl]; exact h.names⟩
theorem pow_gd {R : Rsk} (h : RGd R) : RGd (rpowV R) := by
  unfold rpowV; split
  · exact gone_gd h _
  · exact h.same rfl
theorem ins_perm (f : RFil) (l : List RFil) : (insT f l).Perm (f :: l) := by
  unfold insT
  refine List.perm_middle.trans (List.Perm.cons f ?_)
  rw [List.take_append_drop]
theorem ins_gd {R : Rsk} (h : RGd R) (f : RFil) (v : AV) (hf : ∀ g ∈ R.l, g.1 ≠ f.1) (hok : FOk f.2.1 f.2.2) (hl : R.l.length < 16) : RGd { R with l := insT f R.l, v := v } := by
  have hp := ins_perm f R.l
  refine ⟨⟨fun x hx => ?_, ?_⟩, ?_⟩
  · rcases List.mem_cons.1 (hp.mem_iff.1 hx) with rfl | hx
    · exact hok
    · exact h.ok.1 x hx
  · show (insT f R.l).length ≤ 16
    rw [hp.length_eq]; simp; omega
  · show ((insT f R.l).map (·.1)).Nodup
    rw [(hp.map _).nodup_iff, List.map_cons, List.nodup_cons]
    refine ⟨?_, h.names⟩
    intro hh
    obtain ⟨g, hg, e⟩ := List.mem_map.1 hh
    exact hf g hg e
theorem idx_ins (f : RFil) (l : List RFil) (hf : ∀ g ∈ l, g.1 ≠ f.1) : idxR f.1 (insT f l) 0 = (posT f.1 l : Int) ∧ (insT f l)[posT f.1 l]? = some f := by
  have hle := posT_le f.1 l
  have h2 : (insT f l)[posT f.1 l]? = some f := by
    unfold insT
    rw [List.getElem?_append_right (by simp; omega)]
    have : posT f.1 l - (l.take (posT f.1 l)).length = 0 := by simp; omega
    rw [this]; rfl
  refine ⟨?_, h2⟩
  have key : ∀ (pre suf : List RFil) (i : Nat), (∀ g ∈ pre, g.1 ≠ f.1) → idxR f.1 (pre ++ f :: suf) i = ((i + pre.length : Nat) : Int) := by
    intro pre
    induction pre with
    | nil => intro suf i _; simp [idxR]
    | cons g pre ih =>
      intro suf i hh
      rw [List.cons_append, idxR, if_neg (hh g (by simp)), ih suf (i + 1) fun x hx => hh x (by simp [hx])]
      simp; omega
  unfold insT
  rw [key _ _ _ fun g hg => hf g (List.mem_of_mem_take hg)]
  simp; omega
theorem ins_data (f : RFil) (l : List RFil) (g : RFil) (hg : g.1 = f.1) : (insT f l).set (posT f.1 l) g = insT g l := by
  unfold insT
  rw [mid_set _ _ _ _ (posT_le f.1 l), hg]

def rappC (R : Rsk) (name data : ByteArray) : Int := if rchkV R name ≠ 0 then rchkV R name else match rget R name with
  | some f => if (data.size : Int) > 1048576 - f.2.1.size then 63 else 0
  | none => if R.l.length ≥ 16 then 63 else if (data.size : Int) > 1048576 then 63 else 0
def rappM (R : Rsk) (name data : ByteArray) : List RFil := match rget R name with
  | some f => R.l.map (updT name fun f => (f.1, f.2.1 ++ data, f.2.2))
  | none => insT (name, bts [] ++ data, 0) R.l
def routC (R : Rsk) (c : Int) : Int := if c ≠ 0 then c else if R.left = 0 then 60 else 0
theorem rchkV_val (R : Rsk) (name : ByteArray) : rchkV R name = 0 ∨ rchkV R name = 60 ∨ rchkV R name = 61 := by
  unfold rchkV; split
  · exact .inr (.inl rfl)
  · split
    · exact .inl rfl
    · exact .inr (.inr rfl)
/-- What a call of the reference's disk leaves: R' up to its slice. -/
def RTo (n b : Nat) (R R' : Rsk) (t t' : St) : Prop := ∃ v, RStep n b R { R' with v := v } t t' ∧ RGd { R' with v := v }
theorem RTo.refl {n b : Nat} {R : Rsk} {t : St} (h : RAt t n b R) (hg : RGd R) : RTo n b R R t t := ⟨R.v, .refl h, hg⟩
theorem RStep.to {n b : Nat} {R R' : Rsk} {t t' : St} (h : RStep n b R R' t t') (hg : RGd R') : RTo n b R R' t t' := ⟨R'.v, h, hg⟩
set_option maxHeartbeats 4000000 in
theorem rappend_g (t : St) (n b : Nat) (R : Rsk) (name data : ByteArray) (h : RAt t n b R) (hg : RGd R) (hnt : n ≤ t.length) (hs : name.size < 140737488355328) (hds : data.size < 140737488355328) :
    Run T f_r06_Disk_Append [.ptr b 0, .str name, .str data] t fun v t' => v = .int .i64 (routC R (rappC R name data)) ∧ RTo n b R (if rappC R name data ≠ 0 then R else rpowV { R with l := rappM R name data }) t t' := by
  refine run_body (F := r_r06_Disk_Append) (has rfl) (by simp [r_r06_Disk_Append]) ?_
  have hl16 := hg.ok.2
  have l0 := (rld h.cells).1
  have hcv := rchkV_val R name
  have same : ∀ (c : Int), rappC R name data = c → c ≠ 0 → (AV.int .i64 c = .int .i64 (routC R (rappC R name data)) ∧ RTo n b R (if rappC R name data ≠ 0 then R else rpowV { R with l := rappM R name data }) t t) := by
    intro c h1 h2
    refine ⟨by unfold routC; rw [h1, if_pos h2], ?_⟩
    rw [h1, if_pos h2]; exact .refl h hg
  have hval : rappC R name data = if rchkV R name ≠ 0 then rchkV R name else match rget R name with
    | some f => if (data.size : Int) > 1048576 - f.2.1.size then 63 else 0
    | none => if R.l.length ≥ 16 then 63 else if (data.size : Int) > 1048576 then 63 else 0 := rfl
  have hM : rappM R name data = match rget R name with
    | some f => R.l.map (updT name fun f => (f.1, f.2.1 ++ data, f.2.2))
    | none => insT (name, bts [] ++ data, 0) R.l := rfl
  -- behind the writing
  have fin : rappC R name data = 0 → ∀ (t2 : St) (v2 : AV), RStep n b R { R with l := rappM R name data, v := v2 } t t2 → RGd { R with l := rappM R name data, v := v2 } →
      Run T f_r06_Disk_power [.ptr b 0] t2 fun v t' => v = .bool (decide (R.left ≠ 0)) ∧ (AV.int .i64 (if R.left = 0 then 60 else 0) = .int .i64 (routC R (rappC R name data)) ∧ RTo n b R (if rappC R name data ≠ 0 then R else rpowV { R with l := rappM R name data }) t t') := by
    intro h0 t2 v2 hst hgd
    refine Run.mono _ _ _ _ _ ?_ (rpower_g t2 n b _ hst.at_ hgd.ok)
    rintro v t' ⟨rfl, h2⟩
    refine ⟨rfl, by unfold routC; rw [h0]; simp, ?_⟩
    rw [h0, if_neg (by simp)]
    have hpg := pow_gd hgd
    have e : rpowV { R with l := rappM R name data, v := v2 } = { rpowV { R with l := rappM R name data } with v := v2 } := by
      unfold rpowV; split <;> rfl
    rw [e] at h2 hpg
    exact ⟨v2, hst.trans h2, hpg⟩
  simp only [r_r06_Disk_Append, XX, CC, YY, Nat.reduceAdd, Nat.reduceSub, Nat.reduceLeDiff, Nat.reduceLT, Nat.reduceEqDiff, reduceIte, ↓reduceIte, Nat.reduceBEq]
  refine (rcheck_r t b R name h.cells hs).use ?_
  generalize rchkV R name = e at *
  have em : e = 0 ∨ ¬ e = 0 := Classical.em _
  rcases em with c | c
  rotate_left
  · have c' : (e == 0) = false := by simp [c]
    rw [if_pos c] at hval
    simp only [XX, CC, YY, Nat.reduceAdd, Nat.reduceSub, Nat.reduceLeDiff, Nat.reduceLT, Nat.reduceEqDiff, reduceIte, ↓reduceIte, Nat.reduceBEq, c', Bool.not_false]
    exact .inl (same e hval c)
  subst c
  rw [if_neg (by simp)] at hval
  simp only [XX, CC, YY, Nat.reduceAdd, Nat.reduceSub, Nat.reduceLeDiff, Nat.reduceLT, Nat.reduceEqDiff, reduceIte, ↓reduceIte, Nat.reduceBEq, show ((0 : Int) == 0) = true from rfl, Bool.not_true]
  refine (rplace_r t b R name h.cells h.rd (by omega)).use ?_
  have eml : R.left = 0 ∨ ¬ R.left = 0 := Classical.em _
  rcases idx_find name R.l with ⟨h1, h2⟩ | ⟨j, f, h1, h2, h3⟩
  · -- a new file
    have hr : rget R name = none := h2
    rw [hr] at hval hM
    simp only at hval hM
    rw [h1]
    by_cases c2 : (R.l.length : Int) ≥ 16
    · rw [if_pos (by omega)] at hval
      simp only [XX, CC, YY, Nat.reduceAdd, Nat.reduceSub, Nat.reduceLeDiff, Nat.reduceLT, Nat.reduceEqDiff, reduceIte, ↓reduceIte, Nat.reduceBEq, show decide ((-1 : Int) < 0) = true from rfl, gv_tt, gv_ft, l0, h.rd.len, dec_t c2]
      exact .inl (same 63 hval (by decide))
    rw [if_neg (by omega)] at hval
    by_cases c3 : (data.size : Int) > 1048576
    · rw [if_pos c3] at hval
      simp only [XX, CC, YY, Nat.reduceAdd, Nat.reduceSub, Nat.reduceLeDiff, Nat.reduceLT, Nat.reduceEqDiff, reduceIte, ↓reduceIte, Nat.reduceBEq, show decide ((-1 : Int) < 0) = true from rfl, gv_tt, gv_ff, gv_ft, l0, h.rd.len, dec_f c2, dec_t c3]
      exact .inl (same 63 hval (by decide))
    rw [if_neg c3] at hval
    have hnm : ∀ g ∈ R.l, g.1 ≠ name := fun g hgm => by simpa using List.find?_eq_none.1 h2 g hgm
    have hfz : fillA [AV.str (bts []), .str (bts []), .int .i64 0] [(0, 1, .str name)] = some (cT (name, bts [], 0)) := rfl
    have hput := rput_r (T := T) t n b R (name, bts [], 0) h hnt hl16
    simp only [XX, CC, YY, Nat.reduceAdd, Nat.reduceSub, Nat.reduceLeDiff, Nat.reduceLT, Nat.reduceEqDiff, reduceIte, ↓reduceIte, Nat.reduceBEq, show decide ((-1 : Int) < 0) = true from rfl, show decide ((-1 : Int) ≥ 0) = false from rfl, gv_tt, gv_ff, gv_tf, l0, h.rd.len, dec_f c2, dec_f c3, hfz]
    refine Run.mono _ _ _ _ _ ?_ hput
    rintro v t2 ⟨rfl, v', hst⟩
    have hA := hst.at_
    obtain ⟨i1, i2⟩ := idx_ins (name, bts [], 0) R.l hnm
    have hgd2 : RGd { R with l := insT (name, bts [], 0) R.l, v := v' } := ins_gd hg (name, bts [], 0) v' hnm ⟨Int.le_refl _, by simp, Nat.zero_le _⟩ (by omega)
    have hplace := rplace_r (T := T) t2 b _ name hA.cells hA.rd (by have := hgd2.ok.2; omega)
    (try simp only at hplace i1)
    rw [i1] at hplace
    have hposl := posT_le name R.l
    have l02 := (rld hA.cells).1
    (try simp only at l02)
    obtain ⟨b1, o1, j1, j2, j3, j4⟩ := rdT hA.rd i2
    (try simp only at j1 j3)
    obtain ⟨b2, t3, f1, f2, f3⟩ := RStep.fld hA i2 (k := 1) (u := .str (bts [] ++ data)) (q' := (name, bts [] ++ data, 0)) (by decide) rfl rfl
    (try simp only at f1)
    have hb12 : (AV.ptr b1 o1) = .ptr b2 (posT name R.l * 3) := by have := (j1 .i64).symm.trans (f1 .i64); simpa using this
    simp only [AV.ptr.injEq] at hb12
    obtain ⟨rfl, rfl⟩ := hb12
    have hadd := add_s (a := bts []) (b := data) (by rw [show (bts []).size = 0 from rfl]; omega)
    have hst3 := hst.trans f3
    (try simp only at hst3)
    rw [ins_data (name, bts [], 0) R.l (name, bts [] ++ data, 0) rfl, ← hM] at hst3
    have hgd3 : RGd { R with l := rappM R name data, v := v' } := by
      rw [hM]; exact ins_gd hg (name, bts [] ++ data, 0) v' hnm ⟨Int.le_refl _, Int.natCast_nonneg _, by simp only [app_size, show (bts []).size = 0 from rfl]; omega⟩ (by omega)
    have hp := fin hval t3 v' hst3 hgd3
    (try simp only [XX, CC, YY, Nat.reduceAdd, Nat.reduceSub, Nat.reduceLeDiff, Nat.reduceLT, Nat.reduceEqDiff, reduceIte, ↓reduceIte, Nat.reduceBEq])
    refine hplace.use ?_
    rcases eml with ce | ce
    all_goals
      (try simp only [XX, CC, YY, Nat.reduceAdd, Nat.reduceSub, Nat.reduceLeDiff, Nat.reduceLT, Nat.reduceEqDiff, reduceIte, ↓reduceIte, Nat.reduceBEq])
      refine drw_in [] rfl ?_
      simp only [List.append_nil, DD, CC, YY, Nat.reduceAdd, Nat.reduceSub, Nat.reduceLeDiff, Nat.reduceLT, Nat.reduceEqDiff, reduceIte, ↓reduceIte, Nat.reduceBEq, l02, j1, j3, hadd, f2]
      refine Run.mono _ _ _ _ _ ?_ hp
      rintro v t4 ⟨rfl, hh⟩
    · rw [if_pos ce] at hh
      simp only [XX, CC, YY, Nat.reduceAdd, Nat.reduceSub, Nat.reduceLeDiff, Nat.reduceLT, Nat.reduceEqDiff, reduceIte, ↓reduceIte, Nat.reduceBEq, dec_f (fun hx : R.left ≠ 0 => hx ce), Bool.not_false]
      exact .inl hh
    · rw [if_neg ce] at hh
      simp only [XX, CC, YY, Nat.reduceAdd, Nat.reduceSub, Nat.reduceLeDiff, Nat.reduceLT, Nat.reduceEqDiff, reduceIte, ↓reduceIte, Nat.reduceBEq, dec_t (show R.left ≠ 0 from ce), Bool.not_true]
      exact .inl hh
  · -- a file that is there
    have hr : rget R name = some f := h3
    rw [hr] at hval hM
    simp only at hval hM
    rw [h1]
    have hfok : FOk f.2.1 f.2.2 := hg.ok.1 f (List.mem_of_getElem? h2)
    unfold FOk at hfok
    have hfn : f.1 = name := by have := List.find?_some h3; simpa using this
    have hw : IntKind.i64.wrap (1048576 - (f.2.1.size : Int)) = 1048576 - (f.2.1.size : Int) := w64_in (by omega) (by omega)
    obtain ⟨b1, o1, j1, j2, j3, j4⟩ := rdT h.rd h2
    by_cases c3 : (data.size : Int) > 1048576 - f.2.1.size
    · rw [if_pos c3] at hval
      simp only [XX, CC, YY, Nat.reduceAdd, Nat.reduceSub, Nat.reduceLeDiff, Nat.reduceLT, Nat.reduceEqDiff, reduceIte, ↓reduceIte, Nat.reduceBEq, dec_f (show ¬ (j : Int) < 0 by omega), dec_t (show (j : Int) ≥ 0 by omega), gv_tf, gv_ff, gv_tt, gv_u, l0, j1, j3, hw, dec_t c3]
      exact .inl (same 63 hval (by decide))
    rw [if_neg c3] at hval
    obtain ⟨b2, t3, f1, f2, f3⟩ := RStep.fld h h2 (k := 1) (u := .str (f.2.1 ++ data)) (q' := (f.1, f.2.1 ++ data, f.2.2)) (by decide) rfl rfl
    have hb12 : (AV.ptr b1 o1) = .ptr b2 (j * 3) := by have := (j1 .i64).symm.trans (f1 .i64); simpa using this
    simp only [AV.ptr.injEq] at hb12
    obtain ⟨rfl, rfl⟩ := hb12
    have hadd := add_s (a := f.2.1) (b := data) (by omega)
    have hset := upd_set hg.names (fun f => (f.1, f.2.1 ++ data, f.2.2)) h2
    rw [hfn] at hset
    have hset' : R.l.set j (f.1, f.2.1 ++ data, f.2.2) = rappM R name data := by rw [hM, ← hset, hfn]
    rw [hset'] at f3
    have hgd3 : RGd { R with l := rappM R name data, v := R.v } := by
      rw [hM]
      refine upd_gd hg _ (fun _ => rfl) fun g hgg => ?_
      rw [h3] at hgg
      cases hgg
      unfold FOk
      simp only [app_size]
      omega
    have hp := fin hval t3 R.v f3 hgd3
    rcases eml with ce | ce
    all_goals
      simp only [XX, CC, YY, Nat.reduceAdd, Nat.reduceSub, Nat.reduceLeDiff, Nat.reduceLT, Nat.reduceEqDiff, reduceIte, ↓reduceIte, Nat.reduceBEq, dec_f (show ¬ (j : Int) < 0 by omega), dec_t (show (j : Int) ≥ 0 by omega), gv_tf, gv_ff, gv_tt, gv_u, l0, j1, j3, hw, dec_f c3]
      refine drw_in [] rfl ?_
      simp only [List.append_nil, DD, CC, YY, Nat.reduceAdd, Nat.reduceSub, Nat.reduceLeDiff, Nat.reduceLT, Nat.reduceEqDiff, reduceIte, ↓reduceIte, Nat.reduceBEq, l0, j1, j3, hadd, f2]
      refine Run.mono _ _ _ _ _ ?_ hp
      rintro v t4 ⟨rfl, hh⟩
    · rw [if_pos ce] at hh
      simp only [XX, CC, YY, Nat.reduceAdd, Nat.reduceSub, Nat.reduceLeDiff, Nat.reduceLT, Nat.reduceEqDiff, reduceIte, ↓reduceIte, Nat.reduceBEq, dec_f (fun hx : R.left ≠ 0 => hx ce), Bool.not_false]
      exact .inl hh
    · rw [if_neg ce] at hh
      simp only [XX, CC, YY, Nat.reduceAdd, Nat.reduceSub, Nat.reduceLeDiff, Nat.reduceLT, Nat.reduceEqDiff, reduceIte, ↓reduceIte, Nat.reduceBEq, dec_t (show R.left ≠ 0 from ce), Bool.not_true]
      exact .inl hh
end Go.Ev

/-! The reference's disk: Sync, Cut. -/
namespace Go.Ev
set_option linter.unusedVariables false
set_option linter.unusedSimpArgs false
open Go.Ev.So Go.Proofs
variable {T : Nat → Option RF} [Has T]

def rsyncC (R : Rsk) (name : ByteArray) : Int := if rchkV R name ≠ 0 then rchkV R name else match rget R name with
  | some _ => 0
  | none => 62
def rthen (R : Rsk) (c : Int) (name : ByteArray) (g : RFil → RFil) : Rsk := if c ≠ 0 then R else if R.left = 0 then rgone R R.keep else { rpow R with l := R.l.map (updT name g) }
def rsafe (f : RFil) : RFil := (f.1, f.2.1, f.2.1.size)
theorem rpow_to {n b : Nat} {R : Rsk} {t t1 : St} (h : RStep n b R (rpowV R) t t1) (hg : RGd R) (c : Int) (hc : c = 0) (name : ByteArray) (g : RFil → RFil) (hl : R.left = 0) : RTo n b R (rthen R c name g) t t1 := by
  unfold rthen
  rw [if_neg (by simp [hc]), if_pos hl]
  have e : rpowV R = rgone R R.keep := if_pos hl
  rw [e] at h
  exact h.to (gone_gd hg _)
set_option maxHeartbeats 4000000 in
theorem rsync_g (t : St) (n b : Nat) (R : Rsk) (name : ByteArray) (h : RAt t n b R) (hg : RGd R) (hs : name.size < 140737488355328) :
    Run T f_r06_Disk_Sync [.ptr b 0, .str name] t fun v t' => v = .int .i64 (routC R (rsyncC R name)) ∧ RTo n b R (rthen R (rsyncC R name) name rsafe) t t' := by
  refine run_body (F := r_r06_Disk_Sync) (has rfl) (by simp [r_r06_Disk_Sync]) ?_
  have hl16 := hg.ok.2
  have same : ∀ (c : Int), rsyncC R name = c → c ≠ 0 → (AV.int .i64 c = .int .i64 (routC R (rsyncC R name)) ∧ RTo n b R (rthen R (rsyncC R name) name rsafe) t t) := by
    intro c h1 h2
    refine ⟨by unfold routC; rw [h1, if_pos h2], ?_⟩
    unfold rthen
    rw [h1, if_pos h2]; exact .refl h hg
  have hval : rsyncC R name = if rchkV R name ≠ 0 then rchkV R name else match rget R name with
    | some _ => 0
    | none => 62 := rfl
  simp only [r_r06_Disk_Sync, XX, CC, YY, Nat.reduceAdd, Nat.reduceSub, Nat.reduceLeDiff, Nat.reduceLT, Nat.reduceEqDiff, reduceIte, ↓reduceIte, Nat.reduceBEq]
  refine (rcheck_r t b R name h.cells hs).use ?_
  generalize rchkV R name = e at *
  have em : e = 0 ∨ ¬ e = 0 := Classical.em _
  rcases em with c | c
  rotate_left
  · have c' : (e == 0) = false := by simp [c]
    rw [if_pos c] at hval
    simp only [XX, CC, YY, Nat.reduceAdd, Nat.reduceSub, Nat.reduceLeDiff, Nat.reduceLT, Nat.reduceEqDiff, reduceIte, ↓reduceIte, Nat.reduceBEq, c', Bool.not_false]
    exact .inl (same e hval c)
  subst c
  rw [if_neg (by simp)] at hval
  simp only [XX, CC, YY, Nat.reduceAdd, Nat.reduceSub, Nat.reduceLeDiff, Nat.reduceLT, Nat.reduceEqDiff, reduceIte, ↓reduceIte, Nat.reduceBEq, show ((0 : Int) == 0) = true from rfl, Bool.not_true]
  refine (rplace_r t b R name h.cells h.rd (by omega)).use ?_
  rcases idx_find name R.l with ⟨h1, h2⟩ | ⟨j, f, h1, h2, h3⟩
  · have hr : rget R name = none := h2
    rw [hr] at hval
    rw [h1]
    simp only [XX, CC, YY, Nat.reduceAdd, Nat.reduceSub, Nat.reduceLeDiff, Nat.reduceLT, Nat.reduceEqDiff, reduceIte, ↓reduceIte, Nat.reduceBEq, show decide ((-1 : Int) < 0) = true from rfl]
    exact .inl (same 62 hval (by decide))
  have hr : rget R name = some f := h3
  rw [hr] at hval
  simp only at hval
  rw [h1]
  have hfn : f.1 = name := by have := List.find?_some h3; simpa using this
  have hfok : FOk f.2.1 f.2.2 := hg.ok.1 f (List.mem_of_getElem? h2)
  have eml : R.left = 0 ∨ ¬ R.left = 0 := Classical.em _
  have hrt : rsyncC R name = 0 → routC R (rsyncC R name) = if R.left = 0 then 60 else 0 := fun h0 => by unfold routC; rw [h0]; simp
  rcases eml with ce | ce
  · simp only [XX, CC, YY, Nat.reduceAdd, Nat.reduceSub, Nat.reduceLeDiff, Nat.reduceLT, Nat.reduceEqDiff, reduceIte, ↓reduceIte, Nat.reduceBEq, dec_f (show ¬ (j : Int) < 0 by omega)]
    refine Run.mono _ _ _ _ _ ?_ (rpower_g t n b R h hg.ok)
    rintro v t1 ⟨rfl, hst⟩
    simp only [XX, CC, YY, Nat.reduceAdd, Nat.reduceSub, Nat.reduceLeDiff, Nat.reduceLT, Nat.reduceEqDiff, reduceIte, ↓reduceIte, Nat.reduceBEq, dec_f (fun hx : R.left ≠ 0 => hx ce), Bool.not_false]
    exact .inl ⟨by rw [hrt hval, if_pos ce], rpow_to hst hg _ hval name _ ce⟩
  · have heq : rpowV R = rpow R := if_neg ce
    simp only [XX, CC, YY, Nat.reduceAdd, Nat.reduceSub, Nat.reduceLeDiff, Nat.reduceLT, Nat.reduceEqDiff, reduceIte, ↓reduceIte, Nat.reduceBEq, dec_f (show ¬ (j : Int) < 0 by omega)]
    refine Run.mono _ _ _ _ _ ?_ (rpower_g t n b R h hg.ok)
    rintro v t1 ⟨rfl, hst⟩
    rw [heq] at hst
    have hA := hst.at_
    have h2' : (rpow R).l[j]? = some f := h2
    have l0 := (rld hA.cells).1
    obtain ⟨b1, o1, j1, j2, j3, j4⟩ := rdT hA.rd h2'
    obtain ⟨b2, t3, f1, f2, f3⟩ := RStep.fld hA h2' (k := 2) (u := .int .i64 f.2.1.size) (q' := rsafe f) (by decide) rfl rfl
    have hb12 : (AV.ptr b1 o1) = .ptr b2 (j * 3) := by have := (j1 .i64).symm.trans (f1 .i64); simpa using this
    simp only [AV.ptr.injEq] at hb12
    obtain ⟨rfl, rfl⟩ := hb12
    have hset := upd_set hg.names rsafe h2
    rw [hfn] at hset
    have hgd : RGd { R with l := R.l.map (updT name rsafe) } := upd_gd hg rsafe (fun _ => rfl) fun g hgg => by
      rw [h3] at hgg; cases hgg
      unfold FOk at hfok ⊢
      simp only [rsafe]; omega
    have hto : RTo n b R (rthen R (rsyncC R name) name rsafe) t t3 := by
      unfold rthen
      rw [if_neg (by simp [hval]), if_neg ce]
      refine ⟨(rpow R).v, ?_, hgd.same rfl⟩
      have := hst.trans f3
      rw [show (rpow R).l.set j (rsafe f) = R.l.map (updT name rsafe) from hset] at this
      exact this
    simp only [XX, CC, YY, Nat.reduceAdd, Nat.reduceSub, Nat.reduceLeDiff, Nat.reduceLT, Nat.reduceEqDiff, reduceIte, ↓reduceIte, Nat.reduceBEq, dec_t (show R.left ≠ 0 from ce), Bool.not_true]
    refine drw_in [] rfl ?_
    simp only [List.append_nil, DD, CC, YY, Nat.reduceAdd, Nat.reduceSub, Nat.reduceLeDiff, Nat.reduceLT, Nat.reduceEqDiff, reduceIte, ↓reduceIte, Nat.reduceBEq, l0, j1, j3, f2]
    exact .inl ⟨by rw [hrt hval, if_neg ce], hto⟩

def rcutC (R : Rsk) (name : ByteArray) (m : Int) : Int := if rchkV R name ≠ 0 then rchkV R name else match rget R name with
  | some f => if m < 0 ∨ m > f.2.1.size then 1 else 0
  | none => 62
def rcutF (m : Int) (f : RFil) : RFil := (f.1, f.2.1.extract 0 m.toNat, m)
set_option maxHeartbeats 4000000 in
theorem rcut_g (t : St) (n b : Nat) (R : Rsk) (name : ByteArray) (m : Int) (h : RAt t n b R) (hg : RGd R) (hs : name.size < 140737488355328) :
    Run T f_r06_Disk_Cut [.ptr b 0, .str name, .int .i64 m] t fun v t' => v = .int .i64 (routC R (rcutC R name m)) ∧ RTo n b R (rthen R (rcutC R name m) name (rcutF m)) t t' := by
  refine run_body (F := r_r06_Disk_Cut) (has rfl) (by simp [r_r06_Disk_Cut]) ?_
  have hl16 := hg.ok.2
  have l00 := (rld h.cells).1
  have same : ∀ (c : Int), rcutC R name m = c → c ≠ 0 → (AV.int .i64 c = .int .i64 (routC R (rcutC R name m)) ∧ RTo n b R (rthen R (rcutC R name m) name (rcutF m)) t t) := by
    intro c h1 h2
    refine ⟨by unfold routC; rw [h1, if_pos h2], ?_⟩
    unfold rthen
    rw [h1, if_pos h2]; exact .refl h hg
  have hval : rcutC R name m = if rchkV R name ≠ 0 then rchkV R name else match rget R name with
    | some f => if m < 0 ∨ m > f.2.1.size then 1 else 0
    | none => 62 := rfl
  simp only [r_r06_Disk_Cut, XX, CC, YY, Nat.reduceAdd, Nat.reduceSub, Nat.reduceLeDiff, Nat.reduceLT, Nat.reduceEqDiff, reduceIte, ↓reduceIte, Nat.reduceBEq]
  refine (rcheck_r t b R name h.cells hs).use ?_
  generalize rchkV R name = e at *
  have em : e = 0 ∨ ¬ e = 0 := Classical.em _
  rcases em with c | c
  rotate_left
  · have c' : (e == 0) = false := by simp [c]
    rw [if_pos c] at hval
    simp only [XX, CC, YY, Nat.reduceAdd, Nat.reduceSub, Nat.reduceLeDiff, Nat.reduceLT, Nat.reduceEqDiff, reduceIte, ↓reduceIte, Nat.reduceBEq, c', Bool.not_false]
    exact .inl (same e hval c)
  subst c
  rw [if_neg (by simp)] at hval
  simp only [XX, CC, YY, Nat.reduceAdd, Nat.reduceSub, Nat.reduceLeDiff, Nat.reduceLT, Nat.reduceEqDiff, reduceIte, ↓reduceIte, Nat.reduceBEq, show ((0 : Int) == 0) = true from rfl, Bool.not_true]
  refine (rplace_r t b R name h.cells h.rd (by omega)).use ?_
  rcases idx_find name R.l with ⟨h1, h2⟩ | ⟨j, f, h1, h2, h3⟩
  · have hr : rget R name = none := h2
    rw [hr] at hval
    rw [h1]
    simp only [XX, CC, YY, Nat.reduceAdd, Nat.reduceSub, Nat.reduceLeDiff, Nat.reduceLT, Nat.reduceEqDiff, reduceIte, ↓reduceIte, Nat.reduceBEq, show decide ((-1 : Int) < 0) = true from rfl]
    exact .inl (same 62 hval (by decide))
  have hr : rget R name = some f := h3
  rw [hr] at hval
  simp only at hval
  rw [h1]
  have hfn : f.1 = name := by have := List.find?_some h3; simpa using this
  have hfok : FOk f.2.1 f.2.2 := hg.ok.1 f (List.mem_of_getElem? h2)
  obtain ⟨b0, o0, i1, i2, i3, i4⟩ := rdT h.rd h2
  have em1 : m < 0 ∨ ¬ m < 0 := Classical.em _
  rcases em1 with c1 | c1
  · rw [if_pos (.inl c1)] at hval
    simp only [XX, CC, YY, Nat.reduceAdd, Nat.reduceSub, Nat.reduceLeDiff, Nat.reduceLT, Nat.reduceEqDiff, reduceIte, ↓reduceIte, Nat.reduceBEq, dec_f (show ¬ (j : Int) < 0 by omega), dec_t c1, gv_ft]
    exact .inl (same 1 hval (by decide))
  have em2 : m > (f.2.1.size : Int) ∨ ¬ m > (f.2.1.size : Int) := Classical.em _
  rcases em2 with c2 | c2
  · rw [if_pos (.inr c2)] at hval
    simp only [XX, CC, YY, Nat.reduceAdd, Nat.reduceSub, Nat.reduceLeDiff, Nat.reduceLT, Nat.reduceEqDiff, reduceIte, ↓reduceIte, Nat.reduceBEq, dec_f (show ¬ (j : Int) < 0 by omega), dec_f c1, gv_ff, l00, i1, i3, dec_t c2]
    exact .inl (same 1 hval (by decide))
  rw [if_neg (by omega)] at hval
  have eml : R.left = 0 ∨ ¬ R.left = 0 := Classical.em _
  have hrt : rcutC R name m = 0 → routC R (rcutC R name m) = if R.left = 0 then 60 else 0 := fun h0 => by unfold routC; rw [h0]; simp
  rcases eml with ce | ce
  · simp only [XX, CC, YY, Nat.reduceAdd, Nat.reduceSub, Nat.reduceLeDiff, Nat.reduceLT, Nat.reduceEqDiff, reduceIte, ↓reduceIte, Nat.reduceBEq, dec_f (show ¬ (j : Int) < 0 by omega), dec_f c1, gv_ff, l00, i1, i3, dec_f c2]
    refine Run.mono _ _ _ _ _ ?_ (rpower_g t n b R h hg.ok)
    rintro v t1 ⟨rfl, hst⟩
    simp only [XX, CC, YY, Nat.reduceAdd, Nat.reduceSub, Nat.reduceLeDiff, Nat.reduceLT, Nat.reduceEqDiff, reduceIte, ↓reduceIte, Nat.reduceBEq, dec_f (fun hx : R.left ≠ 0 => hx ce), Bool.not_false]
    exact .inl ⟨by rw [hrt hval, if_pos ce], rpow_to hst hg _ hval name _ ce⟩
  · have heq : rpowV R = rpow R := if_neg ce
    simp only [XX, CC, YY, Nat.reduceAdd, Nat.reduceSub, Nat.reduceLeDiff, Nat.reduceLT, Nat.reduceEqDiff, reduceIte, ↓reduceIte, Nat.reduceBEq, dec_f (show ¬ (j : Int) < 0 by omega), dec_f c1, gv_ff, l00, i1, i3, dec_f c2]
    refine Run.mono _ _ _ _ _ ?_ (rpower_g t n b R h hg.ok)
    rintro v t1 ⟨rfl, hst⟩
    rw [heq] at hst
    have hA := hst.at_
    have h2' : (rpow R).l[j]? = some f := h2
    have l0 := (rld hA.cells).1
    obtain ⟨b1, o1, j1, j2, j3, j4⟩ := rdT hA.rd h2'
    obtain ⟨b2, t3, f1, f2, f3⟩ := RStep.fld hA h2' (k := 1) (u := .str (f.2.1.extract 0 m.toNat)) (q' := (f.1, f.2.1.extract 0 m.toNat, f.2.2)) (by decide) rfl rfl
    have hb12 : (AV.ptr b1 o1) = .ptr b2 (j * 3) := by have := (j1 .i64).symm.trans (f1 .i64); simpa using this
    simp only [AV.ptr.injEq] at hb12
    obtain ⟨rfl, rfl⟩ := hb12
    have hA3 := f3.at_
    have hjl := (List.getElem?_eq_some_iff.1 h2).1
    have h2'' : ({ rpow R with l := (rpow R).l.set j (f.1, f.2.1.extract 0 m.toNat, f.2.2) } : Rsk).l[j]? = some (f.1, f.2.1.extract 0 m.toNat, f.2.2) := List.getElem?_set_self hjl
    obtain ⟨b4, t4, p1, p2, p3⟩ := RStep.fld hA3 h2'' (k := 2) (u := .int .i64 m) (q' := rcutF m f) (by decide) rfl rfl
    (try simp only at p1)
    have hb14 : (AV.ptr b4 (j * 3)) = .ptr b1 (j * 3) := by have := (p1 .i64).symm.trans (f1 .i64); simpa using this
    simp only [AV.ptr.injEq, and_true] at hb14
    subst hb14
    have p2' : wrA t3 b4 (j * 3 + 2) [AV.int .i64 m] = some t4 := by rw [← p2, st_one (by rfl)]
    have l03 := (rld hA3.cells).1
    (try simp only at l03)
    have hsl : slsA (.str f.2.1) none (some (.int .i64 m)) = some (.str (f.2.1.extract 0 m.toNat)) := by
      simp only [slsA, boundA]
      rw [if_pos (by omega)]
    have hsz := extract_size (d := f.2.1) (n := m) (by omega) (by omega)
    have hset := upd_set hg.names (rcutF m) h2
    rw [hfn] at hset
    have hgd : RGd { R with l := R.l.map (updT name (rcutF m)) } := upd_gd hg (rcutF m) (fun _ => rfl) fun g hgg => by
      rw [h3] at hgg; cases hgg
      unfold FOk at hfok ⊢
      simp only [rcutF]; omega
    have hto : RTo n b R (rthen R (rcutC R name m) name (rcutF m)) t t4 := by
      unfold rthen
      rw [if_neg (by simp [hval]), if_neg ce]
      refine ⟨(rpow R).v, ?_, hgd.same rfl⟩
      have := (hst.trans f3).trans p3
      (try simp only at this)
      rw [List.set_set, show (rpow R).l.set j (rcutF m f) = R.l.map (updT name (rcutF m)) from hset] at this
      exact this
    simp only [XX, CC, YY, Nat.reduceAdd, Nat.reduceSub, Nat.reduceLeDiff, Nat.reduceLT, Nat.reduceEqDiff, reduceIte, ↓reduceIte, Nat.reduceBEq, dec_t (show R.left ≠ 0 from ce), Bool.not_true]
    refine drw_in [] rfl ?_
    simp only [List.append_nil, DD, CC, YY, Nat.reduceAdd, Nat.reduceSub, Nat.reduceLeDiff, Nat.reduceLT, Nat.reduceEqDiff, reduceIte, ↓reduceIte, Nat.reduceBEq, l0, j1, j3, hsl, f2, l03, p1, p2, p2']
    exact .inl ⟨by rw [hrt hval, if_neg ce], hto⟩
end Go.Ev

/-! The log: Open. -/
namespace Go.Ev
set_option linter.unusedVariables false
set_option linter.unusedSimpArgs false
open Go.Ev.So Go.Proofs

theorem findnil_r (t : St) (name : ByteArray) : RunD T f_files_Disk_find [.nilp, .str name] t (.tup [.nilp, .int .i64 2]) t := by
  refine run_body (F := r_files_Disk_find) (has rfl) (by simp [r_files_Disk_find]) ?_
  simp only [r_files_Disk_find, XX, CC, YY, Nat.reduceAdd, Nat.reduceSub, Nat.reduceLeDiff, Nat.reduceLT, Nat.reduceEqDiff, reduceIte, ↓reduceIte, Nat.reduceBEq]
  refine (checknil_r _ _).use ?_
  simp only [XX, CC, YY, Nat.reduceAdd, Nat.reduceSub, Nat.reduceLeDiff, Nat.reduceLT, Nat.reduceEqDiff, reduceIte, ↓reduceIte, Nat.reduceBEq, show ((2 : Int) == 0) = false from rfl, Bool.not_false]
  exact ret_drop ⟨_, rfl⟩ rfl ⟨rfl, rfl⟩
theorem readnil_r (t : St) (name : ByteArray) : RunD T f_files_Disk_Read [.nilp, .str name] t (.tup [.str (bts []), .int .i64 2]) t := by
  refine run_body (F := r_files_Disk_Read) (has rfl) (by simp [r_files_Disk_Read]) ?_
  simp only [r_files_Disk_Read, XX, CC, YY, Nat.reduceAdd, Nat.reduceSub, Nat.reduceLeDiff, Nat.reduceLT, Nat.reduceEqDiff, reduceIte, ↓reduceIte, Nat.reduceBEq]
  refine (findnil_r t name).use ?_
  simp only [XX, CC, YY, Nat.reduceAdd, Nat.reduceSub, Nat.reduceLeDiff, Nat.reduceLT, Nat.reduceEqDiff, reduceIte, ↓reduceIte, Nat.reduceBEq, show ((2 : Int) == 0) = false from rfl, Bool.not_false]
  exact .inl ⟨rfl, rfl⟩
theorem opennil_r (t : St) (name : ByteArray) : RunD T f_wal_Open [.nilp, .str name] t (.tup [.nilp, .nils, .int .i64 2]) t := by
  refine run_body (F := r_wal_Open) (has rfl) (by simp [r_wal_Open]) ?_
  simp only [r_wal_Open, XX, CC, YY, Nat.reduceAdd, Nat.reduceSub, Nat.reduceLeDiff, Nat.reduceLT, Nat.reduceEqDiff, reduceIte, ↓reduceIte, Nat.reduceBEq]
  refine (readnil_r t name).use ?_
  simp only [XX, CC, YY, Nat.reduceAdd, Nat.reduceSub, Nat.reduceLeDiff, Nat.reduceLT, Nat.reduceEqDiff, reduceIte, ↓reduceIte, Nat.reduceBEq, show ((2 : Int) == 0) = false from rfl, Bool.not_false, gv_tt, show ((2 : Int) == 62) = false from rfl]
  exact .inl ⟨rfl, rfl⟩

def openX (D : Dsk) (name : ByteArray) : Bool := decide ((readV D name).2 ≠ 0 ∧ (readV D name).2 ≠ 62)
def openS (D : Dsk) (name : ByteArray) : Bool := decide (((scanV (readV D name).1).2 : Int) < (readV D name).1.size)
/-- how an opening goes -/
def openE (D : Dsk) (name : ByteArray) : Int := if openX D name then (readV D name).2 else if openS D name then outC D (cutC D name (scanV (readV D name).1).2) else 0
def openD (D : Dsk) (name : ByteArray) : Dsk := if openX D name then D else if openS D name then cutV' D name (scanV (readV D name).1).2 else D
def openL (D : Dsk) (name : ByteArray) (b : Nat) : Lg := ⟨b, name, (scanV (readV D name).1).2, false⟩
theorem readV_size {D : Dsk} (hO : DOk D) (name : ByteArray) : (readV D name).1.size ≤ 1048576 := by
  unfold readV
  split
  · exact Nat.zero_le _
  · split
    · rename_i f hf
      obtain ⟨k, hk, _⟩ := getF_mem hf
      exact (hO.files _ hk).2.2
    · decide
theorem readV_code (D : Dsk) (name : ByteArray) : (readV D name).2 = 0 ∨ (readV D name).2 = 60 ∨ (readV D name).2 = 61 ∨ (readV D name).2 = 62 := by
  unfold readV
  have := chkV_val D [name]
  split
  · rename_i h; simp only at h ⊢; omega
  · split
    · exact .inl rfl
    · exact .inr (.inr (.inr rfl))
theorem openD_foot (D : Dsk) (name : ByteArray) (b i : Nat) : DFoot b (openD D name) i ↔ DFoot b D i := by
  unfold openD
  split
  · exact Iff.rfl
  · split
    · exact cut_foot D name _ b i
    · exact Iff.rfl
/-- What an opening leaves. -/
structure OStep (n b : Nat) (D D' : Dsk) (l : List ByteArray) (L : Lg) (t : St) (e : Int) (v : AV) (t' : St) : Prop where
  step : DStep n b D D' t t'
  bad : e ≠ 0 → v = .tup [.nilp, .nils, .int .i64 e]
  good : e = 0 → ∃ k r, v = .tup [.ptr k 0, r, .int .i64 0] ∧ t.length ≤ k ∧ t'[k]? = some (.cells true (cG L)) ∧ Own t.length 1 cS t' r l ∧ ∀ o e' m c, r ≠ .sl k o e' m c
set_option maxHeartbeats 4000000 in
theorem open_r (t : St) (n b : Nat) (D : Dsk) (name : ByteArray) (hD : DAt t n b D) (hO : DOk D) (hs : name.size < 140737488355328) :
    Run T f_wal_Open [.ptr b 0, .str name] t fun v t' => OStep n b D (openD D name) (scanV (readV D name).1).1 (openL D name b) t (openE D name) v t' := by
  refine run_body (F := r_wal_Open) (has rfl) (by simp [r_wal_Open]) ?_
  simp only [r_wal_Open, XX, CC, YY, Nat.reduceAdd, Nat.reduceSub, Nat.reduceLeDiff, Nat.reduceLT, Nat.reduceEqDiff, reduceIte, ↓reduceIte, Nat.reduceBEq]
  refine (read_r t n b D name hD hs).use ?_
  have hcode := readV_code D name
  have hsz := readV_size hO name
  have heX : openX D name = decide ((readV D name).2 ≠ 0 ∧ (readV D name).2 ≠ 62) := rfl
  have heS : openS D name = decide (((scanV (readV D name).1).2 : Int) < (readV D name).1.size) := rfl
  have hE : openE D name = if openX D name then (readV D name).2 else if openS D name then outC D (cutC D name (scanV (readV D name).1).2) else 0 := rfl
  have hDD : openD D name = if openX D name then D else if openS D name then cutV' D name (scanV (readV D name).1).2 else D := rfl
  have hL : openL D name b = ⟨b, name, (scanV (readV D name).1).2, false⟩ := rfl
  have hfoot := openD_foot D name b
  generalize openL D name b = L at *
  generalize openE D name = E at *
  generalize openD D name = D' at *
  generalize openX D name = X at *
  generalize openS D name = S at *
  generalize readV D name = R at *
  obtain ⟨a, e⟩ := R
  simp only at hcode hsz heX heS hE hDD hL
  have go : X = false → ∀ (env : Env) (Q : XE → Env → St → Prop), True := fun _ _ _ => trivial
  cases hX : X with
  | true =>
    rw [hX] at heX hE hDD
    have he : e ≠ 0 ∧ e ≠ 62 := by simpa using heX.symm
    have e1 : (e == 0) = false := by simp [he.1]
    have e2 : (e == 62) = false := by simp [he.2]
    simp only [XX, CC, YY, Nat.reduceAdd, Nat.reduceSub, Nat.reduceLeDiff, Nat.reduceLT, Nat.reduceEqDiff, reduceIte, ↓reduceIte, Nat.reduceBEq, e1, e2, Bool.not_false, gv_tt]
    rw [if_pos rfl] at hE hDD
    subst hE; subst hDD
    exact .inl ⟨.refl hD hO, fun _ => rfl, fun h => absurd h he.1⟩
  | false =>
    rw [hX] at heX hE hDD
    rw [if_neg (by simp)] at hE hDD
    have he : e = 0 ∨ e = 62 := by
      have : ¬ (e ≠ 0 ∧ e ≠ 62) := by simpa using heX.symm
      omega
    rcases he with rfl | rfl
    all_goals
      simp only [XX, CC, YY, Nat.reduceAdd, Nat.reduceSub, Nat.reduceLeDiff, Nat.reduceLT, Nat.reduceEqDiff, reduceIte, ↓reduceIte, Nat.reduceBEq, show ((0 : Int) == 0) = true from rfl, show ((62 : Int) == 0) = false from rfl, show ((62 : Int) == 62) = true from rfl, Bool.not_true, Bool.not_false, gv_tt, gv_tf]
      refine Run.mono _ _ _ _ _ ?_ (scan_r t a (by omega))
      rintro v t1 ⟨r, rfl, hout⟩
      have x1 := hout.ext
      have hD1 := hD.ext x1
      have hown := hout.own
      have hst1 : DStep n b D D t t1 := ⟨hD1, hO, x1.len, fun i hi _ => x1.get hi, fun i h => .inl h⟩
      have hmake : ∀ (t2 : St), DStep n b D D' t1 t2 → E = 0 → ∀ v, v = .tup [.ptr t2.length 0, r, .int .i64 0] → OStep n b D D' (scanV a).1 L t E v (t2 ++ [.cells true (cG L)]) := by
        rintro t2 hst E0 v rfl
        have hst2 : DStep n b D' D' t2 (t2 ++ [.cells true (cG L)]) := ⟨hst.at_.ext ⟨_, rfl⟩, hst.ok, by simp, fun i hi _ => List.getElem?_append_left hi, fun i h => .inl h⟩
        refine ⟨(hst1.trans hst).trans hst2, fun h => absurd E0 h, fun _ => ⟨_, r, rfl, by have := hst.len; have := x1.len; omega, get_last, ?_, ?_⟩⟩
        · refine hown.keep fun b' hb' hv => ?_
          obtain ⟨o, e', k, c, rfl⟩ := hv
          have hlt := (hown.rd cS_len).lt rfl
          have hlt2 := hst.len
          rw [List.getElem?_append_left (by omega), hst.same b' hlt fun hf => by have := hf.lt hD; omega]
        · rintro o e' m c rfl
          have := (hown.rd cS_len).lt rfl
          have hlt2 := hst.len
          omega
      cases hS : S with
      | true =>
        rw [hS] at heS hE hDD
        rw [if_pos rfl] at hE hDD
        have hlt : ((scanV a).2 : Int) < a.size := by simpa using heS.symm
        simp only [XX, CC, YY, Nat.reduceAdd, Nat.reduceSub, Nat.reduceLeDiff, Nat.reduceLT, Nat.reduceEqDiff, reduceIte, ↓reduceIte, Nat.reduceBEq, dec_t hlt]
        refine Run.mono _ _ _ _ _ ?_ (dcut_g t1 n b D name (scanV a).2 hD1 hO hs)
        rintro v t2 ⟨rfl, hst⟩
        rw [← hE]
        rw [← hDD] at hst
        have em : E = 0 ∨ ¬ E = 0 := Classical.em _
        rcases em with c | c
        · have c' : (E == 0) = true := by simp [c]
          have hf : fillA [AV.nilp, .str (bts []), .int .i64 0, .bool false] [(0, 1, .ptr b 0), (1, 1, .str name), (2, 1, .int .i64 ((scanV a).2 : Int))] = some (cG L) := by rw [hL]; rfl
          have hb : boxA (some 4) (.agg (cG L)) = some (cG L) := rfl
          simp only [XX, CC, YY, Nat.reduceAdd, Nat.reduceSub, Nat.reduceLeDiff, Nat.reduceLT, Nat.reduceEqDiff, reduceIte, ↓reduceIte, Nat.reduceBEq, c', Bool.not_true, hf, hb]
          exact .inl (hmake t2 hst c _ rfl)
        · have c' : (E == 0) = false := by simp [c]
          simp only [XX, CC, YY, Nat.reduceAdd, Nat.reduceSub, Nat.reduceLeDiff, Nat.reduceLT, Nat.reduceEqDiff, reduceIte, ↓reduceIte, Nat.reduceBEq, c', Bool.not_false]
          exact .inl ⟨hst1.trans hst, fun _ => rfl, fun h => absurd h c⟩
      | false =>
        rw [hS] at heS hE hDD
        rw [if_neg (by simp)] at hE hDD
        have hlt : ¬ ((scanV a).2 : Int) < a.size := by simpa using heS.symm
        have hf : fillA [AV.nilp, .str (bts []), .int .i64 0, .bool false] [(0, 1, .ptr b 0), (1, 1, .str name), (2, 1, .int .i64 ((scanV a).2 : Int))] = some (cG L) := by rw [hL]; rfl
        have hb : boxA (some 4) (.agg (cG L)) = some (cG L) := rfl
        simp only [XX, CC, YY, Nat.reduceAdd, Nat.reduceSub, Nat.reduceLeDiff, Nat.reduceLT, Nat.reduceEqDiff, reduceIte, ↓reduceIte, Nat.reduceBEq, dec_f hlt, hf, hb]
        exact .inl (hmake t1 (by rw [hDD]; exact .refl hD1 hO) hE _ rfl)
end Go.Ev

/-! The reference's log: check, Append, Sync, Size. -/
namespace Go.Ev
set_option linter.unusedVariables false
set_option linter.unusedSimpArgs false
open Go.Ev.So Go.Proofs

theorem rlgsize_r (t : St) (k : Nat) (L : Lg) (h : t[k]? = some (.cells true (cG L))) : RunD T f_r07_Log_Size [.ptr k 0] t (.int .i64 L.size) t := by
  refine run_body (F := r_r07_Log_Size) (has rfl) (by simp [r_r07_Log_Size]) ?_
  simp only [r_r07_Log_Size, XX, CC, YY, Nat.reduceAdd, Nat.reduceSub, Nat.reduceLeDiff, Nat.reduceLT, Nat.reduceEqDiff, reduceIte, ↓reduceIte, Nat.reduceBEq, eqp_f, (lgld h).2.2.1]
  exact .inl ⟨rfl, rfl⟩
theorem rlgsizenil_r (t : St) : RunD T f_r07_Log_Size [.nilp] t (.int .i64 0) t := by
  refine run_body (F := r_r07_Log_Size) (has rfl) (by simp [r_r07_Log_Size]) ?_
  simp only [r_r07_Log_Size, XX, CC, YY, Nat.reduceAdd, Nat.reduceSub, Nat.reduceLeDiff, Nat.reduceLT, Nat.reduceEqDiff, reduceIte, ↓reduceIte, Nat.reduceBEq, eqp_t]
  exact .inl ⟨rfl, rfl⟩
theorem rlgchecknil_r (t : St) : RunD T f_r07_Log_check [.nilp] t (.int .i64 2) t := by
  refine run_body (F := r_r07_Log_check) (has rfl) (by simp [r_r07_Log_check]) ?_
  simp only [r_r07_Log_check, XX, CC, YY, Nat.reduceAdd, Nat.reduceSub, Nat.reduceLeDiff, Nat.reduceLT, Nat.reduceEqDiff, reduceIte, ↓reduceIte, Nat.reduceBEq, eqp_t]
  exact .inl ⟨rfl, rfl⟩
set_option maxHeartbeats 1000000 in
theorem rlgcheck_r (t : St) (k : Nat) (L : Lg) (R : Rsk) (h : t[k]? = some (.cells true (cG L))) (hR : t[L.db]? = some (.cells true (cE R))) : RunD T f_r07_Log_check [.ptr k 0] t (.int .i64 (if L.ended || R.down then 60 else 0)) (t.set k (.cells true (cG (lgEnd L (L.ended || R.down))))) := by
  refine run_body (F := r_r07_Log_check) (has rfl) (by simp [r_r07_Log_check]) ?_
  obtain ⟨l0, l1, l2, l3⟩ := lgld h
  have hlt := (List.getElem?_eq_some_iff.1 h).1
  have st : stA t none (.ptr k 3) (.bool true) = some (t.set k (.cells true (cG (lgEnd L true)))) := by
    rw [st_one (by rfl), wr_own h, if_pos ⟨by simp [cG], by rfl⟩]; rfl
  have l4 : ldA (t.set k (.cells true (cG (lgEnd L true)))) none (.ptr k 3) = some (.bool true) := (lgld (L := lgEnd L true) (key_set hlt)).2.2.2
  simp only [r_r07_Log_check, XX, CC, YY, Nat.reduceAdd, Nat.reduceSub, Nat.reduceLeDiff, Nat.reduceLT, Nat.reduceEqDiff, reduceIte, ↓reduceIte, Nat.reduceBEq, eqp_f, l0]
  refine (rdown_r (T := T) t L.db R hR).use ?_
  cases cd : R.down with
  | true =>
    simp only [XX, CC, YY, Nat.reduceAdd, Nat.reduceSub, Nat.reduceLeDiff, Nat.reduceLT, Nat.reduceEqDiff, reduceIte, ↓reduceIte, Nat.reduceBEq, st, l4, Bool.or_true]
    exact .inl ⟨rfl, rfl⟩
  | false =>
    have e : lgEnd L L.ended = L := rfl
    cases ce : L.ended with
    | true =>
      rw [ce] at l3
      rw [ce] at e
      simp only [XX, CC, YY, Nat.reduceAdd, Nat.reduceSub, Nat.reduceLeDiff, Nat.reduceLT, Nat.reduceEqDiff, reduceIte, ↓reduceIte, Nat.reduceBEq, l3, Bool.or_false]
      exact .inl ⟨rfl, by rw [e, set_sameL h]⟩
    | false =>
      rw [ce] at l3
      rw [ce] at e
      simp only [XX, CC, YY, Nat.reduceAdd, Nat.reduceSub, Nat.reduceLeDiff, Nat.reduceLT, Nat.reduceEqDiff, reduceIte, ↓reduceIte, Nat.reduceBEq, l3, Bool.or_false]
      exact .inl ⟨rfl, by rw [e, set_sameL h]⟩

/-- From a log and its disk to a log and its disk. -/
structure RLStep (n k : Nat) (L L' : Lg) (R R' : Rsk) (t t' : St) : Prop where
  at_ : RAt t' n L.db R'
  gd : RGd R'
  db : L'.db = L.db
  name : L'.name = L.name
  log : t'[k]? = some (.cells true (cG L'))
  len : t.length ≤ t'.length
  same : ∀ i, i < t.length → ¬ RFoot L.db R i → i ≠ k → t'[i]? = t[i]?
  foot : ∀ i, RFoot L.db R' i → RFoot L.db R i ∨ t.length ≤ i
section
variable {n k : Nat} {L L' L2 : Lg} {R R' R2 : Rsk} {t t1 t2 : St}
theorem RLStep.trans (h : RLStep n k L L' R R' t t1) (g : RLStep n k L' L2 R' R2 t1 t2) : RLStep n k L L2 R R2 t t2 := by
  have e := h.db
  refine ⟨by rw [← e]; exact g.at_, g.gd, g.db.trans e, g.name.trans h.name, g.log, Nat.le_trans h.len g.len, fun i hi hn hk => ?_, fun i hi => ?_⟩
  · have hl := h.len
    rw [g.same i (by omega) (fun hf => by rw [e] at hf; exact (h.foot i hf).elim hn (by omega)) hk]
    exact h.same i hi hn hk
  · have hl := h.len
    rcases g.foot i (by rw [e]; exact hi) with x | x
    · rw [e] at x; exact h.foot i x
    · exact .inr (by omega)
theorem RLStep.set (hR : RAt t n L.db R) (hO : RGd R) (hL : t[k]? = some (.cells true (cG L))) (hk : ¬ RFoot L.db R k) (h1 : L'.db = L.db) (h2 : L'.name = L.name) : RLStep n k L L' R R t (t.set k (.cells true (cG L'))) :=
  ⟨hR.other fun i hi => List.getElem?_set_ne (fun e => hk (by rw [e]; exact hi)), hO, h1, h2, key_set (List.getElem?_eq_some_iff.1 hL).1, by simp, fun i _ _ hi => List.getElem?_set_ne (fun e => hi e.symm), fun i hi => .inl hi⟩
theorem RLStep.disk (hL : t[k]? = some (.cells true (cG L))) (hk : ¬ RFoot L.db R k) (h : RStep n L.db R R' t t1) (hg : RGd R') : RLStep n k L L R R' t t1 :=
  ⟨h.at_, hg, rfl, rfl, by rw [h.same k (List.getElem?_eq_some_iff.1 hL).1 hk]; exact hL, h.len, fun i hi hn _ => h.same i hi hn, h.foot⟩
theorem RLStep.out (hL : t[k]? = some (.cells true (cG L))) (hk : ¬ RFoot L.db R k) (h : RLStep n k L L' R R' t t1) : ¬ RFoot L'.db R' k := fun hf => by
  rw [h.db] at hf
  have := (List.getElem?_eq_some_iff.1 hL).1
  exact (h.foot k hf).elim hk (by omega)
end

def rlgOff (L : Lg) (R : Rsk) : Bool := L.ended || R.down
def rappOut (R : Rsk) (name p : ByteArray) : Int := routC R (rappC R name p)
def rappTo (R : Rsk) (name p : ByteArray) : Rsk := if rappC R name p ≠ 0 then R else rpowV { R with l := rappM R name p }
def rappCode (L : Lg) (R : Rsk) (p : ByteArray) : Int := if rlgOff L R then 60 else if (frameV p).2 ≠ 0 then (frameV p).2 else rappOut R L.name (frameV p).1
def rappDisk (L : Lg) (R : Rsk) (p : ByteArray) : Rsk := if rlgOff L R then R else if (frameV p).2 ≠ 0 then R else rappTo R L.name (frameV p).1
def rappLog (L : Lg) (R : Rsk) (p : ByteArray) : Lg := { L with
  size := if rlgOff L R = false ∧ (frameV p).2 = 0 ∧ rappOut R L.name (frameV p).1 = 0 then IntKind.i64.wrap (L.size + ((frameV p).1.size : Int)) else L.size
  ended := if rlgOff L R then true else if (frameV p).2 ≠ 0 then false else decide (rappOut R L.name (frameV p).1 = 60) }
set_option maxHeartbeats 4000000 in
theorem rlgappend_r (t : St) (n k : Nat) (L : Lg) (R : Rsk) (p : ByteArray) (hL : t[k]? = some (.cells true (cG L))) (hR : RAt t n L.db R) (hO : RGd R) (hnt : n ≤ t.length) (hk : ¬ RFoot L.db R k) (hs : L.name.size < 140737488355328) (hp : p.size < 1000000) :
    Run T f_r07_Log_Append [.ptr k 0, .str p] t fun v t' => v = .int .i64 (rappCode L R p) ∧ ∃ w, RLStep n k L (rappLog L R p) R { rappDisk L R p with v := w } t t' := by
  refine run_body (F := r_r07_Log_Append) (has rfl) (by simp [r_r07_Log_Append]) ?_
  have hset : ∀ L', L'.db = L.db → L'.name = L.name → RLStep n k L L' R { R with v := R.v } t (t.set k (.cells true (cG L'))) := fun L' h1 h2 => RLStep.set hR hO hL hk h1 h2
  have hlt := (List.getElem?_eq_some_iff.1 hL).1
  simp only [r_r07_Log_Append, XX, CC, YY, Nat.reduceAdd, Nat.reduceSub, Nat.reduceLeDiff, Nat.reduceLT, Nat.reduceEqDiff, reduceIte, ↓reduceIte, Nat.reduceBEq]
  refine (rlgcheck_r t k L R hL hR.cells).use ?_
  unfold rappCode rappDisk
  cases c : rlgOff L R with
  | true =>
    have c' : (L.ended || R.down) = true := c
    rw [c', if_pos rfl]
    simp only [XX, CC, YY, Nat.reduceAdd, Nat.reduceSub, Nat.reduceLeDiff, Nat.reduceLT, Nat.reduceEqDiff, reduceIte, ↓reduceIte, Nat.reduceBEq, show ((60 : Int) == 0) = false from rfl, Bool.not_false]
    refine .inl ⟨rfl, R.v, ?_⟩
    have e : rappLog L R p = lgEnd L true := by
      unfold rappLog lgEnd; rw [c]; simp
    rw [e]
    exact hset _ rfl rfl
  | false =>
    have c' : (L.ended || R.down) = false := c
    rw [c', if_neg (by simp)]
    have hl := frameV_size p hp
    have hfr := rframe_r (T := T) (t.set k (.cells true (cG (lgEnd L false)))) p (by omega)
    simp only [XX, CC, YY, Nat.reduceAdd, Nat.reduceSub, Nat.reduceLeDiff, Nat.reduceLT, Nat.reduceEqDiff, reduceIte, ↓reduceIte, Nat.reduceBEq, show ((0 : Int) == 0) = true from rfl, Bool.not_true]
    refine hfr.use ?_
    have em : (frameV p).2 = 0 ∨ ¬ (frameV p).2 = 0 := Classical.em _
    rcases em with e | e
    rotate_left
    · have e' : ((frameV p).2 == 0) = false := by simp [e]
      simp only [XX, CC, YY, Nat.reduceAdd, Nat.reduceSub, Nat.reduceLeDiff, Nat.reduceLT, Nat.reduceEqDiff, reduceIte, ↓reduceIte, Nat.reduceBEq, e', Bool.not_false]
      have ee : (frameV p).2 ≠ 0 := e
      rw [if_pos ee, if_pos ee]
      have e2 : rappLog L R p = lgEnd L false := by
        unfold rappLog lgEnd; rw [c]; simp [e]
      rw [e2]
      exact .inl ⟨rfl, R.v, hset _ rfl rfl⟩
    have hs1 := hset (lgEnd L false) rfl rfl
    have hln : (t.set k (.cells true (cG (lgEnd L false)))).length = t.length := by simp
    obtain ⟨l0, l1, l2, l3⟩ := lgld hs1.log
    have ha := rappend_g (T := T) _ n L.db R L.name (frameV p).1 hs1.at_ hO (by rw [hln]; exact hnt) hs (by omega)
    have e' : ((frameV p).2 == 0) = true := by simp [e]
    have hld : (lgEnd L false).db = L.db := rfl
    have hlm : (lgEnd L false).name = L.name := rfl
    rw [hld] at l0
    rw [hlm] at l1
    simp only [XX, CC, YY, Nat.reduceAdd, Nat.reduceSub, Nat.reduceLeDiff, Nat.reduceLT, Nat.reduceEqDiff, reduceIte, ↓reduceIte, Nat.reduceBEq, e', Bool.not_true]
    refine drw_in [] rfl ?_
    simp only [List.append_nil, DD, CC, YY, Nat.reduceAdd, Nat.reduceSub, Nat.reduceLeDiff, Nat.reduceLT, Nat.reduceEqDiff, reduceIte, ↓reduceIte, Nat.reduceBEq, l0, l1]
    refine dr_callf ha ?_
    rintro v t' ⟨rfl, w, hst, hgd⟩
    have ee : ¬ ((frameV p).2 ≠ 0) := fun h => h e
    rw [if_neg ee, if_neg ee]
    have hs2 : RLStep n k (lgEnd L false) (lgEnd L false) R { rappTo R L.name (frameV p).1 with v := w } (t.set k (.cells true (cG (lgEnd L false)))) t' := RLStep.disk hs1.log hk hst hgd
    have hs3 := hs1.trans hs2
    have hk3 := hs3.out hL hk
    have eO : routC R (rappC R L.name (frameV p).1) = rappOut R L.name (frameV p).1 := rfl
    rw [eO]
    generalize hO' : rappOut R L.name (frameV p).1 = O at *
    have fin : ∀ L', L' = rappLog L R p → L'.db = L.db → L'.name = L.name → RLStep n k L (rappLog L R p) R { rappTo R L.name (frameV p).1 with v := w } t (t'.set k (.cells true (cG L'))) := by
      rintro L' rfl h1 h2
      exact hs3.trans (RLStep.set hs3.at_ hs3.gd hs3.log hk3 h1 h2)
    have lsz : ldA t' none (.ptr k 2) = some (.int .i64 L.size) := (lgld hs3.log).2.2.1
    have em2 : O = 0 ∨ ¬ O = 0 := Classical.em _
    rcases em2 with e3 | e3
    · have hsto : stA t' none (.ptr k 2) (.int .i64 (IntKind.i64.wrap (L.size + ((frameV p).1.size : Int)))) = some (t'.set k (.cells true (cG { L with size := IntKind.i64.wrap (L.size + ((frameV p).1.size : Int)), ended := false }))) := by
        rw [st_one (by rfl), wr_own hs3.log, if_pos ⟨by simp [cG], by rfl⟩]; rfl
      have e4 : (O == 0) = true := by simp [e3]
      have e6 : (O == 60) = false := by simp [e3]
      simp only [DD, CC, YY, Nat.reduceAdd, Nat.reduceSub, Nat.reduceLeDiff, Nat.reduceLT, Nat.reduceEqDiff, reduceIte, ↓reduceIte, Nat.reduceBEq, e4, e6, Bool.not_true, lsz, hsto]
      refine .inl ⟨rfl, w, fin _ ?_ rfl rfl⟩
      unfold rappLog
      rw [c, hO', e3]; simp [e]
    · have e4 : (O == 0) = false := by simp [e3]
      have em3 : O = 60 ∨ ¬ O = 60 := Classical.em _
      rcases em3 with e5 | e5
      · have e6 : (O == 60) = true := by simp [e5]
        have hsto : stA t' none (.ptr k 3) (.bool true) = some (t'.set k (.cells true (cG { L with ended := true }))) := by
          rw [st_one (by rfl), wr_own hs3.log, if_pos ⟨by simp [cG], by rfl⟩]; rfl
        simp only [DD, CC, YY, Nat.reduceAdd, Nat.reduceSub, Nat.reduceLeDiff, Nat.reduceLT, Nat.reduceEqDiff, reduceIte, ↓reduceIte, Nat.reduceBEq, e4, e6, Bool.not_true, Bool.not_false, hsto]
        refine .inl ⟨rfl, w, fin _ ?_ rfl rfl⟩
        unfold rappLog
        rw [c, hO', e5]; simp [e]
      · have e6 : (O == 60) = false := by simp [e5]
        have e7 : rappLog L R p = lgEnd L false := by
          unfold rappLog lgEnd
          rw [c, hO']; simp [e, e3, e5]
        simp only [DD, CC, YY, Nat.reduceAdd, Nat.reduceSub, Nat.reduceLeDiff, Nat.reduceLT, Nat.reduceEqDiff, reduceIte, ↓reduceIte, Nat.reduceBEq, e4, e6, Bool.not_true, Bool.not_false]
        rw [e7]
        exact .inl ⟨rfl, w, hs3⟩

def rsyncOut (R : Rsk) (name : ByteArray) : Int := routC R (rsyncC R name)
def rsyncTo (R : Rsk) (name : ByteArray) : Rsk := rthen R (rsyncC R name) name rsafe
def rsyncCode (L : Lg) (R : Rsk) : Int := if rlgOff L R then 60 else if rsyncOut R L.name = 62 then 0 else rsyncOut R L.name
def rsyncDisk (L : Lg) (R : Rsk) : Rsk := if rlgOff L R then R else rsyncTo R L.name
def rsyncLog (L : Lg) (R : Rsk) : Lg := { L with ended := if rlgOff L R then true else decide (rsyncOut R L.name = 60) }
set_option maxHeartbeats 4000000 in
theorem rlgsync_r (t : St) (n k : Nat) (L : Lg) (R : Rsk) (hL : t[k]? = some (.cells true (cG L))) (hR : RAt t n L.db R) (hO : RGd R) (hk : ¬ RFoot L.db R k) (hs : L.name.size < 140737488355328) :
    Run T f_r07_Log_Sync [.ptr k 0] t fun v t' => v = .int .i64 (rsyncCode L R) ∧ ∃ w, RLStep n k L (rsyncLog L R) R { rsyncDisk L R with v := w } t t' := by
  refine run_body (F := r_r07_Log_Sync) (has rfl) (by simp [r_r07_Log_Sync]) ?_
  have hset : ∀ L', L'.db = L.db → L'.name = L.name → RLStep n k L L' R { R with v := R.v } t (t.set k (.cells true (cG L'))) := fun L' h1 h2 => RLStep.set hR hO hL hk h1 h2
  have hlt := (List.getElem?_eq_some_iff.1 hL).1
  simp only [r_r07_Log_Sync, XX, CC, YY, Nat.reduceAdd, Nat.reduceSub, Nat.reduceLeDiff, Nat.reduceLT, Nat.reduceEqDiff, reduceIte, ↓reduceIte, Nat.reduceBEq]
  refine (rlgcheck_r t k L R hL hR.cells).use ?_
  unfold rsyncCode rsyncDisk
  cases c : rlgOff L R with
  | true =>
    have c' : (L.ended || R.down) = true := c
    rw [c', if_pos rfl]
    simp only [XX, CC, YY, Nat.reduceAdd, Nat.reduceSub, Nat.reduceLeDiff, Nat.reduceLT, Nat.reduceEqDiff, reduceIte, ↓reduceIte, Nat.reduceBEq, show ((60 : Int) == 0) = false from rfl, Bool.not_false]
    refine .inl ⟨rfl, R.v, ?_⟩
    have e : rsyncLog L R = lgEnd L true := by
      unfold rsyncLog lgEnd; rw [c]; simp
    rw [e]
    exact hset _ rfl rfl
  | false =>
    have c' : (L.ended || R.down) = false := c
    rw [c', if_neg (by simp)]
    have hs1 := hset (lgEnd L false) rfl rfl
    obtain ⟨l0, l1, l2, l3⟩ := lgld hs1.log
    have ha := rsync_g (T := T) _ n L.db R L.name hs1.at_ hO hs
    have hld : (lgEnd L false).db = L.db := rfl
    have hlm : (lgEnd L false).name = L.name := rfl
    rw [hld] at l0
    rw [hlm] at l1
    simp only [XX, CC, YY, Nat.reduceAdd, Nat.reduceSub, Nat.reduceLeDiff, Nat.reduceLT, Nat.reduceEqDiff, reduceIte, ↓reduceIte, Nat.reduceBEq, show ((0 : Int) == 0) = true from rfl, Bool.not_true]
    refine drw_in [] rfl ?_
    simp only [List.append_nil, DD, CC, YY, Nat.reduceAdd, Nat.reduceSub, Nat.reduceLeDiff, Nat.reduceLT, Nat.reduceEqDiff, reduceIte, ↓reduceIte, Nat.reduceBEq, l0, l1]
    refine dr_callf ha ?_
    rintro v t' ⟨rfl, w, hst, hgd⟩
    have hs2 : RLStep n k (lgEnd L false) (lgEnd L false) R { rsyncTo R L.name with v := w } (t.set k (.cells true (cG (lgEnd L false)))) t' := RLStep.disk hs1.log hk hst hgd
    have hs3 := hs1.trans hs2
    have hk3 := hs3.out hL hk
    have eO : routC R (rsyncC R L.name) = rsyncOut R L.name := rfl
    rw [eO]
    generalize hO' : rsyncOut R L.name = O at *
    have fin : ∀ L', L' = rsyncLog L R → L'.db = L.db → L'.name = L.name → RLStep n k L (rsyncLog L R) R { rsyncTo R L.name with v := w } t (t'.set k (.cells true (cG L'))) := by
      rintro L' rfl h1 h2
      exact hs3.trans (RLStep.set hs3.at_ hs3.gd hs3.log hk3 h1 h2)
    have em2 : O = 62 ∨ ¬ O = 62 := Classical.em _
    rcases em2 with e3 | e3
    · have e4 : (O == 62) = true := by simp [e3]
      have e6 : (O == 60) = false := by simp [e3]
      have e7 : rsyncLog L R = lgEnd L false := by
        unfold rsyncLog lgEnd
        rw [c, hO', e3]; simp
      simp only [DD, CC, YY, Nat.reduceAdd, Nat.reduceSub, Nat.reduceLeDiff, Nat.reduceLT, Nat.reduceEqDiff, reduceIte, ↓reduceIte, Nat.reduceBEq, e4, e6, Bool.not_true]
      rw [e7, if_pos e3]
      exact .inl ⟨rfl, w, hs3⟩
    · have e4 : (O == 62) = false := by simp [e3]
      rw [if_neg e3]
      have em3 : O = 60 ∨ ¬ O = 60 := Classical.em _
      rcases em3 with e5 | e5
      · have e6 : (O == 60) = true := by simp [e5]
        have hsto : stA t' none (.ptr k 3) (.bool true) = some (t'.set k (.cells true (cG { L with ended := true }))) := by
          rw [st_one (by rfl), wr_own hs3.log, if_pos ⟨by simp [cG], by rfl⟩]; rfl
        simp only [DD, CC, YY, Nat.reduceAdd, Nat.reduceSub, Nat.reduceLeDiff, Nat.reduceLT, Nat.reduceEqDiff, reduceIte, ↓reduceIte, Nat.reduceBEq, e4, e6, Bool.not_true, Bool.not_false, hsto]
        refine .inl ⟨rfl, w, fin _ ?_ rfl rfl⟩
        unfold rsyncLog
        rw [c, hO', e5]; simp
      · have e6 : (O == 60) = false := by simp [e5]
        have e7 : rsyncLog L R = lgEnd L false := by
          unfold rsyncLog lgEnd
          rw [c, hO']; simp [e5]
        simp only [DD, CC, YY, Nat.reduceAdd, Nat.reduceSub, Nat.reduceLeDiff, Nat.reduceLT, Nat.reduceEqDiff, reduceIte, ↓reduceIte, Nat.reduceBEq, e4, e6, Bool.not_true, Bool.not_false]
        rw [e7]
        exact .inl ⟨rfl, w, hs3⟩
end Go.Ev

/-! The reference's log: Open; logs that are nil. -/
namespace Go.Ev
set_option linter.unusedVariables false
set_option linter.unusedSimpArgs false
open Go.Ev.So Go.Proofs

theorem lgappendnil_r (t : St) (p : ByteArray) : RunD T f_wal_Log_Append [.nilp, .str p] t (.int .i64 2) t := by
  refine run_body (F := r_wal_Log_Append) (has rfl) (by simp [r_wal_Log_Append]) ?_
  simp only [r_wal_Log_Append, XX, CC, YY, Nat.reduceAdd, Nat.reduceSub, Nat.reduceLeDiff, Nat.reduceLT, Nat.reduceEqDiff, reduceIte, ↓reduceIte, Nat.reduceBEq]
  refine (lgchecknil_r (T := T) t).use ?_
  simp only [XX, CC, YY, Nat.reduceAdd, Nat.reduceSub, Nat.reduceLeDiff, Nat.reduceLT, Nat.reduceEqDiff, reduceIte, ↓reduceIte, Nat.reduceBEq, show ((2 : Int) == 0) = false from rfl, Bool.not_false]
  exact .inl ⟨rfl, rfl⟩
theorem lgsyncnil_r (t : St) : RunD T f_wal_Log_Sync [.nilp] t (.int .i64 2) t := by
  refine run_body (F := r_wal_Log_Sync) (has rfl) (by simp [r_wal_Log_Sync]) ?_
  simp only [r_wal_Log_Sync, XX, CC, YY, Nat.reduceAdd, Nat.reduceSub, Nat.reduceLeDiff, Nat.reduceLT, Nat.reduceEqDiff, reduceIte, ↓reduceIte, Nat.reduceBEq]
  refine (lgchecknil_r (T := T) t).use ?_
  simp only [XX, CC, YY, Nat.reduceAdd, Nat.reduceSub, Nat.reduceLeDiff, Nat.reduceLT, Nat.reduceEqDiff, reduceIte, ↓reduceIte, Nat.reduceBEq, show ((2 : Int) == 0) = false from rfl, Bool.not_false]
  exact .inl ⟨rfl, rfl⟩
theorem rlgappendnil_r (t : St) (p : ByteArray) : RunD T f_r07_Log_Append [.nilp, .str p] t (.int .i64 2) t := by
  refine run_body (F := r_r07_Log_Append) (has rfl) (by simp [r_r07_Log_Append]) ?_
  simp only [r_r07_Log_Append, XX, CC, YY, Nat.reduceAdd, Nat.reduceSub, Nat.reduceLeDiff, Nat.reduceLT, Nat.reduceEqDiff, reduceIte, ↓reduceIte, Nat.reduceBEq]
  refine (rlgchecknil_r t).use ?_
  simp only [XX, CC, YY, Nat.reduceAdd, Nat.reduceSub, Nat.reduceLeDiff, Nat.reduceLT, Nat.reduceEqDiff, reduceIte, ↓reduceIte, Nat.reduceBEq, show ((2 : Int) == 0) = false from rfl, Bool.not_false]
  exact .inl ⟨rfl, rfl⟩
theorem rlgsyncnil_r (t : St) : RunD T f_r07_Log_Sync [.nilp] t (.int .i64 2) t := by
  refine run_body (F := r_r07_Log_Sync) (has rfl) (by simp [r_r07_Log_Sync]) ?_
  simp only [r_r07_Log_Sync, XX, CC, YY, Nat.reduceAdd, Nat.reduceSub, Nat.reduceLeDiff, Nat.reduceLT, Nat.reduceEqDiff, reduceIte, ↓reduceIte, Nat.reduceBEq]
  refine (rlgchecknil_r t).use ?_
  simp only [XX, CC, YY, Nat.reduceAdd, Nat.reduceSub, Nat.reduceLeDiff, Nat.reduceLT, Nat.reduceEqDiff, reduceIte, ↓reduceIte, Nat.reduceBEq, show ((2 : Int) == 0) = false from rfl, Bool.not_false]
  exact .inl ⟨rfl, rfl⟩

def ropenX (R : Rsk) (name : ByteArray) : Bool := decide ((rreadV R name).2 ≠ 0 ∧ (rreadV R name).2 ≠ 62)
def ropenS (R : Rsk) (name : ByteArray) : Bool := decide (((scanV (rreadV R name).1).2 : Int) < (rreadV R name).1.size)
def ropenE (R : Rsk) (name : ByteArray) : Int := if ropenX R name then (rreadV R name).2 else if ropenS R name then routC R (rcutC R name (scanV (rreadV R name).1).2) else 0
def ropenD (R : Rsk) (name : ByteArray) : Rsk := if ropenX R name then R else if ropenS R name then rthen R (rcutC R name (scanV (rreadV R name).1).2) name (rcutF (scanV (rreadV R name).1).2) else R
def ropenL (R : Rsk) (name : ByteArray) (b : Nat) : Lg := ⟨b, name, (scanV (rreadV R name).1).2, false⟩
theorem rreadV_size {R : Rsk} (hO : RGd R) (name : ByteArray) : (rreadV R name).1.size ≤ 1048576 := by
  unfold rreadV
  split
  · exact Nat.zero_le _
  · split
    · rename_i f hf
      exact (hO.ok.1 f (List.mem_of_find?_eq_some hf)).2.2
    · decide
theorem rreadV_code (R : Rsk) (name : ByteArray) : (rreadV R name).2 = 0 ∨ (rreadV R name).2 = 60 ∨ (rreadV R name).2 = 61 ∨ (rreadV R name).2 = 62 := by
  unfold rreadV
  have := rchkV_val R name
  split
  · rename_i h; simp only at h ⊢; omega
  · split
    · exact .inl rfl
    · exact .inr (.inr (.inr rfl))
/-- What an opening leaves. -/
structure ROStep (n b : Nat) (R R' : Rsk) (l : List ByteArray) (L : Lg) (t : St) (e : Int) (v : AV) (t' : St) : Prop where
  step : RStep n b R R' t t'
  gd : RGd R'
  bad : e ≠ 0 → v = .tup [.nilp, .nils, .int .i64 e]
  good : e = 0 → ∃ k r, v = .tup [.ptr k 0, r, .int .i64 0] ∧ t.length ≤ k ∧ t'[k]? = some (.cells true (cG L)) ∧ Own t.length 1 cS t' r l ∧ ¬ RFoot b R' k
set_option maxHeartbeats 4000000 in
theorem ropen_r (t : St) (n b : Nat) (R : Rsk) (name : ByteArray) (hR : RAt t n b R) (hO : RGd R) (hs : name.size < 140737488355328) :
    Run T f_r07_Open [.ptr b 0, .str name] t fun v t' => ∃ w, ROStep n b R { ropenD R name with v := w } (scanV (rreadV R name).1).1 (ropenL R name b) t (ropenE R name) v t' := by
  refine run_body (F := r_r07_Open) (has rfl) (by simp [r_r07_Open]) ?_
  simp only [r_r07_Open, XX, CC, YY, Nat.reduceAdd, Nat.reduceSub, Nat.reduceLeDiff, Nat.reduceLT, Nat.reduceEqDiff, reduceIte, ↓reduceIte, Nat.reduceBEq]
  refine (rread_r (T := T) t b R name hR.cells hR.rd (by have := hO.ok.2; omega) hs).use ?_
  have hcode := rreadV_code R name
  have hsz := rreadV_size hO name
  have heX : ropenX R name = decide ((rreadV R name).2 ≠ 0 ∧ (rreadV R name).2 ≠ 62) := rfl
  have heS : ropenS R name = decide (((scanV (rreadV R name).1).2 : Int) < (rreadV R name).1.size) := rfl
  have hE : ropenE R name = if ropenX R name then (rreadV R name).2 else if ropenS R name then routC R (rcutC R name (scanV (rreadV R name).1).2) else 0 := rfl
  have hDD : ropenD R name = if ropenX R name then R else if ropenS R name then rthen R (rcutC R name (scanV (rreadV R name).1).2) name (rcutF (scanV (rreadV R name).1).2) else R := rfl
  have hL : ropenL R name b = ⟨b, name, (scanV (rreadV R name).1).2, false⟩ := rfl
  generalize ropenL R name b = L at *
  generalize ropenE R name = E at *
  generalize ropenD R name = R' at *
  generalize ropenX R name = X at *
  generalize ropenS R name = S at *
  generalize rreadV R name = Rd0 at *
  obtain ⟨a, e⟩ := Rd0
  simp only at hcode hsz heX heS hE hDD hL
  cases hX : X with
  | true =>
    rw [hX] at heX hE hDD
    have he : e ≠ 0 ∧ e ≠ 62 := by simpa using heX.symm
    have e1 : (e == 0) = false := by simp [he.1]
    have e2 : (e == 62) = false := by simp [he.2]
    simp only [XX, CC, YY, Nat.reduceAdd, Nat.reduceSub, Nat.reduceLeDiff, Nat.reduceLT, Nat.reduceEqDiff, reduceIte, ↓reduceIte, Nat.reduceBEq, e1, e2, Bool.not_false, gv_tt]
    rw [if_pos rfl] at hE hDD
    subst hE; subst hDD
    exact .inl ⟨R'.v, .refl hR, hO, fun _ => rfl, fun h => absurd h he.1⟩
  | false =>
    rw [hX] at heX hE hDD
    rw [if_neg (by simp)] at hE hDD
    have he : e = 0 ∨ e = 62 := by
      have : ¬ (e ≠ 0 ∧ e ≠ 62) := by simpa using heX.symm
      omega
    rcases he with rfl | rfl
    all_goals
      simp only [XX, CC, YY, Nat.reduceAdd, Nat.reduceSub, Nat.reduceLeDiff, Nat.reduceLT, Nat.reduceEqDiff, reduceIte, ↓reduceIte, Nat.reduceBEq, show ((0 : Int) == 0) = true from rfl, show ((62 : Int) == 0) = false from rfl, show ((62 : Int) == 62) = true from rfl, Bool.not_true, Bool.not_false, gv_tt, gv_tf]
      refine Run.mono _ _ _ _ _ ?_ (rscan_r (T := T) t a (by omega))
      rintro v t1 ⟨r, rfl, hout⟩
      have x1 := hout.ext
      have hR1 := hR.ext x1
      have hown := hout.own
      have hst1 : RStep n b R R t t1 := ⟨hR1, x1.len, fun i hi _ => x1.get hi, fun i h => .inl h⟩
      have hmake : ∀ (t2 : St) (w : AV), RStep n b R { R' with v := w } t1 t2 → RGd { R' with v := w } → E = 0 → ∀ v, v = .tup [.ptr t2.length 0, r, .int .i64 0] → ROStep n b R { R' with v := w } (scanV a).1 L t E v (t2 ++ [.cells true (cG L)]) := by
        rintro t2 w hst hgd E0 v rfl
        have hst2 : RStep n b { R' with v := w } { R' with v := w } t2 (t2 ++ [.cells true (cG L)]) := ⟨hst.at_.ext ⟨_, rfl⟩, by simp, fun i hi _ => List.getElem?_append_left hi, fun i h => .inl h⟩
        refine ⟨(hst1.trans hst).trans hst2, hgd, fun h => absurd E0 h, fun _ => ⟨_, r, rfl, by have := hst.len; have := x1.len; omega, get_last, ?_, fun hf => ?_⟩⟩
        · refine hown.keep fun b' hb' hv => ?_
          obtain ⟨o, e', k, c, rfl⟩ := hv
          have hlt := (hown.rd cS_len).lt rfl
          have hlt2 := hst.len
          rw [List.getElem?_append_left (by omega), hst.same b' hlt fun hf => by have := hf.lt hR; omega]
        · have := hf.lt hst.at_; omega
      cases hS : S with
      | true =>
        rw [hS] at heS hE hDD
        rw [if_pos rfl] at hE hDD
        have hlt : ((scanV a).2 : Int) < a.size := by simpa using heS.symm
        simp only [XX, CC, YY, Nat.reduceAdd, Nat.reduceSub, Nat.reduceLeDiff, Nat.reduceLT, Nat.reduceEqDiff, reduceIte, ↓reduceIte, Nat.reduceBEq, dec_t hlt]
        refine Run.mono _ _ _ _ _ ?_ (rcut_g (T := T) t1 n b R name (scanV a).2 hR1 hO hs)
        rintro v t2 ⟨rfl, w, hst, hgd⟩
        rw [← hE]
        rw [← hDD] at hst hgd
        have em : E = 0 ∨ ¬ E = 0 := Classical.em _
        rcases em with c | c
        · have c' : (E == 0) = true := by simp [c]
          have hf : fillA [AV.nilp, .str (bts []), .int .i64 0, .bool false] [(0, 1, .ptr b 0), (1, 1, .str name), (2, 1, .int .i64 ((scanV a).2 : Int))] = some (cG L) := by rw [hL]; rfl
          have hb : boxA (some 4) (.agg (cG L)) = some (cG L) := rfl
          simp only [XX, CC, YY, Nat.reduceAdd, Nat.reduceSub, Nat.reduceLeDiff, Nat.reduceLT, Nat.reduceEqDiff, reduceIte, ↓reduceIte, Nat.reduceBEq, c', Bool.not_true, hf, hb]
          exact .inl ⟨w, hmake t2 w hst hgd c _ rfl⟩
        · have c' : (E == 0) = false := by simp [c]
          simp only [XX, CC, YY, Nat.reduceAdd, Nat.reduceSub, Nat.reduceLeDiff, Nat.reduceLT, Nat.reduceEqDiff, reduceIte, ↓reduceIte, Nat.reduceBEq, c', Bool.not_false]
          exact .inl ⟨w, hst1.trans hst, hgd, fun _ => rfl, fun h => absurd h c⟩
      | false =>
        rw [hS] at heS hE hDD
        rw [if_neg (by simp)] at hE hDD
        have hlt : ¬ ((scanV a).2 : Int) < a.size := by simpa using heS.symm
        have hf : fillA [AV.nilp, .str (bts []), .int .i64 0, .bool false] [(0, 1, .ptr b 0), (1, 1, .str name), (2, 1, .int .i64 ((scanV a).2 : Int))] = some (cG L) := by rw [hL]; rfl
        have hb : boxA (some 4) (.agg (cG L)) = some (cG L) := rfl
        simp only [XX, CC, YY, Nat.reduceAdd, Nat.reduceSub, Nat.reduceLeDiff, Nat.reduceLT, Nat.reduceEqDiff, reduceIte, ↓reduceIte, Nat.reduceBEq, dec_f hlt, hf, hb]
        exact .inl ⟨R'.v, hmake t1 R'.v (by rw [hDD]; exact .refl hR1) (by rw [hDD]; exact hO) hE _ rfl⟩
end Go.Ev

/-! The program's disk and the reference's: one and the same. -/
namespace Go.Ev
set_option linter.unusedVariables false
set_option linter.unusedSimpArgs false
open Go.Ev.So Go.Proofs

def toT (f : Fil × Nat) : RFil := (f.1.name, f.1.data, f.1.safe)
structure PR (D : Dsk) (R : Rsk) : Prop where
  down : R.down = D.down
  n : R.n = D.steps
  arm : (D.armed = true ∧ R.left = D.left ∧ 0 ≤ D.left ∧ D.left ≤ 9223372036854775807 ∧ R.keep = D.keep) ∨ (D.armed = false ∧ R.left = -1)
  perm : R.l.Perm (D.fs.map toT)
  names : (D.fs.map (·.1.name)).Nodup
theorem find_perm {l1 l2 : List RFil} (hp : l1.Perm l2) (hn : (l2.map (·.1)).Nodup) (name : ByteArray) : (l1.find? fun f => decide (f.1 = name)) = l2.find? fun f => decide (f.1 = name) := by
  have uniq : ∀ {l : List RFil}, (l.map (·.1)).Nodup → ∀ {a b : RFil}, a ∈ l → b ∈ l → a.1 = b.1 → a = b := by
    intro l
    induction l with
    | nil => intro _ a b ha; cases ha
    | cons x l ih =>
      intro hl a b ha hb e
      rw [List.map_cons, List.nodup_cons] at hl
      rcases List.mem_cons.1 ha with ha | ha <;> rcases List.mem_cons.1 hb with hb | hb
      · rw [ha, hb]
      · exact absurd (by rw [← ha, e]; exact List.mem_map_of_mem hb) hl.1
      · exact absurd (by rw [← hb, ← e]; exact List.mem_map_of_mem ha) hl.1
      · exact ih hl.2 ha hb e
  cases h1 : l1.find? fun f => decide (f.1 = name) with
  | none =>
    symm
    rw [List.find?_eq_none] at h1 ⊢
    exact fun x hx => h1 x (hp.mem_iff.2 hx)
  | some f =>
    have m1 := hp.mem_iff.1 (List.mem_of_find?_eq_some h1)
    have e1 : f.1 = name := by simpa using List.find?_some h1
    cases h2 : l2.find? fun f => decide (f.1 = name) with
    | none =>
      have := List.find?_eq_none.1 h2 f m1
      simp [e1] at this
    | some g =>
      have e2 : g.1 = name := by simpa using List.find?_some h2
      rw [uniq hn m1 (List.mem_of_find?_eq_some h2) (e1.trans e2.symm)]
def getT (f : Fil) : RFil := (f.name, f.data, f.safe)
theorem find_toT (name : ByteArray) : ∀ fs : List (Fil × Nat), ((fs.map toT).find? fun f => decide (f.1 = name)) = ((fs.find? fun f => decide (name = f.1.name)).map (·.1)).map getT
  | [] => rfl
  | f :: fs => by
    rw [List.map_cons, List.find?_cons, List.find?_cons]
    have e : (toT f).1 = f.1.name := rfl
    by_cases c : name = f.1.name
    · rw [e, decide_eq_true c, decide_eq_true c.symm]; rfl
    · rw [e, decide_eq_false c, decide_eq_false (fun h => c h.symm)]
      exact find_toT name fs
section
variable {D : Dsk} {R : Rsk}
theorem PR.v (h : PR D R) (w : AV) : PR D { R with v := w } := ⟨h.down, h.n, h.arm, h.perm, h.names⟩
theorem PR.get (h : PR D R) (name : ByteArray) : rget R name = (getF D name).map getT := by
  unfold rget getF
  rw [find_perm h.perm (by rw [List.map_map]; exact h.names), find_toT]
theorem PR.chk (h : PR D R) (name : ByteArray) : rchkV R name = chkV D [name] := (rcheck_same D R name h.down.symm).symm
theorem PR.len (h : PR D R) : R.l.length = D.fs.length := by rw [h.perm.length_eq, List.length_map]
theorem PR.read (h : PR D R) (name : ByteArray) : rreadV R name = readV D name := by
  unfold rreadV readV
  have hg := h.get name
  unfold rget at hg
  rw [h.chk, hg]
  split
  · rfl
  · cases getF D name <;> rfl
theorem PR.gone (h : PR D R) : gone D ↔ R.left = 0 := by
  unfold Go.Ev.gone
  rcases h.arm with ⟨a, b, _⟩ | ⟨a, b⟩
  · rw [a, b]; simp
  · rw [a, b]; simp
theorem PR.code (h : PR D R) : spendC D = if R.left = 0 then 60 else 0 := by
  unfold spendC
  by_cases c : Go.Ev.gone D
  · rw [if_pos c, if_pos (h.gone.1 c)]
  · rw [if_neg c, if_neg (fun x => c (h.gone.2 x))]
theorem PR.out (h : PR D R) (c : Int) : routC R c = outC D c := by
  unfold routC outC
  rw [h.code]
theorem PR.lose (h : PR D R) (keep : Int) : PR (loseD D keep) (rgone R keep) := by
  refine ⟨rfl, h.n, .inr ⟨rfl, rfl⟩, ?_, ?_⟩
  · show (R.l.map (cutT keep)).Perm ((D.fs.map fun f => (loseF keep f.1, f.2)).map toT)
    have e : (D.fs.map fun f => (loseF keep f.1, f.2)).map toT = (D.fs.map toT).map (cutT keep) := by
      rw [List.map_map, List.map_map]; rfl
    rw [e]
    exact h.perm.map _
  · show ((D.fs.map fun f => (loseF keep f.1, f.2)).map (·.1.name)).Nodup
    rw [List.map_map]; exact h.names
theorem PR.spend0 (h : PR D R) (hg : ¬ Go.Ev.gone D) : PR (spendD D) (rpow R) := by
  have hl : R.left ≠ 0 := fun x => hg (h.gone.2 x)
  refine ⟨h.down, ?_, ?_, h.perm, h.names⟩
  · show IntKind.i64.wrap (R.n + 1) = IntKind.i64.wrap (D.steps + 1)
    rw [h.n]
  · rcases h.arm with ⟨a, b, c, d, e⟩ | ⟨a, b⟩
    · left
      have w : IntKind.i64.wrap (D.left - 1) = D.left - 1 := w64_in (by omega) (by omega)
      refine ⟨a, ?_, ?_, ?_, e⟩
      · show (if R.left > 0 then IntKind.i64.wrap (R.left - 1) else R.left) = IntKind.i64.wrap (D.left - 1)
        rw [if_pos (by omega), b]
      · show 0 ≤ IntKind.i64.wrap (D.left - 1)
        rw [w]; omega
      · show IntKind.i64.wrap (D.left - 1) ≤ _
        rw [w]; omega
    · right
      refine ⟨a, ?_⟩
      show (if R.left > 0 then IntKind.i64.wrap (R.left - 1) else R.left) = -1
      rw [if_neg (by omega), b]
theorem PR.keep_eq (h : PR D R) (hg : Go.Ev.gone D) : R.keep = D.keep := by
  rcases h.arm with ⟨_, _, _, _, e⟩ | ⟨a, _⟩
  · exact e
  · have := hg.1; rw [a] at this; cases this
theorem PR.spend (h : PR D R) : PR (spendV D) (rpowV R) := by
  unfold spendV rpowV
  by_cases c : Go.Ev.gone D
  · rw [if_pos c, if_pos (h.gone.1 c), h.keep_eq c]; exact h.lose _
  · rw [if_neg c, if_neg (fun x => c (h.gone.2 x))]; exact h.spend0 c
/-- A file changed in both. -/
theorem PR.upd (h : PR D R) (name : ByteArray) (g : Fil → Fil) (g' : RFil → RFil) (hg : ∀ f k, toT (g f, k) = g' (toT (f, k))) (hn : ∀ f, (g f).name = f.name) : PR (setF D name g) { R with l := R.l.map (updT name g') } := by
  refine ⟨h.down, h.n, h.arm, ?_, ?_⟩
  · show (R.l.map (updT name g')).Perm ((D.fs.map (updF name g)).map toT)
    have e : (D.fs.map (updF name g)).map toT = (D.fs.map toT).map (updT name g') := by
      rw [List.map_map, List.map_map]
      apply List.map_congr_left
      rintro ⟨f, k⟩ _
      simp only [Function.comp, updF, updT]
      by_cases c : name = f.name
      · rw [if_pos c, if_pos (show (toT (f, k)).1 = name from c.symm)]; exact hg f k
      · rw [if_neg c, if_neg (show ¬ (toT (f, k)).1 = name from fun x => c x.symm)]
    rw [e]
    exact h.perm.map _
  · show ((D.fs.map (updF name g)).map (·.1.name)).Nodup
    have e : (D.fs.map (updF name g)).map (·.1.name) = D.fs.map (·.1.name) := by
      rw [List.map_map]
      apply List.map_congr_left
      rintro ⟨f, k⟩ _
      simp only [Function.comp, updF]
      split
      · exact hn f
      · rfl
    rw [e]; exact h.names
theorem PR.appC (h : PR D R) (name data : ByteArray) : rappC R name data = Go.Ev.appC D name data := by
  unfold rappC Go.Ev.appC
  rw [h.chk, h.get, h.len]
  split
  · rfl
  · cases getF D name <;> rfl
theorem PR.appM (h : PR D R) (name data : ByteArray) (fb : Nat) : PR (Go.Ev.appM D name data fb) { R with l := rappM R name data } := by
  unfold Go.Ev.appM rappM
  rw [h.get]
  cases c : getF D name with
  | some f => exact h.upd name _ _ (fun f k => rfl) (fun f => rfl)
  | none =>
    refine ⟨h.down, h.n, h.arm, ?_, ?_⟩
    · show (insT (name, bts [] ++ data, 0) R.l).Perm ((D.fs ++ [((⟨name, bts [] ++ data, 0, fb⟩ : Fil), D.clock)]).map toT)
      rw [List.map_append]
      refine (ins_perm _ _).trans ?_
      exact ((h.perm.cons _).trans (List.perm_append_singleton (name, bts [] ++ data, (0 : Int)) (D.fs.map toT)).symm)
    · show ((D.fs ++ [((⟨name, bts [] ++ data, 0, fb⟩ : Fil), D.clock)]).map (·.1.name)).Nodup
      rw [List.map_append]
      have hn := getF_none c
      refine List.nodup_append.2 ⟨h.names, by simp, fun a ha b hb => ?_⟩
      obtain ⟨f, hf, rfl⟩ := List.mem_map.1 ha
      simp only [List.map_cons, List.map_nil, List.mem_singleton] at hb
      rw [hb]
      exact hn f hf
theorem PR.app (h : PR D R) (name data : ByteArray) (fb : Nat) : PR (appV D name data fb) (rappTo R name data) := by
  unfold appV rappTo
  rw [h.appC]
  split
  · exact h
  · exact (h.appM name data fb).spend
theorem PR.syncC (h : PR D R) (name : ByteArray) : rsyncC R name = Go.Ev.syncC D name := by
  unfold rsyncC Go.Ev.syncC
  rw [h.chk, h.get]
  split
  · rfl
  · cases getF D name <;> rfl
theorem spendC_60 (D : Dsk) : spendC D ≠ 0 ↔ Go.Ev.gone D := by
  unfold spendC
  by_cases c : Go.Ev.gone D
  · rw [if_pos c]; simp [c]
  · rw [if_neg c]; simp [c]
theorem PR.then_ (h : PR D R) (c : Int) (name : ByteArray) (g : Fil → Fil) (g' : RFil → RFil) (hg : ∀ f k, toT (g f, k) = g' (toT (f, k))) (hn : ∀ f, (g f).name = f.name) :
    PR (if c ≠ 0 then D else if spendC D ≠ 0 then spendV D else setF (spendV D) name g) (rthen R c name g') := by
  unfold rthen
  by_cases c0 : c ≠ 0
  · rw [if_pos c0, if_pos c0]; exact h
  · rw [if_neg c0, if_neg c0]
    by_cases c1 : Go.Ev.gone D
    · rw [if_pos ((spendC_60 D).2 c1), if_pos (h.gone.1 c1)]
      have e : spendV D = loseD D D.keep := if_pos c1
      rw [e, h.keep_eq c1]; exact h.lose _
    · rw [if_neg (fun x => c1 ((spendC_60 D).1 x)), if_neg (fun x => c1 (h.gone.2 x))]
      have e : spendV D = spendD D := if_neg c1
      rw [e]
      exact (h.spend0 c1).upd name g g' hg hn
theorem PR.sync (h : PR D R) (name : ByteArray) : PR (syncV D name) (rsyncTo R name) := by
  unfold rsyncTo
  rw [h.syncC]
  exact h.then_ _ name _ _ (fun f k => rfl) (fun f => rfl)
theorem PR.cutC (h : PR D R) (name : ByteArray) (m : Int) : rcutC R name m = Go.Ev.cutC D name m := by
  unfold rcutC Go.Ev.cutC
  rw [h.chk, h.get]
  split
  · rfl
  · cases getF D name <;> rfl
theorem PR.cut (h : PR D R) (name : ByteArray) (m : Int) : PR (cutV' D name m) (rthen R (rcutC R name m) name (rcutF m)) := by
  rw [h.cutC]
  exact h.then_ _ name _ _ (fun f k => rfl) (fun f => rfl)
theorem PR.off (h : PR D R) (keep : Int) : PR (offV D keep) (roff R keep) := by
  unfold offV roff
  rw [h.down]
  split
  · exact h
  · exact h.lose keep
theorem PR.on (h : PR D R) : PR (onD D) (ron R) := ⟨rfl, h.n, .inr ⟨rfl, rfl⟩, h.perm, h.names⟩
theorem PR.arm_ (h : PR D R) (k keep : Int) (hk : -9223372036854775808 ≤ k ∧ k ≤ 9223372036854775807) : PR (armD D k keep) (rarm R k keep) := by
  unfold armD rarm
  rw [h.down]
  split
  · exact h
  · refine ⟨by simp [h.down], h.n, ?_, h.perm, h.names⟩
    by_cases c : k ≥ 0
    · left
      refine ⟨decide_eq_true c, ?_, c, hk.2, rfl⟩
      show (if k < 0 then -1 else k) = k
      rw [if_neg (by omega)]
    · right
      refine ⟨decide_eq_false c, ?_⟩
      show (if k < 0 then -1 else k) = -1
      rw [if_pos (by omega)]
theorem PR.opn (h : PR D R) (name : ByteArray) : ropenE R name = openE D name ∧ PR (openD D name) (ropenD R name) ∧ (scanV (rreadV R name).1).1 = (scanV (readV D name).1).1 := by
  have hX : ropenX R name = openX D name := by unfold ropenX openX; rw [h.read]
  have hS : ropenS R name = openS D name := by unfold ropenS openS; rw [h.read]
  refine ⟨?_, ?_, by rw [h.read]⟩
  · unfold ropenE openE
    rw [hX, hS, h.read, h.cutC, h.out]
  · unfold ropenD openD
    rw [hX, hS, h.read]
    split
    · exact h
    · split
      · exact h.cut name _
      · exact h
end
theorem new_PR (mb : Nat) : PR (newD mb) rnew := ⟨rfl, rfl, .inr ⟨rfl, rfl⟩, .nil, by simp [newD]⟩

/-- Two logs that are alike. -/
structure LgR (L M : Lg) : Prop where
  name : M.name = L.name
  size : M.size = L.size
  ended : M.ended = L.ended
section
variable {D : Dsk} {R : Rsk} {L M : Lg}
theorem LgR.lapp (h : LgR L M) (hp : PR D R) (p : ByteArray) (fb : Nat) : rappCode M R p = appCode L D p ∧ PR (appDisk L D p fb) (rappDisk M R p) ∧ LgR (appLog L D p) (rappLog M R p) := by
  have ho : rlgOff M R = lgOff L D := by unfold rlgOff lgOff; rw [h.ended, hp.down]
  have hO : rappOut R M.name (frameV p).1 = outC D (Go.Ev.appC D L.name (frameV p).1) := by
    unfold rappOut; rw [hp.appC, hp.out, h.name]
  refine ⟨?_, ?_, h.name, ?_, ?_⟩
  · unfold rappCode appCode; rw [ho, hO]
  · unfold rappDisk appDisk; rw [ho]
    split
    · exact hp
    · split
      · exact hp
      · rw [h.name]; exact hp.app L.name _ fb
  · unfold rappLog appLog; simp only; rw [ho, hO, h.size]
  · unfold rappLog appLog; simp only; rw [ho, hO]
theorem LgR.lsyn (h : LgR L M) (hp : PR D R) : rsyncCode M R = syncCode L D ∧ PR (syncDisk L D) (rsyncDisk M R) ∧ LgR (syncLog L D) (rsyncLog M R) := by
  have ho : rlgOff M R = lgOff L D := by unfold rlgOff lgOff; rw [h.ended, hp.down]
  have hO : rsyncOut R M.name = outC D (Go.Ev.syncC D L.name) := by
    unfold rsyncOut; rw [hp.syncC, hp.out, h.name]
  refine ⟨?_, ?_, h.name, h.size, ?_⟩
  · unfold rsyncCode syncCode; rw [ho, hO]
  · unfold rsyncDisk syncDisk; rw [ho]
    split
    · exact hp
    · rw [h.name]; exact hp.sync L.name
  · unfold rsyncLog syncLog; simp only; rw [ho, hO]
end
end Go.Ev

/-! The law's awake: its values. -/
namespace Go.Ev
set_option linter.unusedVariables false
set_option linter.unusedSimpArgs false
open Go.Ev.So Go.Proofs

def wFr : ByteArray := bts [0, 0, 0, 1, 232, 183, 190, 67, 97]
theorem wv_frame : frameV (bts [97]) = (wFr, 0) := by kernel_rfl
theorem wv_scan : scanV (wFr ++ wFr ++ bts [97, 98, 99]) = ([bts [97], bts [97]], 18) := by kernel_rfl
theorem wv_name : nameB (bts [108, 111, 103]) = true := by kernel_rfl
theorem wv_empty : scanV (bts []) = ([], 0) := by kernel_rfl
theorem wv_more : (frameV (bts [109, 111, 114, 101])).2 = 0 := by kernel_rfl
end Go.Ev
