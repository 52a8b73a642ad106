import Derived.Test.YtliiihocjdoamaaDoorZFilesExact6
import Derived.Test.YtliiihocjdoamaaDoorZFilesExact2
import Derived.Test.YtliiihocjdoamaaDoorZFilesExact3
/-! Both disks in one store; the calls on nil. -/
namespace Go.Ev
set_option linter.unusedVariables false
set_option linter.unusedSimpArgs false
open Go.Ev.So Go.Proofs

/-- The reference's disk lies at b, above s. -/
structure WQ (s : St) (n b : Nat) (R : Rsk) (t : St) : Prop where
  at_ : RAt t n b R
  gd : RGd R
  nt : n ≤ t.length
  foot : ∀ i, RFoot b R i → s.length ≤ i
  len : s.length ≤ t.length
  same : ∀ i, i < s.length → t[i]? = s[i]?
structure W3 (s : St) (n b : Nat) (D : Dsk) (n2 b2 : Nat) (R : Rsk) (t : St) : Prop where
  d : WD s n b D t
  q : WQ s n2 b2 R t
  ap : ∀ i, DFoot b D i → ¬ RFoot b2 R i
def KB3 (b : Nat) (D : Dsk) (b2 : Nat) (R : Rsk) (t : St) (i : Nat) (B : Blk) : Prop := t[i]? = some B ∧ ¬ DFoot b D i ∧ ¬ RFoot b2 R i
section
variable {s t t' : St} {n b n2 b2 : Nat} {D D' : Dsk} {R R' : Rsk} {i : Nat} {B : Blk} {A A' : Nat → Prop}
theorem RStep.wq (h : WQ s n b R t) (g : RStep n b R R' t t') (hg : RGd R') : WQ s n b R' t' ∧ Gs (RFoot b R) (RFoot b R') t t' := by
  have h1 := h.len
  have h2 := g.len
  have h3 := h.nt
  refine ⟨⟨g.at_, hg, by omega, fun i hi => ?_, by omega, fun i hi => ?_⟩, ⟨g.len, g.same, g.foot⟩⟩
  · rcases g.foot i hi with x | x
    · exact h.foot i x
    · omega
  · rw [g.same i (by omega) (fun x => by have := h.foot i x; omega)]
    exact h.same i hi
theorem RTo.wq (h : WQ s n b R t) (g : RTo n b R R' t t') : ∃ w, WQ s n b { R' with v := w } t' ∧ Gs (RFoot b R) (RFoot b { R' with v := w }) t t' := by
  obtain ⟨w, g1, g2⟩ := g
  exact ⟨w, g1.wq h g2⟩
theorem WQ.other (h : WQ s n b R t) (g : Gs A A' t t') (ha : ∀ i, RFoot b R i → ¬ A i) (hb : ∀ i, A i → s.length ≤ i) : WQ s n b R t' := by
  have h1 := h.len
  have h2 := g.len
  have h3 := h.nt
  refine ⟨h.at_.other fun i hi => g.same i (hi.lt h.at_) (ha i hi), h.gd, by omega, h.foot, by omega, fun i hi => ?_⟩
  rw [g.same i (by omega) (fun x => by have := hb i x; omega)]
  exact h.same i hi
theorem WQ.app (h : WQ s n b R t) (r : St) : WQ s n b R (t ++ r) :=
  h.other (A := fun _ => False) (A' := fun _ => False) ⟨by simp, fun i hi _ => List.getElem?_append_left hi, fun _ x => x.elim⟩ (fun _ _ x => x) (fun _ x => x.elim)
theorem W3.st1 (h : W3 s n b D n2 b2 R t) (w : WD s n b D' t') (g : Gs (DFoot b D) (DFoot b D') t t') : W3 s n b D' n2 b2 R t' :=
  ⟨w, h.q.other g (fun i hi hf => h.ap i hf hi) (fun i hi => h.d.foot i hi), fun i hi hf => by
    rcases g.foot i hi with x | x
    · exact h.ap i x hf
    · have := hf.lt h.q.at_; omega⟩
theorem W3.st2 (h : W3 s n b D n2 b2 R t) (w : WQ s n2 b2 R' t') (g : Gs (RFoot b2 R) (RFoot b2 R') t t') : W3 s n b D n2 b2 R' t' :=
  ⟨h.d.other g (fun i hi hf => h.ap i hi hf) (fun i hi => h.q.foot i hi), w, fun i hi hf => by
    rcases g.foot i hf with x | x
    · exact h.ap i hi x
    · have := hi.lt h.d.at_; omega⟩
theorem W3.app (h : W3 s n b D n2 b2 R t) (r : St) : W3 s n b D n2 b2 R (t ++ r) := ⟨h.d.app r, h.q.app r, h.ap⟩
theorem W3.ext2 (h : W3 s n b D n2 b2 R t) (x : Ext t t') : W3 s n b D n2 b2 R t' := by obtain ⟨r, rfl⟩ := x; exact h.app r
theorem KB3.st1 (k : KB3 b D b2 R t i B) (g : Gs (DFoot b D) (DFoot b D') t t') : KB3 b D' b2 R t' i B := by
  have hlt := (List.getElem?_eq_some_iff.1 k.1).1
  exact ⟨by rw [g.same i hlt k.2.1]; exact k.1, fun x => by rcases g.foot i x with y | y; exact k.2.1 y; omega, k.2.2⟩
theorem KB3.st2 (k : KB3 b D b2 R t i B) (g : Gs (RFoot b2 R) (RFoot b2 R') t t') : KB3 b D b2 R' t' i B := by
  have hlt := (List.getElem?_eq_some_iff.1 k.1).1
  exact ⟨by rw [g.same i hlt k.2.2]; exact k.1, k.2.1, fun x => by rcases g.foot i x with y | y; exact k.2.2 y; omega⟩
theorem W3.new (h : W3 s n b D n2 b2 R t) (B : Blk) : KB3 b D b2 R (t ++ [B]) t.length B :=
  ⟨get_last, fun x => by have := x.lt h.d.at_; omega, fun x => by have := x.lt h.q.at_; omega⟩
/-! ### the reference's calls -/
theorem rop_w1 (h : WQ s n b R t) (a x : ByteArray) (m : Int) (ha : a.size < 140737488355328) (hx : x.size < 140737488355328) :
    Run T f_r06_Disk_Append [.ptr b 0, .str a, .str x] t fun v t' => v = .int .i64 (routC R (ropC R 1 a x m)) ∧ ∃ w, WQ s n b { ropV R 1 a x m with v := w } t' ∧ Gs (RFoot b R) (RFoot b { ropV R 1 a x m with v := w }) t t' := by
  refine Run.mono _ _ _ _ _ ?_ (rappend_g (T := T) t n b R a x h.at_ h.gd h.nt ha hx)
  rintro v t' ⟨rfl, g⟩
  exact ⟨rfl, RTo.wq h (R' := ropV R 1 a x m) g⟩
theorem rop_w2 (h : WQ s n b R t) (a x : ByteArray) (m : Int) (ha : a.size < 140737488355328) :
    Run T f_r06_Disk_Sync [.ptr b 0, .str a] t fun v t' => v = .int .i64 (routC R (ropC R 2 a x m)) ∧ ∃ w, WQ s n b { ropV R 2 a x m with v := w } t' ∧ Gs (RFoot b R) (RFoot b { ropV R 2 a x m with v := w }) t t' := by
  refine Run.mono _ _ _ _ _ ?_ (rsync_g (T := T) t n b R a h.at_ h.gd ha)
  rintro v t' ⟨rfl, g⟩
  exact ⟨rfl, RTo.wq h (R' := ropV R 2 a x m) g⟩
theorem rop_w3 (h : WQ s n b R t) (a x : ByteArray) (m : Int) (ha : a.size < 140737488355328) :
    Run T f_r06_Disk_Cut [.ptr b 0, .str a, .int .i64 m] t fun v t' => v = .int .i64 (routC R (ropC R 3 a x m)) ∧ ∃ w, WQ s n b { ropV R 3 a x m with v := w } t' ∧ Gs (RFoot b R) (RFoot b { ropV R 3 a x m with v := w }) t t' := by
  refine Run.mono _ _ _ _ _ ?_ (rcut_g (T := T) t n b R a m h.at_ h.gd ha)
  rintro v t' ⟨rfl, g⟩
  exact ⟨rfl, RTo.wq h (R' := ropV R 3 a x m) g⟩
theorem rop_w4 (h : WQ s n b R t) (a x : ByteArray) (m : Int) (ha : a.size < 140737488355328) (hx : x.size < 140737488355328) :
    Run T f_r06_Disk_Rename [.ptr b 0, .str a, .str x] t fun v t' => v = .int .i64 (routC R (ropC R 4 a x m)) ∧ ∃ w, WQ s n b { ropV R 4 a x m with v := w } t' ∧ Gs (RFoot b R) (RFoot b { ropV R 4 a x m with v := w }) t t' := by
  refine Run.mono _ _ _ _ _ ?_ (rren_g t n b R a x h.at_ h.gd h.nt ha hx)
  rintro v t' ⟨rfl, g⟩
  exact ⟨rfl, RTo.wq h (R' := ropV R 4 a x m) g⟩
theorem rop_w5 (h : WQ s n b R t) (a x : ByteArray) (m : Int) (ha : a.size < 140737488355328) :
    Run T f_r06_Disk_Delete [.ptr b 0, .str a] t fun v t' => v = .int .i64 (routC R (ropC R 5 a x m)) ∧ ∃ w, WQ s n b { ropV R 5 a x m with v := w } t' ∧ Gs (RFoot b R) (RFoot b { ropV R 5 a x m with v := w }) t t' := by
  refine Run.mono _ _ _ _ _ ?_ (rdel_g t n b R a h.at_ h.gd h.nt ha)
  rintro v t' ⟨rfl, g⟩
  exact ⟨rfl, RTo.wq h (R' := ropV R 5 a x m) g⟩
theorem roff_w (h : WQ s n b R t) (keep : Int) : Run T f_r06_Disk_Off [.ptr b 0, .int .i64 keep] t fun v t' => v = .tup [] ∧ WQ s n b (roff R keep) t' ∧ Gs (RFoot b R) (RFoot b (roff R keep)) t t' := by
  refine Run.mono _ _ _ _ _ ?_ (roff_g (T := T) t n b R keep h.at_ h.gd.ok)
  rintro v t' ⟨rfl, g⟩
  exact ⟨rfl, g.wq h (by unfold roff; split; exact h.gd; exact gone_gd h.gd keep)⟩
theorem ron_w (h : WQ s n b R t) : Run T f_r06_Disk_On [.ptr b 0] t fun v t' => v = .tup [] ∧ WQ s n b (ron R) t' ∧ Gs (RFoot b R) (RFoot b (ron R)) t t' := by
  refine Run.mono _ _ _ _ _ ?_ (ron_g (T := T) t n b R h.at_)
  rintro v t' ⟨rfl, g⟩
  exact ⟨rfl, g.wq h (h.gd.same rfl)⟩
theorem rarm_w (h : WQ s n b R t) (k keep : Int) : Run T f_r06_Disk_Arm [.ptr b 0, .int .i64 k, .int .i64 keep] t fun v t' => v = .tup [] ∧ WQ s n b (rarm R k keep) t' ∧ Gs (RFoot b R) (RFoot b (rarm R k keep)) t t' := by
  refine Run.mono _ _ _ _ _ ?_ (rarm_g (T := T) t n b R k keep h.at_)
  rintro v t' ⟨rfl, g⟩
  exact ⟨rfl, g.wq h (h.gd.same (by unfold rarm; split <;> rfl))⟩
theorem WQ.few (h : WQ s n b R t) : R.l.length < 1000000 := Nat.lt_of_le_of_lt h.gd.ok.2 (by decide)
end
/-! ### on nil -/
section
variable (t : St)
theorem pfindnil (a : AV) (ha : a.cell = true) : RunD T f_files_Disk_find [.nilp, a] t (.tup [.nilp, .int .i64 2]) t := by
  refine run_body (F := r_files_Disk_find) (has rfl) (by simp [r_files_Disk_find]) ?_
  have hf : fillA [AV.str (bts [])] [(0, 1, a)] = some [a] := by simp [fillA, ha]
  simp only [r_files_Disk_find, XX, CC, YY, Nat.reduceAdd, Nat.reduceSub, Nat.reduceLeDiff, Nat.reduceLT, Nat.reduceEqDiff, reduceIte, ↓reduceIte, Nat.reduceBEq, hf]
  refine (checknil_r (T := T) _ _).use ?_
  simp only [XX, CC, YY, Nat.reduceAdd, Nat.reduceSub, Nat.reduceLeDiff, Nat.reduceLT, Nat.reduceEqDiff, reduceIte, ↓reduceIte, Nat.reduceBEq, show ((2 : Int) == 0) = false from rfl, Bool.not_false]
  exact ret_drop ⟨_, rfl⟩ rfl ⟨rfl, rfl⟩
theorem preadnil (a : ByteArray) : RunD T f_files_Disk_Read [.nilp, .str a] t (.tup [.str (bts []), .int .i64 2]) t := by
  refine run_body (F := r_files_Disk_Read) (has rfl) (by simp [r_files_Disk_Read]) ?_
  simp only [r_files_Disk_Read, XX, CC, YY, Nat.reduceAdd, Nat.reduceSub, Nat.reduceLeDiff, Nat.reduceLT, Nat.reduceEqDiff, reduceIte, ↓reduceIte, Nat.reduceBEq]
  refine (pfindnil t (.str a) rfl).use ?_
  simp only [XX, CC, YY, Nat.reduceAdd, Nat.reduceSub, Nat.reduceLeDiff, Nat.reduceLT, Nat.reduceEqDiff, reduceIte, ↓reduceIte, Nat.reduceBEq, show ((2 : Int) == 0) = false from rfl, Bool.not_false]
  exact .inl ⟨rfl, rfl⟩
theorem pappnil (a x : ByteArray) : RunD T f_files_Disk_Append [.nilp, .str a, .str x] t (.int .i64 2) t := by
  refine run_body (F := r_files_Disk_Append) (has rfl) (by simp [r_files_Disk_Append]) ?_
  simp only [r_files_Disk_Append, XX, CC, YY, Nat.reduceAdd, Nat.reduceSub, Nat.reduceLeDiff, Nat.reduceLT, Nat.reduceEqDiff, reduceIte, ↓reduceIte, Nat.reduceBEq]
  refine (pfindnil t (.str a) rfl).use ?_
  simp only [XX, CC, YY, Nat.reduceAdd, Nat.reduceSub, Nat.reduceLeDiff, Nat.reduceLT, Nat.reduceEqDiff, reduceIte, ↓reduceIte, Nat.reduceBEq, show ((2 : Int) == 0) = false from rfl, show ((2 : Int) == 62) = false from rfl, Bool.not_false, gv_tt]
  exact .inl ⟨rfl, rfl⟩
theorem psynnil (a : ByteArray) : RunD T f_files_Disk_Sync [.nilp, .str a] t (.int .i64 2) t := by
  refine run_body (F := r_files_Disk_Sync) (has rfl) (by simp [r_files_Disk_Sync]) ?_
  simp only [r_files_Disk_Sync, XX, CC, YY, Nat.reduceAdd, Nat.reduceSub, Nat.reduceLeDiff, Nat.reduceLT, Nat.reduceEqDiff, reduceIte, ↓reduceIte, Nat.reduceBEq]
  refine (pfindnil t (.str a) rfl).use ?_
  simp only [XX, CC, YY, Nat.reduceAdd, Nat.reduceSub, Nat.reduceLeDiff, Nat.reduceLT, Nat.reduceEqDiff, reduceIte, ↓reduceIte, Nat.reduceBEq, show ((2 : Int) == 0) = false from rfl, Bool.not_false]
  exact .inl ⟨rfl, rfl⟩
theorem pcutnil (a : ByteArray) (m : Int) : RunD T f_files_Disk_Cut [.nilp, .str a, .int .i64 m] t (.int .i64 2) t := by
  refine run_body (F := r_files_Disk_Cut) (has rfl) (by simp [r_files_Disk_Cut]) ?_
  simp only [r_files_Disk_Cut, XX, CC, YY, Nat.reduceAdd, Nat.reduceSub, Nat.reduceLeDiff, Nat.reduceLT, Nat.reduceEqDiff, reduceIte, ↓reduceIte, Nat.reduceBEq]
  refine (pfindnil t (.str a) rfl).use ?_
  simp only [XX, CC, YY, Nat.reduceAdd, Nat.reduceSub, Nat.reduceLeDiff, Nat.reduceLT, Nat.reduceEqDiff, reduceIte, ↓reduceIte, Nat.reduceBEq, show ((2 : Int) == 0) = false from rfl, Bool.not_false]
  exact .inl ⟨rfl, rfl⟩
theorem pdelnil (a : ByteArray) : RunD T f_files_Disk_Delete [.nilp, .str a] t (.int .i64 2) t := by
  refine run_body (F := r_files_Disk_Delete) (has rfl) (by simp [r_files_Disk_Delete]) ?_
  simp only [r_files_Disk_Delete, XX, CC, YY, Nat.reduceAdd, Nat.reduceSub, Nat.reduceLeDiff, Nat.reduceLT, Nat.reduceEqDiff, reduceIte, ↓reduceIte, Nat.reduceBEq]
  refine (pfindnil t (.str a) rfl).use ?_
  simp only [XX, CC, YY, Nat.reduceAdd, Nat.reduceSub, Nat.reduceLeDiff, Nat.reduceLT, Nat.reduceEqDiff, reduceIte, ↓reduceIte, Nat.reduceBEq, show ((2 : Int) == 0) = false from rfl, Bool.not_false]
  exact .inl ⟨rfl, rfl⟩
theorem prennil (a c : ByteArray) : RunD T f_files_Disk_Rename [.nilp, .str a, .str c] t (.int .i64 2) t := by
  refine run_body (F := r_files_Disk_Rename) (has rfl) (by simp [r_files_Disk_Rename]) ?_
  have hf : fillA (List.replicate 2 [AV.str (bts [])]).flatten [(0, 1, .str a), (1, 1, .str c)] = some [.str a, .str c] := rfl
  simp only [r_files_Disk_Rename, XX, CC, YY, Nat.reduceAdd, Nat.reduceSub, Nat.reduceLeDiff, Nat.reduceLT, Nat.reduceEqDiff, reduceIte, ↓reduceIte, Nat.reduceBEq, hf]
  refine (checknil_r (T := T) _ _).use ?_
  simp only [XX, CC, YY, Nat.reduceAdd, Nat.reduceSub, Nat.reduceLeDiff, Nat.reduceLT, Nat.reduceEqDiff, reduceIte, ↓reduceIte, Nat.reduceBEq, show ((2 : Int) == 0) = false from rfl, Bool.not_false]
  exact ret_drop ⟨_, rfl⟩ rfl ⟨rfl, rfl⟩
theorem parmnil (j keep : Int) : RunD T f_files_Disk_Arm [.nilp, .int .i64 j, .int .i64 keep] t (.tup []) t := by
  refine run_body (F := r_files_Disk_Arm) (has rfl) (by simp [r_files_Disk_Arm]) ?_
  simp only [r_files_Disk_Arm, XX, CC, YY, Nat.reduceAdd, Nat.reduceSub, Nat.reduceLeDiff, Nat.reduceLT, Nat.reduceEqDiff, reduceIte, ↓reduceIte, Nat.reduceBEq, eqp_t, Bool.not_true, gv_tf, gv_ft, gv_ff, gv_u]
  exact .inl ⟨rfl, rfl⟩
theorem poffnil (keep : Int) : RunD T f_files_Disk_Off [.nilp, .int .i64 keep] t (.tup []) t := by
  refine run_body (F := r_files_Disk_Off) (has rfl) (by simp [r_files_Disk_Off]) ?_
  simp only [r_files_Disk_Off, XX, CC, YY, Nat.reduceAdd, Nat.reduceSub, Nat.reduceLeDiff, Nat.reduceLT, Nat.reduceEqDiff, reduceIte, ↓reduceIte, Nat.reduceBEq, eqp_t, Bool.not_true, gv_tf, gv_ft, gv_ff, gv_u]
  exact .inl ⟨rfl, rfl⟩
theorem ponnil : RunD T f_files_Disk_On [.nilp] t (.tup []) t := by
  refine run_body (F := r_files_Disk_On) (has rfl) (by simp [r_files_Disk_On]) ?_
  simp only [r_files_Disk_On, XX, CC, YY, Nat.reduceAdd, Nat.reduceSub, Nat.reduceLeDiff, Nat.reduceLT, Nat.reduceEqDiff, reduceIte, ↓reduceIte, Nat.reduceBEq, eqp_t, Bool.not_true, gv_tf, gv_ft, gv_ff, gv_u]
  exact .inl ⟨rfl, rfl⟩
theorem pdownnil : RunD T f_files_Disk_Down [.nilp] t (.bool false) t := by
  refine run_body (F := r_files_Disk_Down) (has rfl) (by simp [r_files_Disk_Down]) ?_
  simp only [r_files_Disk_Down, XX, CC, YY, Nat.reduceAdd, Nat.reduceSub, Nat.reduceLeDiff, Nat.reduceLT, Nat.reduceEqDiff, reduceIte, ↓reduceIte, Nat.reduceBEq, eqp_t, Bool.not_true, gv_tf, gv_ft, gv_ff, gv_u]
  exact .inl ⟨rfl, rfl⟩
theorem pstepsnil : RunD T f_files_Disk_Steps [.nilp] t (.int .i64 0) t := by
  refine run_body (F := r_files_Disk_Steps) (has rfl) (by simp [r_files_Disk_Steps]) ?_
  simp only [r_files_Disk_Steps, XX, CC, YY, Nat.reduceAdd, Nat.reduceSub, Nat.reduceLeDiff, Nat.reduceLT, Nat.reduceEqDiff, reduceIte, ↓reduceIte, Nat.reduceBEq, eqp_t]
  exact .inl ⟨rfl, rfl⟩
theorem qchecknil (v : AV) : RunD T f_r06_Disk_check [.nilp, v] t (.int .i64 2) t := by
  refine run_body (F := r_r06_Disk_check) (has rfl) (by simp [r_r06_Disk_check]) ?_
  simp only [r_r06_Disk_check, XX, CC, YY, Nat.reduceAdd, Nat.reduceSub, Nat.reduceLeDiff, Nat.reduceLT, Nat.reduceEqDiff, reduceIte, ↓reduceIte, Nat.reduceBEq, eqp_t]
  exact .inl ⟨rfl, rfl⟩
theorem qreadnil (a : ByteArray) : RunD T f_r06_Disk_Read [.nilp, .str a] t (.tup [.str (bts []), .int .i64 2]) t := by
  refine run_body (F := r_r06_Disk_Read) (has rfl) (by simp [r_r06_Disk_Read]) ?_
  simp only [r_r06_Disk_Read, XX, CC, YY, Nat.reduceAdd, Nat.reduceSub, Nat.reduceLeDiff, Nat.reduceLT, Nat.reduceEqDiff, reduceIte, ↓reduceIte, Nat.reduceBEq]
  refine (qchecknil t _).use ?_
  simp only [XX, CC, YY, Nat.reduceAdd, Nat.reduceSub, Nat.reduceLeDiff, Nat.reduceLT, Nat.reduceEqDiff, reduceIte, ↓reduceIte, Nat.reduceBEq, show ((2 : Int) == 0) = false from rfl, Bool.not_false]
  exact .inl ⟨rfl, rfl⟩
theorem qappnil (a x : ByteArray) : RunD T f_r06_Disk_Append [.nilp, .str a, .str x] t (.int .i64 2) t := by
  refine run_body (F := r_r06_Disk_Append) (has rfl) (by simp [r_r06_Disk_Append]) ?_
  simp only [r_r06_Disk_Append, XX, CC, YY, Nat.reduceAdd, Nat.reduceSub, Nat.reduceLeDiff, Nat.reduceLT, Nat.reduceEqDiff, reduceIte, ↓reduceIte, Nat.reduceBEq]
  refine (qchecknil t _).use ?_
  simp only [XX, CC, YY, Nat.reduceAdd, Nat.reduceSub, Nat.reduceLeDiff, Nat.reduceLT, Nat.reduceEqDiff, reduceIte, ↓reduceIte, Nat.reduceBEq, show ((2 : Int) == 0) = false from rfl, Bool.not_false]
  exact .inl ⟨rfl, rfl⟩
theorem qsynnil (a : ByteArray) : RunD T f_r06_Disk_Sync [.nilp, .str a] t (.int .i64 2) t := by
  refine run_body (F := r_r06_Disk_Sync) (has rfl) (by simp [r_r06_Disk_Sync]) ?_
  simp only [r_r06_Disk_Sync, XX, CC, YY, Nat.reduceAdd, Nat.reduceSub, Nat.reduceLeDiff, Nat.reduceLT, Nat.reduceEqDiff, reduceIte, ↓reduceIte, Nat.reduceBEq]
  refine (qchecknil t _).use ?_
  simp only [XX, CC, YY, Nat.reduceAdd, Nat.reduceSub, Nat.reduceLeDiff, Nat.reduceLT, Nat.reduceEqDiff, reduceIte, ↓reduceIte, Nat.reduceBEq, show ((2 : Int) == 0) = false from rfl, Bool.not_false]
  exact .inl ⟨rfl, rfl⟩
theorem qcutnil (a : ByteArray) (m : Int) : RunD T f_r06_Disk_Cut [.nilp, .str a, .int .i64 m] t (.int .i64 2) t := by
  refine run_body (F := r_r06_Disk_Cut) (has rfl) (by simp [r_r06_Disk_Cut]) ?_
  simp only [r_r06_Disk_Cut, XX, CC, YY, Nat.reduceAdd, Nat.reduceSub, Nat.reduceLeDiff, Nat.reduceLT, Nat.reduceEqDiff, reduceIte, ↓reduceIte, Nat.reduceBEq]
  refine (qchecknil t _).use ?_
  simp only [XX, CC, YY, Nat.reduceAdd, Nat.reduceSub, Nat.reduceLeDiff, Nat.reduceLT, Nat.reduceEqDiff, reduceIte, ↓reduceIte, Nat.reduceBEq, show ((2 : Int) == 0) = false from rfl, Bool.not_false]
  exact .inl ⟨rfl, rfl⟩
theorem qrennil (a c : ByteArray) : RunD T f_r06_Disk_Rename [.nilp, .str a, .str c] t (.int .i64 2) t := by
  refine run_body (F := r_r06_Disk_Rename) (has rfl) (by simp [r_r06_Disk_Rename]) ?_
  simp only [r_r06_Disk_Rename, XX, CC, YY, Nat.reduceAdd, Nat.reduceSub, Nat.reduceLeDiff, Nat.reduceLT, Nat.reduceEqDiff, reduceIte, ↓reduceIte, Nat.reduceBEq]
  refine (qchecknil t _).use ?_
  simp only [XX, CC, YY, Nat.reduceAdd, Nat.reduceSub, Nat.reduceLeDiff, Nat.reduceLT, Nat.reduceEqDiff, reduceIte, ↓reduceIte, Nat.reduceBEq, show ((2 : Int) == 0) = false from rfl, Bool.not_false]
  exact .inl ⟨rfl, rfl⟩
theorem qdelnil (a : ByteArray) : RunD T f_r06_Disk_Delete [.nilp, .str a] t (.int .i64 2) t := by
  refine run_body (F := r_r06_Disk_Delete) (has rfl) (by simp [r_r06_Disk_Delete]) ?_
  simp only [r_r06_Disk_Delete, XX, CC, YY, Nat.reduceAdd, Nat.reduceSub, Nat.reduceLeDiff, Nat.reduceLT, Nat.reduceEqDiff, reduceIte, ↓reduceIte, Nat.reduceBEq]
  refine (qchecknil t _).use ?_
  simp only [XX, CC, YY, Nat.reduceAdd, Nat.reduceSub, Nat.reduceLeDiff, Nat.reduceLT, Nat.reduceEqDiff, reduceIte, ↓reduceIte, Nat.reduceBEq, show ((2 : Int) == 0) = false from rfl, Bool.not_false]
  exact .inl ⟨rfl, rfl⟩
theorem qarmnil (j keep : Int) : RunD T f_r06_Disk_Arm [.nilp, .int .i64 j, .int .i64 keep] t (.tup []) t := by
  refine run_body (F := r_r06_Disk_Arm) (has rfl) (by simp [r_r06_Disk_Arm]) ?_
  simp only [r_r06_Disk_Arm, XX, CC, YY, Nat.reduceAdd, Nat.reduceSub, Nat.reduceLeDiff, Nat.reduceLT, Nat.reduceEqDiff, reduceIte, ↓reduceIte, Nat.reduceBEq, eqp_t, gv_tf, gv_ft, gv_ff, gv_u]
  exact .inl ⟨rfl, rfl⟩
theorem qoffnil (keep : Int) : RunD T f_r06_Disk_Off [.nilp, .int .i64 keep] t (.tup []) t := by
  refine run_body (F := r_r06_Disk_Off) (has rfl) (by simp [r_r06_Disk_Off]) ?_
  simp only [r_r06_Disk_Off, XX, CC, YY, Nat.reduceAdd, Nat.reduceSub, Nat.reduceLeDiff, Nat.reduceLT, Nat.reduceEqDiff, reduceIte, ↓reduceIte, Nat.reduceBEq, eqp_t, Bool.not_true, gv_tf, gv_ft, gv_ff, gv_u]
  exact .inl ⟨rfl, rfl⟩
theorem qonnil : RunD T f_r06_Disk_On [.nilp] t (.tup []) t := by
  refine run_body (F := r_r06_Disk_On) (has rfl) (by simp [r_r06_Disk_On]) ?_
  simp only [r_r06_Disk_On, XX, CC, YY, Nat.reduceAdd, Nat.reduceSub, Nat.reduceLeDiff, Nat.reduceLT, Nat.reduceEqDiff, reduceIte, ↓reduceIte, Nat.reduceBEq, eqp_t, Bool.not_true, gv_tf, gv_ft, gv_ff, gv_u]
  exact .inl ⟨rfl, rfl⟩
theorem qdownnil : RunD T f_r06_Disk_Down [.nilp] t (.bool false) t := by
  refine run_body (F := r_r06_Disk_Down) (has rfl) (by simp [r_r06_Disk_Down]) ?_
  simp only [r_r06_Disk_Down, XX, CC, YY, Nat.reduceAdd, Nat.reduceSub, Nat.reduceLeDiff, Nat.reduceLT, Nat.reduceEqDiff, reduceIte, ↓reduceIte, Nat.reduceBEq, eqp_t, Bool.not_true, gv_tf, gv_ft, gv_ff, gv_u]
  exact .inl ⟨rfl, rfl⟩
theorem qstepsnil : RunD T f_r06_Disk_Steps [.nilp] t (.int .i64 0) t := by
  refine run_body (F := r_r06_Disk_Steps) (has rfl) (by simp [r_r06_Disk_Steps]) ?_
  simp only [r_r06_Disk_Steps, XX, CC, YY, Nat.reduceAdd, Nat.reduceSub, Nat.reduceLeDiff, Nat.reduceLT, Nat.reduceEqDiff, reduceIte, ↓reduceIte, Nat.reduceBEq, eqp_t]
  exact .inl ⟨rfl, rfl⟩
theorem qnamesnil : RunD T f_r06_Disk_Names [.nilp] t (.sl t.length 0 1 0 (some 0)) (t ++ [.cells true []]) := by
  refine run_body (F := r_r06_Disk_Names) (has rfl) (by simp [r_r06_Disk_Names]) ?_
  simp only [r_r06_Disk_Names, XX, CC, YY, Nat.reduceAdd, Nat.reduceSub, Nat.reduceLeDiff, Nat.reduceLT, Nat.reduceEqDiff, reduceIte, ↓reduceIte, Nat.reduceBEq]
  refine awp_rounds (fun d e t1 => t1 = t ++ [.cells true []] ∧ e.get 0 = .nilp ∧ e.get 3 = .sl t.length 0 1 0 (some 0)) 0 ?_ ?_
  · refine ⟨rfl, ?_, ?_⟩ <;> (try simp only [XX, CC, YY, Nat.reduceAdd, Nat.reduceSub, Nat.reduceLeDiff, Nat.reduceLT, Nat.reduceEqDiff, reduceIte, ↓reduceIte, Nat.reduceBEq]) <;> rfl
  rintro J d e t1 hJ ⟨rfl, g0, g3⟩
  simp only [XX, CC, YY, Nat.reduceAdd, Nat.reduceSub, Nat.reduceLeDiff, Nat.reduceLT, Nat.reduceEqDiff, reduceIte, ↓reduceIte, Nat.reduceBEq, g0, g3, eqp_t, Bool.not_true, gv_tf, gv_ft, gv_ff, gv_u]
  exact .inl ⟨rfl, rfl⟩
end
/-- A call in a region of no order, beside no load. -/
theorem dr_callf {T : Nat → Option RF} {n0 i : Nat} {d : Option Nat} {f : Nat} {xs_ : List AV} {H : List (Nat × St × St)} {L : List (Nat × Nat)} {e : Env} {s : St} {next : DrK} {k : AV → St → Prop} (h : Run T f xs_ s k)
    (hn : ∀ v t, k v t → next ((i, s, t) :: H) L (putO e d v) t) : drCall T n0 d f xs_ [] [] i H L e s next := by
  obtain ⟨v, t, hk, hr⟩ := h.det
  exact ⟨v, t, hr, fun j hj => by simp at hj, fun a ha => by simp at ha, hn v t hk⟩
end Go.Ev

/-! FilesExact: one call on both disks. -/
namespace Go.Ev
set_option linter.unusedVariables false
set_option linter.unusedSimpArgs false
open Go.Ev.So Go.Proofs

theorem ldOk_one {cl : List Nat} {i b : Nat} {p q : St} (h : p[b]? = q[b]?) : ldOk cl [(i, p, q)] b := by
  intro x hx p1 p2 hm
  simp only [List.mem_singleton, Prod.mk.injEq] at hm
  obtain ⟨_, rfl, rfl⟩ := hm
  exact h
section
variable {s t : St} {n b n2 b2 : Nat} {D : Dsk} {R : Rsk}
theorem ee (x : Int) : (x == x) = true := by simp
set_option maxHeartbeats 8000000 in
theorem right_r (h : W3 s n b D n2 b2 R t) (pr : PR D R) (asc : Asc R.l) (q : FOp) (hq : FOQ q) :
    Run T f_w06_right [.ptr b 0, .ptr b2 0, .agg (cFO q)] t fun v t' => v = .bool true ∧ ∃ D' R', W3 s n b D' n2 b2 R' t' ∧ PR D' R' ∧ Asc R'.l := by
  refine run_body (F := r_w06_right) (has rfl) (by simp [r_w06_right]) ?_
  obtain ⟨hn, hd, hnr⟩ := hq
  have hb0 : boxA (some 6) (.agg (cFO q)) = some (cFO q) := rfl
  have w := h.app [.cells true (cFO q)]
  have kb := h.new (.cells true (cFO q))
  have hl16 := h.q.few
  obtain ⟨l0, _, l2, l3, l4, l5, _⟩ := ld_fo kb.1
  have f : ∀ x y : Int, ¬ x = y → (x == y) = false := fun x y hx => by simp [hx]
  have z : ∀ x y : Int, x = y → (x == y) = true := fun x y hx => by simp [hx]
  simp only [r_w06_right, XX, CC, YY, Nat.reduceAdd, Nat.reduceSub, Nat.reduceLeDiff, Nat.reduceLT, Nat.reduceEqDiff, reduceIte, ↓reduceIte, Nat.reduceBEq, hb0, fo0, fo2, fo3, fo4, fo5, l0]
  generalize hob : t.length = ob at *
  generalize t ++ [Blk.cells true (cFO q)] = t1 at *
  clear h hob
  have m1 : q.kind = 1 ∨ ¬ q.kind = 1 := Classical.em _
  rcases m1 with m1 | m1
  · simp only [XX, CC, YY, Nat.reduceAdd, Nat.reduceSub, Nat.reduceLeDiff, Nat.reduceLT, Nat.reduceEqDiff, reduceIte, ↓reduceIte, Nat.reduceBEq, z _ _ m1]
    refine drw_in [] rfl ?_
    simp only [List.append_nil, DD, CC, YY, Nat.reduceAdd, Nat.reduceSub, Nat.reduceLeDiff, Nat.reduceLT, Nat.reduceEqDiff, reduceIte, ↓reduceIte, Nat.reduceBEq, l2, l3]
    refine dr_callf (op_w1 w.d q.name q.data hn hd) ?_
    rintro v t2 ⟨rfl, wd, gs⟩
    have w2 := w.st1 wd gs
    have kb2 := kb.st1 gs
    obtain ⟨_, _, m2, m3, m4, _, _⟩ := ld_fo kb2.1
    have hlk : t1[ob]? = t2[ob]? := by rw [kb.1, kb2.1]
    simp only [DD, CC, YY, Nat.reduceAdd, Nat.reduceSub, Nat.reduceLeDiff, Nat.reduceLT, Nat.reduceEqDiff, reduceIte, ↓reduceIte, Nat.reduceBEq, m2, m3]
    refine ⟨ldOk_one hlk, ldOk_one hlk, ?_⟩
    refine dr_callf (rop_w1 w2.q q.name q.data 0 hn hd) ?_
    rintro v t3 ⟨rfl, w0, wq, gs2⟩
    obtain ⟨c1, c2⟩ := pr.op 1 q.name q.data 0 t1.length
    rw [c1]
    simp only [DD, CC, YY, Nat.reduceAdd, Nat.reduceSub, Nat.reduceLeDiff, Nat.reduceLT, Nat.reduceEqDiff, reduceIte, ↓reduceIte, Nat.reduceBEq, ee]
    exact .inl ⟨rfl, _, _, w2.st2 wq gs2, c2.v w0, asc.op 1 q.name q.data 0⟩
  have m2 : q.kind = 2 ∨ ¬ q.kind = 2 := Classical.em _
  rcases m2 with m2 | m2
  · simp only [XX, CC, YY, Nat.reduceAdd, Nat.reduceSub, Nat.reduceLeDiff, Nat.reduceLT, Nat.reduceEqDiff, reduceIte, ↓reduceIte, Nat.reduceBEq, f _ _ m1, z _ _ m2]
    refine drw_in [] rfl ?_
    simp only [List.append_nil, DD, CC, YY, Nat.reduceAdd, Nat.reduceSub, Nat.reduceLeDiff, Nat.reduceLT, Nat.reduceEqDiff, reduceIte, ↓reduceIte, Nat.reduceBEq, l2]
    refine dr_callf (op_w2 w.d q.name q.data 0 0 hn) ?_
    rintro v t2 ⟨rfl, wd, gs⟩
    have w2 := w.st1 wd gs
    have kb2 := kb.st1 gs
    obtain ⟨_, _, m2, m3, m4, _, _⟩ := ld_fo kb2.1
    have hlk : t1[ob]? = t2[ob]? := by rw [kb.1, kb2.1]
    simp only [DD, CC, YY, Nat.reduceAdd, Nat.reduceSub, Nat.reduceLeDiff, Nat.reduceLT, Nat.reduceEqDiff, reduceIte, ↓reduceIte, Nat.reduceBEq, m2]
    refine ⟨ldOk_one hlk, ?_⟩
    refine dr_callf (rop_w2 w2.q q.name q.data 0 hn) ?_
    rintro v t3 ⟨rfl, w0, wq, gs2⟩
    obtain ⟨c1, c2⟩ := pr.op 2 q.name q.data 0 0
    rw [c1]
    simp only [DD, CC, YY, Nat.reduceAdd, Nat.reduceSub, Nat.reduceLeDiff, Nat.reduceLT, Nat.reduceEqDiff, reduceIte, ↓reduceIte, Nat.reduceBEq, ee]
    exact .inl ⟨rfl, _, _, w2.st2 wq gs2, c2.v w0, asc.op 2 q.name q.data 0⟩
  have m3 : q.kind = 3 ∨ ¬ q.kind = 3 := Classical.em _
  rcases m3 with m3 | m3
  · simp only [XX, CC, YY, Nat.reduceAdd, Nat.reduceSub, Nat.reduceLeDiff, Nat.reduceLT, Nat.reduceEqDiff, reduceIte, ↓reduceIte, Nat.reduceBEq, f _ _ m1, f _ _ m2, z _ _ m3]
    refine drw_in [] rfl ?_
    simp only [List.append_nil, DD, CC, YY, Nat.reduceAdd, Nat.reduceSub, Nat.reduceLeDiff, Nat.reduceLT, Nat.reduceEqDiff, reduceIte, ↓reduceIte, Nat.reduceBEq, l2, l4]
    refine dr_callf (op_w3 w.d q.name q.data q.n 0 hn) ?_
    rintro v t2 ⟨rfl, wd, gs⟩
    have w2 := w.st1 wd gs
    have kb2 := kb.st1 gs
    obtain ⟨_, _, m2, m3, m4, _, _⟩ := ld_fo kb2.1
    have hlk : t1[ob]? = t2[ob]? := by rw [kb.1, kb2.1]
    simp only [DD, CC, YY, Nat.reduceAdd, Nat.reduceSub, Nat.reduceLeDiff, Nat.reduceLT, Nat.reduceEqDiff, reduceIte, ↓reduceIte, Nat.reduceBEq, m2, m4]
    refine ⟨ldOk_one hlk, ldOk_one hlk, ?_⟩
    refine dr_callf (rop_w3 w2.q q.name q.data q.n hn) ?_
    rintro v t3 ⟨rfl, w0, wq, gs2⟩
    obtain ⟨c1, c2⟩ := pr.op 3 q.name q.data q.n 0
    rw [c1]
    simp only [DD, CC, YY, Nat.reduceAdd, Nat.reduceSub, Nat.reduceLeDiff, Nat.reduceLT, Nat.reduceEqDiff, reduceIte, ↓reduceIte, Nat.reduceBEq, ee]
    exact .inl ⟨rfl, _, _, w2.st2 wq gs2, c2.v w0, asc.op 3 q.name q.data q.n⟩
  have m4 : q.kind = 4 ∨ ¬ q.kind = 4 := Classical.em _
  rcases m4 with m4 | m4
  · simp only [XX, CC, YY, Nat.reduceAdd, Nat.reduceSub, Nat.reduceLeDiff, Nat.reduceLT, Nat.reduceEqDiff, reduceIte, ↓reduceIte, Nat.reduceBEq, f _ _ m1, f _ _ m2, f _ _ m3, z _ _ m4]
    refine drw_in [] rfl ?_
    simp only [List.append_nil, DD, CC, YY, Nat.reduceAdd, Nat.reduceSub, Nat.reduceLeDiff, Nat.reduceLT, Nat.reduceEqDiff, reduceIte, ↓reduceIte, Nat.reduceBEq, l2, l3]
    refine dr_callf (op_w4 w.d q.name q.data 0 0 hn hd) ?_
    rintro v t2 ⟨rfl, wd, gs⟩
    have w2 := w.st1 wd gs
    have kb2 := kb.st1 gs
    obtain ⟨_, _, m2, m3, m4, _, _⟩ := ld_fo kb2.1
    have hlk : t1[ob]? = t2[ob]? := by rw [kb.1, kb2.1]
    simp only [DD, CC, YY, Nat.reduceAdd, Nat.reduceSub, Nat.reduceLeDiff, Nat.reduceLT, Nat.reduceEqDiff, reduceIte, ↓reduceIte, Nat.reduceBEq, m2, m3]
    refine ⟨ldOk_one hlk, ldOk_one hlk, ?_⟩
    refine dr_callf (rop_w4 w2.q q.name q.data 0 hn hd) ?_
    rintro v t3 ⟨rfl, w0, wq, gs2⟩
    obtain ⟨c1, c2⟩ := pr.op 4 q.name q.data 0 0
    rw [c1]
    simp only [DD, CC, YY, Nat.reduceAdd, Nat.reduceSub, Nat.reduceLeDiff, Nat.reduceLT, Nat.reduceEqDiff, reduceIte, ↓reduceIte, Nat.reduceBEq, ee]
    exact .inl ⟨rfl, _, _, w2.st2 wq gs2, c2.v w0, asc.op 4 q.name q.data 0⟩
  have m5 : q.kind = 5 ∨ ¬ q.kind = 5 := Classical.em _
  rcases m5 with m5 | m5
  · simp only [XX, CC, YY, Nat.reduceAdd, Nat.reduceSub, Nat.reduceLeDiff, Nat.reduceLT, Nat.reduceEqDiff, reduceIte, ↓reduceIte, Nat.reduceBEq, f _ _ m1, f _ _ m2, f _ _ m3, f _ _ m4, z _ _ m5]
    refine drw_in [] rfl ?_
    simp only [List.append_nil, DD, CC, YY, Nat.reduceAdd, Nat.reduceSub, Nat.reduceLeDiff, Nat.reduceLT, Nat.reduceEqDiff, reduceIte, ↓reduceIte, Nat.reduceBEq, l2]
    refine dr_callf (op_w5 w.d (k := 5) (by decide) q.name q.data 0 0 hn) ?_
    rintro v t2 ⟨rfl, wd, gs⟩
    have w2 := w.st1 wd gs
    have kb2 := kb.st1 gs
    obtain ⟨_, _, m2, m3, m4, _, _⟩ := ld_fo kb2.1
    have hlk : t1[ob]? = t2[ob]? := by rw [kb.1, kb2.1]
    simp only [DD, CC, YY, Nat.reduceAdd, Nat.reduceSub, Nat.reduceLeDiff, Nat.reduceLT, Nat.reduceEqDiff, reduceIte, ↓reduceIte, Nat.reduceBEq, m2]
    refine ⟨ldOk_one hlk, ?_⟩
    refine dr_callf (rop_w5 w2.q q.name q.data 0 hn) ?_
    rintro v t3 ⟨rfl, w0, wq, gs2⟩
    obtain ⟨c1, c2⟩ := pr.op 5 q.name q.data 0 0
    rw [c1]
    simp only [DD, CC, YY, Nat.reduceAdd, Nat.reduceSub, Nat.reduceLeDiff, Nat.reduceLT, Nat.reduceEqDiff, reduceIte, ↓reduceIte, Nat.reduceBEq, ee]
    exact .inl ⟨rfl, _, _, w2.st2 wq gs2, c2.v w0, asc.op 5 q.name q.data 0⟩
  have m6 : q.kind = 6 ∨ ¬ q.kind = 6 := Classical.em _
  rcases m6 with m6 | m6
  · have q1 := eq_s (readV D q.name).1
    simp only [XX, CC, YY, Nat.reduceAdd, Nat.reduceSub, Nat.reduceLeDiff, Nat.reduceLT, Nat.reduceEqDiff, reduceIte, ↓reduceIte, Nat.reduceBEq, f _ _ m1, f _ _ m2, f _ _ m3, f _ _ m4, f _ _ m5, z _ _ m6, l2]
    refine (read_w w.d q.name hn).use ?_
    (try simp only [XX, CC, YY, Nat.reduceAdd, Nat.reduceSub, Nat.reduceLeDiff, Nat.reduceLT, Nat.reduceEqDiff, reduceIte, ↓reduceIte, Nat.reduceBEq, l2])
    refine (rread_r (T := T) t1 b2 R q.name w.q.at_.cells w.q.at_.rd hl16 hn).use ?_
    rw [pr.read]
    simp only [XX, CC, YY, Nat.reduceAdd, Nat.reduceSub, Nat.reduceLeDiff, Nat.reduceLT, Nat.reduceEqDiff, reduceIte, ↓reduceIte, Nat.reduceBEq, q1, ee]
    exact .inl ⟨rfl, D, R, w, pr, asc⟩
  have m7 : q.kind = 7 ∨ ¬ q.kind = 7 := Classical.em _
  rcases m7 with m7 | m7
  · simp only [XX, CC, YY, Nat.reduceAdd, Nat.reduceSub, Nat.reduceLeDiff, Nat.reduceLT, Nat.reduceEqDiff, reduceIte, ↓reduceIte, Nat.reduceBEq, f _ _ m1, f _ _ m2, f _ _ m3, f _ _ m4, f _ _ m5, f _ _ m6, z _ _ m7, l4, l5]
    refine Run.mono _ _ _ _ _ ?_ (arm_w w.d q.n q.keep)
    rintro v t2 ⟨rfl, wd, gs⟩
    have w2 := w.st1 wd gs
    obtain ⟨_, _, _, _, m4, m5, _⟩ := ld_fo (kb.st1 gs).1
    (try simp only [XX, CC, YY, Nat.reduceAdd, Nat.reduceSub, Nat.reduceLeDiff, Nat.reduceLT, Nat.reduceEqDiff, reduceIte, ↓reduceIte, Nat.reduceBEq, m4, m5])
    refine Run.mono _ _ _ _ _ ?_ (rarm_w w2.q q.n q.keep)
    rintro v t3 ⟨rfl, wq, gs2⟩
    (try simp only [XX, CC, YY, Nat.reduceAdd, Nat.reduceSub, Nat.reduceLeDiff, Nat.reduceLT, Nat.reduceEqDiff, reduceIte, ↓reduceIte, Nat.reduceBEq])
    exact .inl ⟨rfl, _, _, w2.st2 wq gs2, pr.arm_ _ _ hnr, by unfold rarm; split <;> exact asc⟩
  have m8 : q.kind = 8 ∨ ¬ q.kind = 8 := Classical.em _
  rcases m8 with m8 | m8
  · simp only [XX, CC, YY, Nat.reduceAdd, Nat.reduceSub, Nat.reduceLeDiff, Nat.reduceLT, Nat.reduceEqDiff, reduceIte, ↓reduceIte, Nat.reduceBEq, f _ _ m1, f _ _ m2, f _ _ m3, f _ _ m4, f _ _ m5, f _ _ m6, f _ _ m7, z _ _ m8, l5]
    refine Run.mono _ _ _ _ _ ?_ (off_w w.d q.keep)
    rintro v t2 ⟨rfl, wd, gs⟩
    have w2 := w.st1 wd gs
    obtain ⟨_, _, _, _, _, m5, _⟩ := ld_fo (kb.st1 gs).1
    (try simp only [XX, CC, YY, Nat.reduceAdd, Nat.reduceSub, Nat.reduceLeDiff, Nat.reduceLT, Nat.reduceEqDiff, reduceIte, ↓reduceIte, Nat.reduceBEq, m5])
    refine Run.mono _ _ _ _ _ ?_ (roff_w w2.q q.keep)
    rintro v t3 ⟨rfl, wq, gs2⟩
    (try simp only [XX, CC, YY, Nat.reduceAdd, Nat.reduceSub, Nat.reduceLeDiff, Nat.reduceLT, Nat.reduceEqDiff, reduceIte, ↓reduceIte, Nat.reduceBEq])
    refine .inl ⟨rfl, _, _, w2.st2 wq gs2, pr.off _, ?_⟩
    unfold roff
    split
    · exact asc
    · exact asc.gone _
  have m9 : q.kind = 9 ∨ ¬ q.kind = 9 := Classical.em _
  rcases m9 with m9 | m9
  · simp only [XX, CC, YY, Nat.reduceAdd, Nat.reduceSub, Nat.reduceLeDiff, Nat.reduceLT, Nat.reduceEqDiff, reduceIte, ↓reduceIte, Nat.reduceBEq, f _ _ m1, f _ _ m2, f _ _ m3, f _ _ m4, f _ _ m5, f _ _ m6, f _ _ m7, f _ _ m8, z _ _ m9]
    refine Run.mono _ _ _ _ _ ?_ (on_w w.d)
    rintro v t2 ⟨rfl, wd, gs⟩
    have w2 := w.st1 wd gs
    (try simp only [XX, CC, YY, Nat.reduceAdd, Nat.reduceSub, Nat.reduceLeDiff, Nat.reduceLT, Nat.reduceEqDiff, reduceIte, ↓reduceIte, Nat.reduceBEq])
    refine Run.mono _ _ _ _ _ ?_ (ron_w w2.q)
    rintro v t3 ⟨rfl, wq, gs2⟩
    (try simp only [XX, CC, YY, Nat.reduceAdd, Nat.reduceSub, Nat.reduceLeDiff, Nat.reduceLT, Nat.reduceEqDiff, reduceIte, ↓reduceIte, Nat.reduceBEq])
    exact .inl ⟨rfl, _, _, w2.st2 wq gs2, pr.on, asc⟩
  simp only [XX, CC, YY, Nat.reduceAdd, Nat.reduceSub, Nat.reduceLeDiff, Nat.reduceLT, Nat.reduceEqDiff, reduceIte, ↓reduceIte, Nat.reduceBEq, f _ _ m1, f _ _ m2, f _ _ m3, f _ _ m4, f _ _ m5, f _ _ m6, f _ _ m7, f _ _ m8, f _ _ m9]
  exact .inl ⟨rfl, D, R, w, pr, asc⟩
end
set_option maxHeartbeats 8000000 in
theorem rightnil_r (t : St) (q : FOp) : RunD T f_w06_right [.nilp, .nilp, .agg (cFO q)] t (.bool true) t := by
  refine run_body (F := r_w06_right) (has rfl) (by simp [r_w06_right]) ?_
  have hb0 : boxA (some 6) (.agg (cFO q)) = some (cFO q) := rfl
  have hx : Ext t (t ++ [.cells true (cFO q)]) := ⟨_, rfl⟩
  obtain ⟨l0, _, l2, l3, l4, l5, _⟩ := ld_fo (t := t ++ [.cells true (cFO q)]) (ob := t.length) (q := q) get_last
  have f : ∀ x y : Int, ¬ x = y → (x == y) = false := fun x y hx => by simp [hx]
  have z : ∀ x y : Int, x = y → (x == y) = true := fun x y hx => by simp [hx]
  have q2 : ((2 : Int) == 2) = true := rfl
  have q1 := eq_s (bts [])
  simp only [r_w06_right, XX, CC, YY, Nat.reduceAdd, Nat.reduceSub, Nat.reduceLeDiff, Nat.reduceLT, Nat.reduceEqDiff, reduceIte, ↓reduceIte, Nat.reduceBEq, hb0, fo0, fo2, fo3, fo4, fo5, l0]
  generalize hob : t.length = ob at *
  generalize t ++ [Blk.cells true (cFO q)] = t1 at *
  have m1 : q.kind = 1 ∨ ¬ q.kind = 1 := Classical.em _
  rcases m1 with m1 | m1
  · simp only [XX, CC, YY, Nat.reduceAdd, Nat.reduceSub, Nat.reduceLeDiff, Nat.reduceLT, Nat.reduceEqDiff, reduceIte, ↓reduceIte, Nat.reduceBEq, z _ _ m1]
    refine drw_in [] rfl ?_
    simp only [List.append_nil, DD, CC, YY, Nat.reduceAdd, Nat.reduceSub, Nat.reduceLeDiff, Nat.reduceLT, Nat.reduceEqDiff, reduceIte, ↓reduceIte, Nat.reduceBEq, l2, l3]
    refine dr_call (pappnil t1 q.name q.data) ?_
    simp only [DD, CC, YY, Nat.reduceAdd, Nat.reduceSub, Nat.reduceLeDiff, Nat.reduceLT, Nat.reduceEqDiff, reduceIte, ↓reduceIte, Nat.reduceBEq, l2, l3]
    refine dr_call (qappnil t1 q.name q.data) ?_
    simp only [DD, CC, YY, Nat.reduceAdd, Nat.reduceSub, Nat.reduceLeDiff, Nat.reduceLT, Nat.reduceEqDiff, reduceIte, ↓reduceIte, Nat.reduceBEq, q2]
    exact ret_drop hx rfl ⟨rfl, rfl⟩
  have m2 : q.kind = 2 ∨ ¬ q.kind = 2 := Classical.em _
  rcases m2 with m2 | m2
  · simp only [XX, CC, YY, Nat.reduceAdd, Nat.reduceSub, Nat.reduceLeDiff, Nat.reduceLT, Nat.reduceEqDiff, reduceIte, ↓reduceIte, Nat.reduceBEq, f _ _ m1, z _ _ m2]
    refine drw_in [] rfl ?_
    simp only [List.append_nil, DD, CC, YY, Nat.reduceAdd, Nat.reduceSub, Nat.reduceLeDiff, Nat.reduceLT, Nat.reduceEqDiff, reduceIte, ↓reduceIte, Nat.reduceBEq, l2]
    refine dr_call (psynnil t1 q.name) ?_
    simp only [DD, CC, YY, Nat.reduceAdd, Nat.reduceSub, Nat.reduceLeDiff, Nat.reduceLT, Nat.reduceEqDiff, reduceIte, ↓reduceIte, Nat.reduceBEq, l2]
    refine dr_call (qsynnil t1 q.name) ?_
    simp only [DD, CC, YY, Nat.reduceAdd, Nat.reduceSub, Nat.reduceLeDiff, Nat.reduceLT, Nat.reduceEqDiff, reduceIte, ↓reduceIte, Nat.reduceBEq, q2]
    exact ret_drop hx rfl ⟨rfl, rfl⟩
  have m3 : q.kind = 3 ∨ ¬ q.kind = 3 := Classical.em _
  rcases m3 with m3 | m3
  · simp only [XX, CC, YY, Nat.reduceAdd, Nat.reduceSub, Nat.reduceLeDiff, Nat.reduceLT, Nat.reduceEqDiff, reduceIte, ↓reduceIte, Nat.reduceBEq, f _ _ m1, f _ _ m2, z _ _ m3]
    refine drw_in [] rfl ?_
    simp only [List.append_nil, DD, CC, YY, Nat.reduceAdd, Nat.reduceSub, Nat.reduceLeDiff, Nat.reduceLT, Nat.reduceEqDiff, reduceIte, ↓reduceIte, Nat.reduceBEq, l2, l4]
    refine dr_call (pcutnil t1 q.name q.n) ?_
    simp only [DD, CC, YY, Nat.reduceAdd, Nat.reduceSub, Nat.reduceLeDiff, Nat.reduceLT, Nat.reduceEqDiff, reduceIte, ↓reduceIte, Nat.reduceBEq, l2, l4]
    refine dr_call (qcutnil t1 q.name q.n) ?_
    simp only [DD, CC, YY, Nat.reduceAdd, Nat.reduceSub, Nat.reduceLeDiff, Nat.reduceLT, Nat.reduceEqDiff, reduceIte, ↓reduceIte, Nat.reduceBEq, q2]
    exact ret_drop hx rfl ⟨rfl, rfl⟩
  have m4 : q.kind = 4 ∨ ¬ q.kind = 4 := Classical.em _
  rcases m4 with m4 | m4
  · simp only [XX, CC, YY, Nat.reduceAdd, Nat.reduceSub, Nat.reduceLeDiff, Nat.reduceLT, Nat.reduceEqDiff, reduceIte, ↓reduceIte, Nat.reduceBEq, f _ _ m1, f _ _ m2, f _ _ m3, z _ _ m4]
    refine drw_in [] rfl ?_
    simp only [List.append_nil, DD, CC, YY, Nat.reduceAdd, Nat.reduceSub, Nat.reduceLeDiff, Nat.reduceLT, Nat.reduceEqDiff, reduceIte, ↓reduceIte, Nat.reduceBEq, l2, l3]
    refine dr_call (prennil t1 q.name q.data) ?_
    simp only [DD, CC, YY, Nat.reduceAdd, Nat.reduceSub, Nat.reduceLeDiff, Nat.reduceLT, Nat.reduceEqDiff, reduceIte, ↓reduceIte, Nat.reduceBEq, l2, l3]
    refine dr_call (qrennil t1 q.name q.data) ?_
    simp only [DD, CC, YY, Nat.reduceAdd, Nat.reduceSub, Nat.reduceLeDiff, Nat.reduceLT, Nat.reduceEqDiff, reduceIte, ↓reduceIte, Nat.reduceBEq, q2]
    exact ret_drop hx rfl ⟨rfl, rfl⟩
  have m5 : q.kind = 5 ∨ ¬ q.kind = 5 := Classical.em _
  rcases m5 with m5 | m5
  · simp only [XX, CC, YY, Nat.reduceAdd, Nat.reduceSub, Nat.reduceLeDiff, Nat.reduceLT, Nat.reduceEqDiff, reduceIte, ↓reduceIte, Nat.reduceBEq, f _ _ m1, f _ _ m2, f _ _ m3, f _ _ m4, z _ _ m5]
    refine drw_in [] rfl ?_
    simp only [List.append_nil, DD, CC, YY, Nat.reduceAdd, Nat.reduceSub, Nat.reduceLeDiff, Nat.reduceLT, Nat.reduceEqDiff, reduceIte, ↓reduceIte, Nat.reduceBEq, l2]
    refine dr_call (pdelnil t1 q.name) ?_
    simp only [DD, CC, YY, Nat.reduceAdd, Nat.reduceSub, Nat.reduceLeDiff, Nat.reduceLT, Nat.reduceEqDiff, reduceIte, ↓reduceIte, Nat.reduceBEq, l2]
    refine dr_call (qdelnil t1 q.name) ?_
    simp only [DD, CC, YY, Nat.reduceAdd, Nat.reduceSub, Nat.reduceLeDiff, Nat.reduceLT, Nat.reduceEqDiff, reduceIte, ↓reduceIte, Nat.reduceBEq, q2]
    exact ret_drop hx rfl ⟨rfl, rfl⟩
  have m6 : q.kind = 6 ∨ ¬ q.kind = 6 := Classical.em _
  rcases m6 with m6 | m6
  · simp only [XX, CC, YY, Nat.reduceAdd, Nat.reduceSub, Nat.reduceLeDiff, Nat.reduceLT, Nat.reduceEqDiff, reduceIte, ↓reduceIte, Nat.reduceBEq, f _ _ m1, f _ _ m2, f _ _ m3, f _ _ m4, f _ _ m5, z _ _ m6, l2]
    refine (preadnil t1 q.name).use ?_
    (try simp only [XX, CC, YY, Nat.reduceAdd, Nat.reduceSub, Nat.reduceLeDiff, Nat.reduceLT, Nat.reduceEqDiff, reduceIte, ↓reduceIte, Nat.reduceBEq, l2])
    refine (qreadnil t1 q.name).use ?_
    simp only [XX, CC, YY, Nat.reduceAdd, Nat.reduceSub, Nat.reduceLeDiff, Nat.reduceLT, Nat.reduceEqDiff, reduceIte, ↓reduceIte, Nat.reduceBEq, q1, q2]
    exact ret_drop hx rfl ⟨rfl, rfl⟩
  have m7 : q.kind = 7 ∨ ¬ q.kind = 7 := Classical.em _
  rcases m7 with m7 | m7
  · simp only [XX, CC, YY, Nat.reduceAdd, Nat.reduceSub, Nat.reduceLeDiff, Nat.reduceLT, Nat.reduceEqDiff, reduceIte, ↓reduceIte, Nat.reduceBEq, f _ _ m1, f _ _ m2, f _ _ m3, f _ _ m4, f _ _ m5, f _ _ m6, z _ _ m7, l4, l5]
    refine (parmnil t1 q.n q.keep).use ?_
    (try simp only [XX, CC, YY, Nat.reduceAdd, Nat.reduceSub, Nat.reduceLeDiff, Nat.reduceLT, Nat.reduceEqDiff, reduceIte, ↓reduceIte, Nat.reduceBEq, l4, l5])
    refine (qarmnil t1 q.n q.keep).use ?_
    (try simp only [XX, CC, YY, Nat.reduceAdd, Nat.reduceSub, Nat.reduceLeDiff, Nat.reduceLT, Nat.reduceEqDiff, reduceIte, ↓reduceIte, Nat.reduceBEq])
    exact ret_drop hx rfl ⟨rfl, rfl⟩
  have m8 : q.kind = 8 ∨ ¬ q.kind = 8 := Classical.em _
  rcases m8 with m8 | m8
  · simp only [XX, CC, YY, Nat.reduceAdd, Nat.reduceSub, Nat.reduceLeDiff, Nat.reduceLT, Nat.reduceEqDiff, reduceIte, ↓reduceIte, Nat.reduceBEq, f _ _ m1, f _ _ m2, f _ _ m3, f _ _ m4, f _ _ m5, f _ _ m6, f _ _ m7, z _ _ m8, l5]
    refine (poffnil t1 q.keep).use ?_
    (try simp only [XX, CC, YY, Nat.reduceAdd, Nat.reduceSub, Nat.reduceLeDiff, Nat.reduceLT, Nat.reduceEqDiff, reduceIte, ↓reduceIte, Nat.reduceBEq, l5])
    refine (qoffnil t1 q.keep).use ?_
    (try simp only [XX, CC, YY, Nat.reduceAdd, Nat.reduceSub, Nat.reduceLeDiff, Nat.reduceLT, Nat.reduceEqDiff, reduceIte, ↓reduceIte, Nat.reduceBEq])
    exact ret_drop hx rfl ⟨rfl, rfl⟩
  have m9 : q.kind = 9 ∨ ¬ q.kind = 9 := Classical.em _
  rcases m9 with m9 | m9
  · simp only [XX, CC, YY, Nat.reduceAdd, Nat.reduceSub, Nat.reduceLeDiff, Nat.reduceLT, Nat.reduceEqDiff, reduceIte, ↓reduceIte, Nat.reduceBEq, f _ _ m1, f _ _ m2, f _ _ m3, f _ _ m4, f _ _ m5, f _ _ m6, f _ _ m7, f _ _ m8, z _ _ m9]
    refine (ponnil t1).use ?_
    (try simp only [XX, CC, YY, Nat.reduceAdd, Nat.reduceSub, Nat.reduceLeDiff, Nat.reduceLT, Nat.reduceEqDiff, reduceIte, ↓reduceIte, Nat.reduceBEq])
    refine (qonnil t1).use ?_
    (try simp only [XX, CC, YY, Nat.reduceAdd, Nat.reduceSub, Nat.reduceLeDiff, Nat.reduceLT, Nat.reduceEqDiff, reduceIte, ↓reduceIte, Nat.reduceBEq])
    exact ret_drop hx rfl ⟨rfl, rfl⟩
  simp only [XX, CC, YY, Nat.reduceAdd, Nat.reduceSub, Nat.reduceLeDiff, Nat.reduceLT, Nat.reduceEqDiff, reduceIte, ↓reduceIte, Nat.reduceBEq, f _ _ m1, f _ _ m2, f _ _ m3, f _ _ m4, f _ _ m5, f _ _ m6, f _ _ m7, f _ _ m8, f _ _ m9]
  exact ret_drop hx rfl ⟨rfl, rfl⟩
end Go.Ev

/-! FilesExact: its run. -/
namespace Go.Ev
set_option linter.unusedVariables false
set_option linter.unusedSimpArgs false
open Go.Ev.So Go.Proofs

noncomputable def fxL : RC := r_w06_FilesExact.body.snd.snd.snd.snd.snd.snd.fst.snd.inn.inn
noncomputable def fxB : RC := fxL.snd.fst.inn
noncomputable def fxT : RC := fxB.snd.snd.snd.snd.snd
noncomputable def fxE : RC := r_w06_FilesExact.body.snd.snd.snd.snd.snd.snd.snd
theorem ldOk_far {cl : List Nat} {i b : Nat} {p q : St} (h : i ∉ cl) : ldOk cl [(i, p, q)] b := by
  intro x hx p1 p2 hm
  simp only [List.mem_singleton, Prod.mk.injEq] at hm
  obtain ⟨rfl, _, _⟩ := hm
  exact absurd hx h
theorem eqb_same (x : Bool) : eqA .b (.bool x) (.bool x) = some true := by cases x <;> rfl
theorem beq_same (x : Bool) : (x == x) = true := by simp
/-- A call whose answer and store are known. -/
theorem dr_callD {T : Nat → Option RF} {n0 i : Nat} {d : Option Nat} {f : Nat} {xs_ : List AV} {H : List (Nat × St × St)} {L : List (Nat × Nat)} {e : Env} {s t : St} {v : AV} {next : DrK} (h : RunD T f xs_ s v t)
    (hn : next ((i, s, t) :: H) L (putO e d v) t) : drCall T n0 d f xs_ [] [] i H L e s next := ⟨v, t, h, fun j hj => by simp at hj, fun a ha => by simp at ha, hn⟩
section
variable {s t : St} {n b n2 b2 : Nat} {D : Dsk} {R : Rsk} {v0 : AV} {l : List FOp} {i : Nat} {q : FOp} {e : Env}
set_option maxHeartbeats 4000000 in
theorem fxT_r (h : W3 s n b D n2 b2 R t) (pr : PR D R) (asc : Asc R.l) (hq : FOQ q) (hv : Rd 6 cFO s v0 l) (hi : l[i]? = some q) (g0 : e.get 0 = v0) (g6 : e.get 6 = .int .i64 (i : Int)) (g7 : e.get 7 = .ptr b 0) (g8 : e.get 8 = .ptr b2 0) {Q : XE → Env → St → Prop}
    (hQ : ∀ e' t' D' R', W3 s n b D' n2 b2 R' t' → PR D' R' → Asc R'.l → e'.get 0 = e.get 0 → e'.get 3 = e.get 3 → e'.get 4 = e.get 4 → e'.get 5 = e.get 5 → e'.get 6 = e.get 6 → Q .nrm e' t') : awp (Run T) fxT Q e t := by
  obtain ⟨b0, o0, j1, j2⟩ := hv.get cFO_len hi
  have j3 : ldA t (some 6) (.ptr b0 o0) = some (.agg (cFO q)) := h.d.ext.ld (j2 (some 6) 0 (.agg (cFO q)) rfl)
  have j4 : ldA s none (.ptr b0 (o0 + 2)) = some (.str q.name) := j2 none 2 (.str q.name) rfl
  obtain ⟨v, t1, ⟨hv1, D1, R1, w1, p1, a1⟩, hr1⟩ := (right_r h pr asc q hq).det
  rw [hv1] at hr1
  have j5 := w1.d.ext.ld j4
  have hp : (R1.l.map (·.1)).Perm ((con D1).map (·.1)) := p1.con.map _
  have hl16 := w1.q.gd.ok.2
  have hr2 := names_w w1.d (R1.l.map (·.1)) hp a1.ris _ _ (made_is t1 _)
  have w2 := w1.ext2 (madeT_ext t1 (R1.l.map (·.1)))
  have rd2 := (made_is t1 (R1.l.map (·.1))).rd
  generalize madeT t1 (R1.l.map (·.1)) = t2 at *
  generalize madeV t1 (R1.l.map (·.1)) = v2 at *
  obtain ⟨v3, t3, ⟨x3, own3⟩, hr3⟩ := (rnames_r (T := T) t2 b2 R1 w2.q.at_.cells w2.q.at_.rd w2.q.few).det
  have w3 := w2.ext2 x3
  have hr4 := names06_r (T := T) t3 v2 v3 _ _ (by rw [List.length_map]; omega) (by rw [List.length_map]; omega) (rd2.ext x3) (own3.rd cS_len)
  rw [dec_t rfl] at hr4
  have hd1 := down_w w1.d
  have hd2 := rdown_r (T := T) t1 b2 R1 w1.q.at_.cells
  rw [p1.down] at hd2
  have hs1 := steps_w w1.d
  have hs2 := rsteps_r (T := T) t1 b2 R1 w1.q.at_.cells
  rw [p1.n] at hs2
  have hf1 := safe_w w1.d q.name
  have hf2 := rsafe_r (T := T) t1 b2 R1 q.name w1.q.at_.cells w1.q.at_.rd w1.q.few
  rw [p1.safe] at hf2
  have lk : ldOk [29] [(6, t, t1)] b0 := ldOk_far (by decide)
  have fin := fun e' => hQ e' t3 D1 R1 w3 p1 a1
  clear hQ h pr asc w1 p1 a1 w2 w3 rd2 own3 x3 hp
  simp only [fxT, fxB, fxL, RC.snd, RC.fst, RC.inn, r_w06_FilesExact, XX, CC, YY, Nat.reduceAdd, Nat.reduceSub, Nat.reduceLeDiff, Nat.reduceLT, Nat.reduceEqDiff, reduceIte, ↓reduceIte, Nat.reduceBEq]
  refine drw_in [] rfl ?_
  simp only [List.append_nil, DD, CC, YY, Nat.reduceAdd, Nat.reduceSub, Nat.reduceLeDiff, Nat.reduceLT, Nat.reduceEqDiff, reduceIte, ↓reduceIte, Nat.reduceBEq, g0, g6, g7, g8, j1, j3]
  refine dr_callD hr1 ?_
  simp only [DD, CC, YY, Nat.reduceAdd, Nat.reduceSub, Nat.reduceLeDiff, Nat.reduceLT, Nat.reduceEqDiff, reduceIte, ↓reduceIte, Nat.reduceBEq, g7, g8, Bool.not_true]
  refine dr_call hd1 ?_
  (try simp only [DD, CC, YY, Nat.reduceAdd, Nat.reduceSub, Nat.reduceLeDiff, Nat.reduceLT, Nat.reduceEqDiff, reduceIte, ↓reduceIte, Nat.reduceBEq, g8])
  refine dr_call hd2 ?_
  simp only [DD, CC, YY, Nat.reduceAdd, Nat.reduceSub, Nat.reduceLeDiff, Nat.reduceLT, Nat.reduceEqDiff, reduceIte, ↓reduceIte, Nat.reduceBEq, g7, g8, eqb_same, beq_same, Bool.not_true]
  refine dr_call hs1 ?_
  (try simp only [DD, CC, YY, Nat.reduceAdd, Nat.reduceSub, Nat.reduceLeDiff, Nat.reduceLT, Nat.reduceEqDiff, reduceIte, ↓reduceIte, Nat.reduceBEq, g8])
  refine dr_call hs2 ?_
  simp only [DD, CC, YY, Nat.reduceAdd, Nat.reduceSub, Nat.reduceLeDiff, Nat.reduceLT, Nat.reduceEqDiff, reduceIte, ↓reduceIte, Nat.reduceBEq, g0, g6, g7, g8, ee, Bool.not_true, j1, j5]
  refine dr_call hf1 ?_
  simp only [DD, CC, YY, Nat.reduceAdd, Nat.reduceSub, Nat.reduceLeDiff, Nat.reduceLT, Nat.reduceEqDiff, reduceIte, ↓reduceIte, Nat.reduceBEq, g0, g6, g8, j1, j5]
  refine ⟨lk, ?_⟩
  refine dr_call hf2 ?_
  simp only [DD, CC, YY, Nat.reduceAdd, Nat.reduceSub, Nat.reduceLeDiff, Nat.reduceLT, Nat.reduceEqDiff, reduceIte, ↓reduceIte, Nat.reduceBEq, g7, g8, ee, Bool.not_true]
  refine dr_callD hr2 ?_
  simp only [DD, CC, YY, Nat.reduceAdd, Nat.reduceSub, Nat.reduceLeDiff, Nat.reduceLT, Nat.reduceEqDiff, reduceIte, ↓reduceIte, Nat.reduceBEq, g8]
  refine dr_callD hr3 ?_
  (try simp only [DD, CC, YY, Nat.reduceAdd, Nat.reduceSub, Nat.reduceLeDiff, Nat.reduceLT, Nat.reduceEqDiff, reduceIte, ↓reduceIte, Nat.reduceBEq])
  refine dr_call hr4 ?_
  simp only [DD, CC, YY, Nat.reduceAdd, Nat.reduceSub, Nat.reduceLeDiff, Nat.reduceLT, Nat.reduceEqDiff, reduceIte, ↓reduceIte, Nat.reduceBEq, Bool.not_true]
  refine fin _ ?_ ?_ ?_ ?_ ?_ <;> simp only [XX, CC, YY, Nat.reduceAdd, Nat.reduceSub, Nat.reduceLeDiff, Nat.reduceLT, Nat.reduceEqDiff, reduceIte, ↓reduceIte, Nat.reduceBEq]
set_option maxHeartbeats 4000000 in
theorem fxT_nil (h : W3 s n b D n2 b2 R t) (pr : PR D R) (asc : Asc R.l) (hv : Rd 6 cFO s v0 l) (hi : l[i]? = some q) (g0 : e.get 0 = v0) (g6 : e.get 6 = .int .i64 (i : Int)) (g7 : e.get 7 = .nilp) (g8 : e.get 8 = .nilp) {Q : XE → Env → St → Prop}
    (hQ : ∀ e' t' D' R', W3 s n b D' n2 b2 R' t' → PR D' R' → Asc R'.l → e'.get 0 = e.get 0 → e'.get 3 = e.get 3 → e'.get 4 = e.get 4 → e'.get 5 = e.get 5 → e'.get 6 = e.get 6 → Q .nrm e' t') : awp (Run T) fxT Q e t := by
  obtain ⟨b0, o0, j1, j2⟩ := hv.get cFO_len hi
  have j3 : ldA t (some 6) (.ptr b0 o0) = some (.agg (cFO q)) := h.d.ext.ld (j2 (some 6) 0 (.agg (cFO q)) rfl)
  have j5 : ldA t none (.ptr b0 (o0 + 2)) = some (.str q.name) := h.d.ext.ld (j2 none 2 (.str q.name) rfl)
  have z00 : ((0 : Int) == 0) = true := rfl
  simp only [fxT, fxB, fxL, RC.snd, RC.fst, RC.inn, r_w06_FilesExact, XX, CC, YY, Nat.reduceAdd, Nat.reduceSub, Nat.reduceLeDiff, Nat.reduceLT, Nat.reduceEqDiff, reduceIte, ↓reduceIte, Nat.reduceBEq]
  refine drw_in [] rfl ?_
  simp only [List.append_nil, DD, CC, YY, Nat.reduceAdd, Nat.reduceSub, Nat.reduceLeDiff, Nat.reduceLT, Nat.reduceEqDiff, reduceIte, ↓reduceIte, Nat.reduceBEq, g0, g6, g7, g8, j1, j3]
  refine dr_call (rightnil_r t q) ?_
  simp only [DD, CC, YY, Nat.reduceAdd, Nat.reduceSub, Nat.reduceLeDiff, Nat.reduceLT, Nat.reduceEqDiff, reduceIte, ↓reduceIte, Nat.reduceBEq, g7, g8, Bool.not_true]
  refine dr_call (pdownnil t) ?_
  (try simp only [DD, CC, YY, Nat.reduceAdd, Nat.reduceSub, Nat.reduceLeDiff, Nat.reduceLT, Nat.reduceEqDiff, reduceIte, ↓reduceIte, Nat.reduceBEq, g8])
  refine dr_call (qdownnil t) ?_
  simp only [DD, CC, YY, Nat.reduceAdd, Nat.reduceSub, Nat.reduceLeDiff, Nat.reduceLT, Nat.reduceEqDiff, reduceIte, ↓reduceIte, Nat.reduceBEq, g7, g8, eqb_same, beq_same, Bool.not_true]
  refine dr_call (pstepsnil t) ?_
  (try simp only [DD, CC, YY, Nat.reduceAdd, Nat.reduceSub, Nat.reduceLeDiff, Nat.reduceLT, Nat.reduceEqDiff, reduceIte, ↓reduceIte, Nat.reduceBEq, g8])
  refine dr_call (qstepsnil t) ?_
  simp only [DD, CC, YY, Nat.reduceAdd, Nat.reduceSub, Nat.reduceLeDiff, Nat.reduceLT, Nat.reduceEqDiff, reduceIte, ↓reduceIte, Nat.reduceBEq, g0, g6, g7, g8, z00, Bool.not_true, j1, j5]
  refine dr_call (safenil_r t (.str q.name)) ?_
  simp only [DD, CC, YY, Nat.reduceAdd, Nat.reduceSub, Nat.reduceLeDiff, Nat.reduceLT, Nat.reduceEqDiff, reduceIte, ↓reduceIte, Nat.reduceBEq, g0, g6, g8, j1, j5]
  refine dr_call (rsafenil_r (T := T) t (.str q.name)) ?_
  simp only [DD, CC, YY, Nat.reduceAdd, Nat.reduceSub, Nat.reduceLeDiff, Nat.reduceLT, Nat.reduceEqDiff, reduceIte, ↓reduceIte, Nat.reduceBEq, g7, g8, z00, Bool.not_true]
  refine dr_call (namesnil_r t) ?_
  simp only [DD, CC, YY, Nat.reduceAdd, Nat.reduceSub, Nat.reduceLeDiff, Nat.reduceLT, Nat.reduceEqDiff, reduceIte, ↓reduceIte, Nat.reduceBEq, g8]
  refine dr_callD (qnamesnil t) ?_
  (try simp only [DD, CC, YY, Nat.reduceAdd, Nat.reduceSub, Nat.reduceLeDiff, Nat.reduceLT, Nat.reduceEqDiff, reduceIte, ↓reduceIte, Nat.reduceBEq])
  refine dr_call (names06_r (T := T) _ .nils _ [] [] (by simp) (by simp) Rd.nil (rd_lit (l := []) (by rw [get_last]; rfl) cS_len rfl)) ?_
  rw [dec_t rfl]
  simp only [DD, CC, YY, Nat.reduceAdd, Nat.reduceSub, Nat.reduceLeDiff, Nat.reduceLT, Nat.reduceEqDiff, reduceIte, ↓reduceIte, Nat.reduceBEq, Bool.not_true]
  refine hQ _ _ _ _ (h.app _) pr asc ?_ ?_ ?_ ?_ ?_ <;> simp only [XX, CC, YY, Nat.reduceAdd, Nat.reduceSub, Nat.reduceLeDiff, Nat.reduceLT, Nat.reduceEqDiff, reduceIte, ↓reduceIte, Nat.reduceBEq]
end
/-- Where the first loop stands. -/
structure XI (s : St) (n b n2 b2 : Nat) (v0 : AV) (i : Nat) (all : Int) (e : Env) (t : St) (D : Dsk) (R : Rsk) : Prop where
  w : W3 s n b D n2 b2 R t
  pr : PR D R
  asc : Asc R.l
  a0 : 0 ≤ all ∧ all ≤ 4194304
  i0 : i ≤ 2000
  g0 : e.get 0 = v0
  g3 : e.get 3 = .ptr b 0
  g4 : e.get 4 = .ptr b2 0
  g5 : e.get 5 = .int .i64 all
  g6 : e.get 6 = .int .i64 (i : Int)
theorem fxL_eq : fxL = .seq fxL.fst (.seq (.block 1 (.seq fxB.fst (.seq fxB.snd.fst (.seq fxB.snd.snd.fst (.seq fxB.snd.snd.snd.fst (.seq fxB.snd.snd.snd.snd.fst fxT)))))) fxL.snd.snd) := rfl
set_option maxHeartbeats 8000000 in
theorem fx_round (s : St) (v0 : AV) (l : List FOp) (hl : l.length ≤ 140737488351232) (hq : ∀ q ∈ l, FOQ q) (hv : Rd 6 cFO s v0 l) (n b n2 b2 : Nat) (Q : XE → Env → St → Prop)
    (hret : ∀ e t, e.get 2 = .bool true → Q .ret e t)
    (hend : ∀ e t i all D R, XI s n b n2 b2 v0 i all e t D R → Q (.exit 0) e t)
    (J : Env → St → Prop) (d : Nat) (e : Env) (t : St) (hJ : ∀ d' e' t', d' < d → (∃ i all D R, i + d' = l.length ∧ XI s n b n2 b2 v0 i all e' t' D R) → J e' t')
    (i : Nat) (all : Int) (D : Dsk) (R : Rsk) (hid : i + d = l.length) (h : XI s n b n2 b2 v0 i all e t D R) :
    awp (Run T) fxL (loopK J Q) e t := by
  obtain ⟨w, pr, asc, a0, i0, g0, g3, g4, g5, g6⟩ := id h
  have lV : lenlA v0 = some (.int .i64 (l.length : Int)) := hv.len
  have tA := @fxT_r s; have tN := @fxT_nil s
  have hbody := fxL_eq
  generalize fxT = TEST at *
  rw [hbody]
  clear hbody
  have em : i < l.length ∨ ¬ i < l.length := Classical.em _
  rcases em with c1 | c1
  rotate_left
  · simp only [fxB, fxL, RC.snd, RC.fst, RC.inn, r_w06_FilesExact, XX, CC, YY, Nat.reduceAdd, Nat.reduceSub, Nat.reduceLeDiff, Nat.reduceLT, Nat.reduceEqDiff, reduceIte, ↓reduceIte, Nat.reduceBEq, g6, g0, lV, dec_f (show ¬ (i : Int) < (l.length : Int) by omega)]
    refine hend _ _ i all D R ⟨w, pr, asc, a0, i0, ?_, ?_, ?_, ?_, ?_⟩ <;> simp only [XX, CC, YY, Nat.reduceAdd, Nat.reduceSub, Nat.reduceLeDiff, Nat.reduceLT, Nat.reduceEqDiff, reduceIte, ↓reduceIte, Nat.reduceBEq, g0, g3, g4, g5, g6]
  have em2 : i < 2000 ∨ ¬ i < 2000 := Classical.em _
  rcases em2 with c2 | c2
  rotate_left
  · simp only [fxB, fxL, RC.snd, RC.fst, RC.inn, r_w06_FilesExact, XX, CC, YY, Nat.reduceAdd, Nat.reduceSub, Nat.reduceLeDiff, Nat.reduceLT, Nat.reduceEqDiff, reduceIte, ↓reduceIte, Nat.reduceBEq, g6, g0, lV, dec_t (show (i : Int) < (l.length : Int) by omega), dec_f (show ¬ (i : Int) < 2000 by omega)]
    refine hend _ _ i all D R ⟨w, pr, asc, a0, i0, ?_, ?_, ?_, ?_, ?_⟩ <;> simp only [XX, CC, YY, Nat.reduceAdd, Nat.reduceSub, Nat.reduceLeDiff, Nat.reduceLT, Nat.reduceEqDiff, reduceIte, ↓reduceIte, Nat.reduceBEq, g0, g3, g4, g5, g6]
  have d1 := dec_t (show (i : Int) < (l.length : Int) by omega)
  have d2 := dec_t (show (i : Int) < 2000 by omega)
  have w3 : IntKind.i64.wrap ((i : Int) + 1) = ((i + 1 : Nat) : Int) := w64_nat (by omega)
  have hp : l[i]? = some (l[i]'c1) := List.getElem?_eq_getElem _
  generalize l[i]'c1 = q at hp
  have hqq := hq q (List.mem_of_getElem? hp)
  have hds := hqq.2.1
  obtain ⟨b0, o0, j1, j2⟩ := (hv.ext w.d.ext).get cFO_len hp
  have j3 : ldA t none (.ptr b0 (o0 + 3)) = some (.str q.data) := j2 none 3 (.str q.data) rfl
  have j4 : ldA t none (.ptr b0 (o0 + 1)) = some (.int .i64 q.on) := j2 none 1 (.int .i64 q.on) rfl
  have w2 : IntKind.i64.wrap (all + (q.data.size : Int)) = all + (q.data.size : Int) := w64_in (by omega) (by omega)
  have em3 : all + (q.data.size : Int) > 4194304 ∨ ¬ all + (q.data.size : Int) > 4194304 := Classical.em _
  rcases em3 with c3 | c3
  · simp only [fxB, fxL, RC.snd, RC.fst, RC.inn, r_w06_FilesExact, XX, CC, YY, Nat.reduceAdd, Nat.reduceSub, Nat.reduceLeDiff, Nat.reduceLT, Nat.reduceEqDiff, reduceIte, ↓reduceIte, Nat.reduceBEq, g6, g0, lV, d1, d2, j1, j3, g5, w2, dec_t c3]
    exact hret _ _ (by simp only [XX, CC, YY, Nat.reduceAdd, Nat.reduceSub, Nat.reduceLeDiff, Nat.reduceLT, Nat.reduceEqDiff, reduceIte, ↓reduceIte, Nat.reduceBEq])
  have em4 : q.on = 0 ∨ ¬ q.on = 0 := Classical.em _
  rcases em4 with c4 | c4
  · have z : (q.on == 0) = true := by simp [c4]
    simp only [fxB, fxL, RC.snd, RC.fst, RC.inn, r_w06_FilesExact, XX, CC, YY, Nat.reduceAdd, Nat.reduceSub, Nat.reduceLeDiff, Nat.reduceLT, Nat.reduceEqDiff, reduceIte, ↓reduceIte, Nat.reduceBEq, g6, g0, g3, g4, lV, d1, d2, j1, j3, j4, g5, w2, dec_f c3, z, Bool.not_true]
    refine tA w pr asc hqq hv hp (by simp only [XX, CC, YY, Nat.reduceAdd, Nat.reduceSub, Nat.reduceLeDiff, Nat.reduceLT, Nat.reduceEqDiff, reduceIte, ↓reduceIte, Nat.reduceBEq, g0]) (by simp only [XX, CC, YY, Nat.reduceAdd, Nat.reduceSub, Nat.reduceLeDiff, Nat.reduceLT, Nat.reduceEqDiff, reduceIte, ↓reduceIte, Nat.reduceBEq, g6]) (by simp only [XX, CC, YY, Nat.reduceAdd, Nat.reduceSub, Nat.reduceLeDiff, Nat.reduceLT, Nat.reduceEqDiff, reduceIte, ↓reduceIte, Nat.reduceBEq]) (by simp only [XX, CC, YY, Nat.reduceAdd, Nat.reduceSub, Nat.reduceLeDiff, Nat.reduceLT, Nat.reduceEqDiff, reduceIte, ↓reduceIte, Nat.reduceBEq]) fun e' t' D' R' w' p' a' h0 h3 h4 h5 h6 => ?_
    simp only [XX, CC, YY, Nat.reduceAdd, Nat.reduceSub, Nat.reduceLeDiff, Nat.reduceLT, Nat.reduceEqDiff, reduceIte, ↓reduceIte, Nat.reduceBEq] at h0 h3 h4 h5 h6
    simp only [XX, CC, YY, Nat.reduceAdd, Nat.reduceSub, Nat.reduceLeDiff, Nat.reduceLT, Nat.reduceEqDiff, reduceIte, ↓reduceIte, Nat.reduceBEq, h6, g6, w3]
    refine hJ (d - 1) _ _ (by omega) ⟨i + 1, all + (q.data.size : Int), D', R', by omega, ⟨w', p', a', by omega, by omega, ?_, ?_, ?_, ?_, ?_⟩⟩ <;> simp only [XX, CC, YY, Nat.reduceAdd, Nat.reduceSub, Nat.reduceLeDiff, Nat.reduceLT, Nat.reduceEqDiff, reduceIte, ↓reduceIte, Nat.reduceBEq, h0, h3, h4, h5, g0, g3, g4]
  · have z : (q.on == 0) = false := by simp [c4]
    simp only [fxB, fxL, RC.snd, RC.fst, RC.inn, r_w06_FilesExact, XX, CC, YY, Nat.reduceAdd, Nat.reduceSub, Nat.reduceLeDiff, Nat.reduceLT, Nat.reduceEqDiff, reduceIte, ↓reduceIte, Nat.reduceBEq, g6, g0, g3, g4, lV, d1, d2, j1, j3, j4, g5, w2, dec_f c3, z, Bool.not_false]
    refine tN w pr asc hv hp (by simp only [XX, CC, YY, Nat.reduceAdd, Nat.reduceSub, Nat.reduceLeDiff, Nat.reduceLT, Nat.reduceEqDiff, reduceIte, ↓reduceIte, Nat.reduceBEq, g0]) (by simp only [XX, CC, YY, Nat.reduceAdd, Nat.reduceSub, Nat.reduceLeDiff, Nat.reduceLT, Nat.reduceEqDiff, reduceIte, ↓reduceIte, Nat.reduceBEq, g6]) (by simp only [XX, CC, YY, Nat.reduceAdd, Nat.reduceSub, Nat.reduceLeDiff, Nat.reduceLT, Nat.reduceEqDiff, reduceIte, ↓reduceIte, Nat.reduceBEq]) (by simp only [XX, CC, YY, Nat.reduceAdd, Nat.reduceSub, Nat.reduceLeDiff, Nat.reduceLT, Nat.reduceEqDiff, reduceIte, ↓reduceIte, Nat.reduceBEq]) fun e' t' D' R' w' p' a' h0 h3 h4 h5 h6 => ?_
    simp only [XX, CC, YY, Nat.reduceAdd, Nat.reduceSub, Nat.reduceLeDiff, Nat.reduceLT, Nat.reduceEqDiff, reduceIte, ↓reduceIte, Nat.reduceBEq] at h0 h3 h4 h5 h6
    simp only [XX, CC, YY, Nat.reduceAdd, Nat.reduceSub, Nat.reduceLeDiff, Nat.reduceLT, Nat.reduceEqDiff, reduceIte, ↓reduceIte, Nat.reduceBEq, h6, g6, w3]
    refine hJ (d - 1) _ _ (by omega) ⟨i + 1, all + (q.data.size : Int), D', R', by omega, ⟨w', p', a', by omega, by omega, ?_, ?_, ?_, ?_, ?_⟩⟩ <;> simp only [XX, CC, YY, Nat.reduceAdd, Nat.reduceSub, Nat.reduceLeDiff, Nat.reduceLT, Nat.reduceEqDiff, reduceIte, ↓reduceIte, Nat.reduceBEq, h0, h3, h4, h5, g0, g3, g4]
set_option maxHeartbeats 8000000 in
theorem fx_tail {s t : St} {n b n2 b2 : Nat} {v0 : AV} {i : Nat} {all : Int} {e : Env} {D : Dsk} {R : Rsk} (h : XI s n b n2 b2 v0 i all e t D R) :
    awp (Run T) fxE (endK [.tmp 2] s fun r _ => r = .bool true) e t := by
  obtain ⟨w, pr, asc, a0, i0, g0, g3, g4, g5, g6⟩ := id h
  simp only [fxE, RC.snd, r_w06_FilesExact, XX, CC, YY, Nat.reduceAdd, Nat.reduceSub, Nat.reduceLeDiff, Nat.reduceLT, Nat.reduceEqDiff, reduceIte, ↓reduceIte, Nat.reduceBEq, g3]
  refine Run.mono _ _ _ _ _ ?_ (on_w w.d)
  rintro v t1 ⟨rfl, wd, gs⟩
  have w1 := w.st1 wd gs
  (try simp only [XX, CC, YY, Nat.reduceAdd, Nat.reduceSub, Nat.reduceLeDiff, Nat.reduceLT, Nat.reduceEqDiff, reduceIte, ↓reduceIte, Nat.reduceBEq, g4])
  refine Run.mono _ _ _ _ _ ?_ (ron_w w1.q)
  rintro v t2 ⟨rfl, wq, gs2⟩
  have w2 := w1.st2 wq gs2
  have p2 := pr.on
  have a2 : Asc (ron R).l := asc
  generalize onD D = D2 at *
  generalize ron R = R2 at *
  (try simp only [XX, CC, YY, Nat.reduceAdd, Nat.reduceSub, Nat.reduceLeDiff, Nat.reduceLT, Nat.reduceEqDiff, reduceIte, ↓reduceIte, Nat.reduceBEq, g4])
  refine Run.mono _ _ _ _ _ ?_ (rnames_r (T := T) t2 b2 R2 w2.q.at_.cells w2.q.at_.rd w2.q.few)
  rintro lv t3 ⟨x3, own3⟩
  have w3 := w2.ext2 x3
  have rd3 := own3.rd cS_len
  have hp : (R2.l.map (·.1)).Perm ((con D2).map (·.1)) := p2.con.map _
  have hris := a2.ris
  have hsm : ∀ x ∈ R2.l.map (·.1), x.size ≤ 32 := fun x hx => by
    obtain ⟨f, hf, rfl⟩ := List.mem_map.1 hx
    exact a2.small f hf
  have hl16 : (R2.l.map (·.1)).length ≤ 16 := by rw [List.length_map]; exact w2.q.gd.ok.2
  generalize R2.l.map (·.1) = L at *
  have lL : lenlA lv = some (.int .i64 (L.length : Int)) := rd3.len
  (try simp only [XX, CC, YY, Nat.reduceAdd, Nat.reduceSub, Nat.reduceLeDiff, Nat.reduceLT, Nat.reduceEqDiff, reduceIte, ↓reduceIte, Nat.reduceBEq])
  refine awp_rounds (fun d e t => t = t3 ∧ ∃ i : Nat, i + d = L.length ∧ e.get 3 = .ptr b 0 ∧ e.get 4 = .ptr b2 0 ∧ e.get 9 = lv ∧ e.get 10 = .int .i64 (i : Int)) L.length ?_ ?_
  · refine ⟨rfl, 0, by omega, ?_, ?_, ?_, ?_⟩ <;> simp only [XX, CC, YY, Nat.reduceAdd, Nat.reduceSub, Nat.reduceLeDiff, Nat.reduceLT, Nat.reduceEqDiff, reduceIte, ↓reduceIte, Nat.reduceBEq, g3, g4] <;> rfl
  rintro J d e t hJ ⟨rfl, i, hid, k3, k4, k9, k10⟩
  simp only [XX, CC, YY, Nat.reduceAdd, Nat.reduceSub, Nat.reduceLeDiff, Nat.reduceLT, Nat.reduceEqDiff, reduceIte, ↓reduceIte, Nat.reduceBEq, k3, k4, k9, k10, lL]
  have em : i < L.length ∨ ¬ i < L.length := Classical.em _
  rcases em with c | c
  · have hq : L[i]? = some (L[i]'c) := List.getElem?_eq_getElem _
    generalize L[i]'c = a at hq
    have ha : a.size < 140737488355328 := Nat.lt_of_le_of_lt (hsm a (List.mem_of_getElem? hq)) (by decide)
    obtain ⟨b1, o1, j1, j2, _⟩ := rdS rd3 hq
    have w4 : IntKind.i64.wrap ((i : Int) + 1) = ((i + 1 : Nat) : Int) := w64_nat (by omega)
    have q1 := eq_s (readV D2 a).1
    simp only [dec_t (show (i : Int) < L.length by omega), XX, CC, YY, Nat.reduceAdd, Nat.reduceSub, Nat.reduceLeDiff, Nat.reduceLT, Nat.reduceEqDiff, reduceIte, ↓reduceIte, Nat.reduceBEq, k3, k4, k9, k10, j1, j2]
    refine (read_w w3.d a ha).use ?_
    simp only [XX, CC, YY, Nat.reduceAdd, Nat.reduceSub, Nat.reduceLeDiff, Nat.reduceLT, Nat.reduceEqDiff, reduceIte, ↓reduceIte, Nat.reduceBEq, k3, k4, k9, k10, j1, j2]
    refine (rread_r (T := T) t b2 R2 a w3.q.at_.cells w3.q.at_.rd w3.q.few ha).use ?_
    rw [p2.read]
    simp only [XX, CC, YY, Nat.reduceAdd, Nat.reduceSub, Nat.reduceLeDiff, Nat.reduceLT, Nat.reduceEqDiff, reduceIte, ↓reduceIte, Nat.reduceBEq, k3, k4, k9, k10]
    refine drw_in [] rfl ?_
    simp only [List.append_nil, DD, CC, YY, Nat.reduceAdd, Nat.reduceSub, Nat.reduceLeDiff, Nat.reduceLT, Nat.reduceEqDiff, reduceIte, ↓reduceIte, Nat.reduceBEq, k3, k4, k9, k10, q1, ee, Bool.not_true, j1, j2]
    refine dr_call (safe_w w3.d a) ?_
    simp only [DD, CC, YY, Nat.reduceAdd, Nat.reduceSub, Nat.reduceLeDiff, Nat.reduceLT, Nat.reduceEqDiff, reduceIte, ↓reduceIte, Nat.reduceBEq, k3, k4, k9, k10, j1, j2]
    refine dr_call (rsafe_r (T := T) t b2 R2 a w3.q.at_.cells w3.q.at_.rd w3.q.few) ?_
    rw [p2.safe]
    simp only [DD, CC, YY, Nat.reduceAdd, Nat.reduceSub, Nat.reduceLeDiff, Nat.reduceLT, Nat.reduceEqDiff, reduceIte, ↓reduceIte, Nat.reduceBEq, ee, Bool.not_true, k10, w4]
    refine hJ (d - 1) _ _ (by omega) ⟨rfl, i + 1, by omega, ?_, ?_, ?_, ?_⟩ <;> simp only [XX, CC, YY, Nat.reduceAdd, Nat.reduceSub, Nat.reduceLeDiff, Nat.reduceLT, Nat.reduceEqDiff, reduceIte, ↓reduceIte, Nat.reduceBEq, k3, k4, k9]
  · simp only [dec_f (show ¬ (i : Int) < L.length by omega), XX, CC, YY, Nat.reduceAdd, Nat.reduceSub, Nat.reduceLeDiff, Nat.reduceLT, Nat.reduceEqDiff, reduceIte, ↓reduceIte, Nat.reduceBEq, k3]
    refine (names_w w3.d L hp hris _ _ (made_is t L)).use ?_
    have xm := madeT_ext t L
    have rdm := (made_is t L).rd
    (try simp only [XX, CC, YY, Nat.reduceAdd, Nat.reduceSub, Nat.reduceLeDiff, Nat.reduceLT, Nat.reduceEqDiff, reduceIte, ↓reduceIte, Nat.reduceBEq, k9])
    refine (names06_r (T := T) _ _ _ L L (by omega) (by omega) rdm (rd3.ext xm)).use ?_
    rw [dec_t rfl]
    (try simp only [XX, CC, YY, Nat.reduceAdd, Nat.reduceSub, Nat.reduceLeDiff, Nat.reduceLT, Nat.reduceEqDiff, reduceIte, ↓reduceIte, Nat.reduceBEq])
    exact .inl rfl
theorem rnew_gd : RGd rnew := ⟨⟨fun f hf => by simp [rnew] at hf, by simp [rnew]⟩, by simp [rnew]⟩
theorem start_W3 (s : St) : W3 s s.length (s.length + 1) (newD s.length) (s.length + 2) (s.length + 2) rnew (s ++ [.map [] 0, .cells true (cD (newD s.length))] ++ [.cells true (cE rnew)]) := by
  have w := new_w s s (Ext.refl s)
  have hlen : (s ++ [Blk.map [] 0, .cells true (cD (newD s.length))]).length = s.length + 2 := by simp
  have hf : ∀ i, RFoot (s.length + 2) rnew i → i = s.length + 2 := fun i hi => by
    rcases hi with hi | ⟨o, e, k, c, hi⟩
    · exact hi
    · cases hi
  refine ⟨w.app _, ⟨⟨Nat.le_refl _, ?_, .inl ⟨rfl, rfl⟩, fun o e k c h => by cases h⟩, rnew_gd, by simp, fun i hi => by have := hf i hi; omega, by simp, fun i hi => ?_⟩, fun i hi h2 => ?_⟩
  · rw [List.getElem?_append_right (by omega), hlen]; simp
  · rw [List.getElem?_append_left (by omega), w.same i hi]
  · have := hi.lt w.at_
    have := hf i h2
    omega
set_option maxHeartbeats 4000000 in
theorem fexact_r (s : St) (v0 : AV) (l : List FOp) (hl : l.length ≤ 140737488351232) (hq : ∀ q ∈ l, FOQ q) (hv : Rd 6 cFO s v0 l) :
    Run T f_w06_FilesExact [v0] s fun r _ => r = .bool true := by
  refine run_body (F := r_w06_FilesExact) (has rfl) (by simp [r_w06_FilesExact]) ?_
  have hround := fx_round s v0 l hl hq hv
  have htail := @fx_tail s
  obtain ⟨LOOP, hL⟩ : ∃ c, c = fxL := ⟨_, rfl⟩
  obtain ⟨TAIL, hT⟩ : ∃ c, c = fxE := ⟨_, rfl⟩
  obtain ⟨B, hB⟩ : ∃ c, c = r_w06_FilesExact.body := ⟨_, rfl⟩
  have hbody : r_w06_FilesExact.body = .seq B.fst (.seq B.snd.fst (.seq B.snd.snd.fst (.seq B.snd.snd.snd.fst (.seq B.snd.snd.snd.snd.fst (.seq B.snd.snd.snd.snd.snd.fst (.seq (.seq B.snd.snd.snd.snd.snd.snd.fst.fst (.block 0 (.loop LOOP))) TAIL)))))) := by rw [hB, hL, hT]; rfl
  rw [← hL] at hround
  rw [← hT] at htail
  rw [hbody, hB]
  clear hL hT hbody hB
  simp only [r_w06_FilesExact, RC.fst, RC.snd, XX, CC, YY, Nat.reduceAdd, Nat.reduceSub, Nat.reduceLeDiff, Nat.reduceLT, Nat.reduceEqDiff, reduceIte, ↓reduceIte, Nat.reduceBEq]
  refine (awake06_r s).use ?_
  simp only [XX, CC, YY, Nat.reduceAdd, Nat.reduceSub, Nat.reduceLeDiff, Nat.reduceLT, Nat.reduceEqDiff, reduceIte, ↓reduceIte, Nat.reduceBEq, Bool.not_true]
  refine Run.mono _ _ _ _ _ ?_ (new_r s)
  rintro v t1 ⟨rfl, rfl⟩
  (try simp only [XX, CC, YY, Nat.reduceAdd, Nat.reduceSub, Nat.reduceLeDiff, Nat.reduceLT, Nat.reduceEqDiff, reduceIte, ↓reduceIte, Nat.reduceBEq])
  refine Run.mono _ _ _ _ _ ?_ (rnew_r (T := T) _)
  rintro v t2 ⟨rfl, rfl⟩
  have w := start_W3 s
  have pr := new_PR s.length
  have asc : Asc rnew.l := ⟨by simp [rnew, Ris], fun f hf => by simp [rnew] at hf⟩
  have hb2 : (s ++ [Blk.map [] 0, .cells true (cD (newD s.length))]).length = s.length + 2 := by simp
  rw [hb2]
  generalize s ++ [Blk.map [] 0, .cells true (cD (newD s.length))] ++ [.cells true (cE rnew)] = t at *
  generalize newD s.length = D at *
  generalize rnew = R at *
  simp only [XX, CC, YY, Nat.reduceAdd, Nat.reduceSub, Nat.reduceLeDiff, Nat.reduceLT, Nat.reduceEqDiff, reduceIte, ↓reduceIte, Nat.reduceBEq, eqp_f]
  refine awp_rounds (fun d e t => ∃ i all D R, i + d = l.length ∧ XI s s.length (s.length + 1) (s.length + 2) (s.length + 2) v0 i all e t D R) l.length ?_ ?_
  · refine ⟨0, 0, D, R, by omega, ⟨w, pr, asc, by omega, by omega, ?_, ?_, ?_, ?_, ?_⟩⟩ <;> simp only [XX, CC, YY, Nat.reduceAdd, Nat.reduceSub, Nat.reduceLeDiff, Nat.reduceLT, Nat.reduceEqDiff, reduceIte, ↓reduceIte, Nat.reduceBEq] <;> rfl
  rintro J d e t hJ ⟨i, all, D, R, hid, h⟩
  refine hround s.length (s.length + 1) (s.length + 2) (s.length + 2) _ ?_ ?_ J d e t hJ i all D R hid h
  · intro e t h2
    simp only [XX, CC, YY, Nat.reduceAdd, Nat.reduceSub, Nat.reduceLeDiff, Nat.reduceLT, Nat.reduceEqDiff, reduceIte, ↓reduceIte, Nat.reduceBEq, h2]
    exact .inl rfl
  · intro e t i all D R h
    simp only [XX, CC, YY, Nat.reduceAdd, Nat.reduceSub, Nat.reduceLeDiff, Nat.reduceLT, Nat.reduceEqDiff, reduceIte, ↓reduceIte, Nat.reduceBEq]
    exact htail h
end Go.Ev

/-! The arguments' types: strings, ints. -/
namespace Go.Ev
open Go.ChangeShapes Go.WideShapes Go.ChangeAt Go.RowKit Go.Proofs
set_option maxRecDepth 100000
set_option linter.unusedVariables false
set_option linter.unusedSimpArgs false

section
variable {Hh : Type} {enc : TypeId × Value → Hh} {w : World} {base : Nat} {spare : Nat → Bool} {held : Bool} {fuel : Nat} {cs : List Value} {x : DataW Hh × List MemPlace}
theorem i64_of (y : Int) (h : (Lit.int .i64 y).wf = true) : -9223372036854775808 ≤ y ∧ y ≤ 9223372036854775807 := by
  simpa [Lit.wf, IntKind.min, IntKind.max, IntKind.signed, IntKind.bits] using h
end

section
variable {α : Type} {H : Type} {enc : TypeId × Value → H} {P : Program} {W : World}
theorem weights_mem {e : TypeId} : ∀ {l : List (DataW H)} {d : DataW H}, d ∈ l → ∀ {w : Nat}, w ∈ d.weights P e → w ∈ DataW.weightsAll P e l
  | x :: l, d, h, w, hw => by
    unfold DataW.weightsAll
    rcases List.mem_cons.1 h with rfl | h
    · exact List.mem_append_left _ hw
    · exact List.mem_append_right _ (weights_mem h hw)
/-- A slice argument, opened, what its elements hold bounded. -/
theorem slice_argW {t e : TypeId} {v : Value} {d : DataW H} {ps : List MemPlace} {b0 : Nat} (ht : P.underlying t = some (.slice e)) (hv : Value.okWide P W .any b0 t v) (h : DataW.Trod enc P W 0 (fun _ => true) true t v d ps)
    {n : Nat} (hn : P.cellsOf e = n) (h0 : 0 < n) {en : α → List AV} (he : ∀ q, (en q).length = n) {Q : α → Prop}
    (elem : ∀ fuel cs x, DataW.trod enc P W 0 (fun _ => true) true fuel e cs = some x → (∀ w ∈ x.1.weights P e, w ≤ reachBytes) → ∃ q, Q q ∧ ∀ m, VRs m (en q) cs)
    {ts : List TypeId} {ds : List (DataW H)} (hsz : (DataW.weightsEach P ts ds).all (· ≤ reachBytes) = true) {j : Nat} (htj : ts[j]? = some t) (hdj : ds[j]? = some d) (hB : 0 < P.bytesOf e) :
    ∃ l : List α, (∀ q ∈ l, Q q) ∧ SlArg W v n en l ∧ l.length ≤ 140737488351232 := by
  obtain ⟨a, len, cap, rfl⟩ := okWide_slice ht hv
  obtain ⟨fuel, hf⟩ := h
  rcases Go.Deep.open_slice ht hf with ⟨hcs, _⟩ | ⟨a', len', cap', m, k, D, Pl, hcs, _, hl, hm, hmm, hx, hi⟩
  · simp [Value.cells] at hcs
    obtain ⟨rfl, rfl, rfl⟩ := hcs
    exact ⟨[], by simp, .inl ⟨rfl, rfl⟩, by simp⟩
  · simp [Value.cells] at hcs
    obtain ⟨rfl, rfl, rfl⟩ := hcs
    simp at hmm
    subst hmm
    rw [hn] at hi
    have hok : len ≤ m ∧ (m : Int) ≤ IntKind.i64.max ∧ W.has P .any b0 a' e m := by
      have hv' := hv
      unfold Value.okWide at hv'
      rw [ht] at hv'
      simp only [Cell.okWide, ht, Cell.ok] at hv'
      exact hv'
    obtain ⟨_, hsp, row, cells, hsh, hlies⟩ := hok.2.2
    obtain ⟨c, x, sp⟩ := a'
    simp only at hsp
    subst hsp
    unfold World.shape? at hsh
    split at hsh <;> try (simp at hsh; done)
    rename_i cs tt fz hc
    simp only [Option.some.injEq, Prod.mk.injEq] at hsh
    obtain ⟨rfl, rfl⟩ := hsh
    have hx0 := lies_le hlies
    change x ≤ _ at hx0
    change W.heap[c]? = _ at hc
    have hx1 := Nat.div_mul_le_self cs.size (P.cellsOf tt)
    have hwt : ∀ i, i < len → ∀ w ∈ (D i).weights P e, w ≤ reachBytes := by
      intro i hlt w hw
      obtain ⟨hx1, _⟩ := Prod.mk.inj hx
      have hall := List.all_eq_true.1 hsz
      refine of_decide_eq_true (hall w (DataW.weights_mem_each htj (hdj.trans (congrArg some hx1)) w ?_))
      unfold DataW.weights
      rw [ht]
      exact List.mem_cons_of_mem _ (List.mem_append_left _ (weights_mem (List.mem_map.2 ⟨i, List.mem_range.2 hlt, rfl⟩) hw))
    have cellAt : ∀ i, i < m → ∃ (cs' : List Value), DataW.trod enc P W 0 (fun _ => true) true k e cs' = some (D i, Pl i) ∧ cs'.length = n ∧ ∀ k, k < n → cs[x + (i * n + k)]? = cs'[k]? := by
      intro i hlt
      obtain ⟨cs', h1, h2⟩ := hi i hlt
      obtain ⟨_, h3, h4⟩ := World.cells?_some h1
      refine ⟨cs', h2, h3, fun k hk => ?_⟩
      have := h4 k hk
      rw [Go.Deep.add_add] at this
      rw [← this, cell_off hc]
    obtain ⟨l, hll, hle⟩ := list_of (P := fun i (q : α) => Q q ∧ ∀ k a, (en q)[k]? = some a → ∃ u : Value, cs[x + (i * n + k)]? = some u ∧ ∀ m, VR m a u) len fun i hlt => by
      obtain ⟨cs', h1, h2, h3⟩ := cellAt i (by omega)
      obtain ⟨q, hq, hvr⟩ := elem _ _ _ h1 (hwt i hlt)
      refine ⟨q, hq, fun k a ha => ?_⟩
      have hkn : k < n := by rw [← he q]; exact (List.getElem?_eq_some_iff.1 ha).1
      obtain ⟨u, hu, _⟩ := VRs.at (hvr fun _ => none) ha
      refine ⟨u, by rw [h3 k hkn]; exact hu, fun m => ?_⟩
      obtain ⟨u', hu', hr⟩ := VRs.at (hvr m) ha
      rw [hu] at hu'; cases hu'; exact hr
    refine ⟨l, ?_, .inr ⟨c, x, m, cs, tt, fz, by rw [hll], by omega, ?_, hc, ?_⟩, ?_⟩
    · intro q hq
      obtain ⟨i, hlt, rfl⟩ := List.getElem_of_mem hq
      exact (hle i _ (List.getElem?_eq_getElem hlt)).1
    · rcases Nat.eq_zero_or_pos m with rfl | hm0
      · rw [Nat.zero_mul]; omega
      · obtain ⟨cs', h1, h2, h3⟩ := cellAt (m - 1) (by omega)
        have h4 := h3 (n - 1) (by omega)
        rw [List.getElem?_eq_getElem (by omega)] at h4
        have h5 := (Array.getElem?_eq_some_iff.1 h4).1
        have : m * n = (m - 1) * n + n := by rw [← Nat.succ_mul]; congr 1; omega
        omega
    · intro i a ha
      obtain ⟨j, k, q, rfl, hk, hq, hqa⟩ := flat_at he ha
      exact (hle j q hq).2 k a hqa
    · obtain ⟨hx, _⟩ := Prod.mk.inj hx
      have z := sized_slice hsz htj (hdj.trans (congrArg some hx)) ht
      have h1 : ((List.range len).map D).length + ((List.range (m - len)).map fun j => D (len + j)).length = m := by simp; omega
      rw [h1] at z
      rw [hll]
      have : m * 1 ≤ m * P.bytesOf e := Nat.mul_le_mul_left _ hB
      unfold reachBytes at z
      omega
end
end Go.Ev

/-! The arguments' types: operations. -/
namespace Go.Ev
open Go.ChangeShapes Go.WideShapes Go.ChangeAt Go.RowKit Go.Proofs
set_option maxRecDepth 100000
set_option linter.unusedVariables false
set_option linter.unusedSimpArgs false

section
variable {Hh : Type} {enc : TypeId × Value → Hh} {w : World} {base : Nat} {spare : Nat → Bool} {held : Bool} {fuel : Nat} {cs : List Value} {x : DataW Hh × List MemPlace}
theorem agg_weight2 {fs : Array Field} {t e : TypeId} {xs : List (DataW Hh)} {j : Nat} {y : ByteArray} (ht : Tryd.prog.underlying t = some (.struct fs)) (hj : (fs.toList.map (·.type))[j]? = some e) (hx : xs[j]? = some (.lit (.string y.data.toList)))
    (hw : ∀ w ∈ (DataW.agg xs).weights Tryd.prog t, w ≤ reachBytes) : y.size < 140737488355328 := by
  have h1 : y.data.toList.length ∈ DataW.weightsEach Tryd.prog (fs.toList.map (·.type)) xs := DataW.weights_mem_each hj hx _ (by unfold DataW.weights; exact List.mem_singleton.2 rfl)
  have h2 := hw y.data.toList.length (by unfold DataW.weights; rw [ht]; exact h1)
  have e : y.data.toList.length = y.size := Array.length_toList ..
  unfold reachBytes at h2
  omega
theorem trod_FO (h : DataW.trod enc Tryd.prog w base spare held fuel 44 cs = some x) (hw : ∀ w ∈ x.1.weights Tryd.prog 44, w ≤ reachBytes) : ∃ q : FOp, FOQ q ∧ ∀ m, VRs m (cFO q) cs := by
  obtain ⟨xs, n, _, hx, hl, hlen, hf⟩ := DataW.trod_struct Tryd.underlying44 h
  have hl' : cs.length = 6 := hl.trans (by kernel_rfl)
  obtain ⟨c0, c1, c2, c3, c4, c5, rfl⟩ : ∃ c0 c1 c2 c3 c4 c5 : Value, cs = [c0, c1, c2, c3, c4, c5] := by
    match cs, hl' with
    | [c0, c1, c2, c3, c4, c5], _ => exact ⟨_, _, _, _, _, _, rfl⟩
  have kS : Tryd.prog.cellsOf 9 = 1 := by kernel_rfl
  have kI : Tryd.prog.cellsOf 3 = 1 := by kernel_rfl
  have h0 : DataW.trod enc Tryd.prog w base spare held n 3 ((([c0, c1, c2, c3, c4, c5] : List Value).drop 0).take (Tryd.prog.cellsOf 3)) = xs[0]? := hf 0 _ rfl
  rw [kI, List.getElem?_eq_getElem (by rw [hlen]; decide)] at h0
  have h1 : DataW.trod enc Tryd.prog w base spare held n 3 ((([c0, c1, c2, c3, c4, c5] : List Value).drop 1).take (Tryd.prog.cellsOf 3)) = xs[1]? := hf 1 _ rfl
  rw [kI, List.getElem?_eq_getElem (by rw [hlen]; decide)] at h1
  have h2 : DataW.trod enc Tryd.prog w base spare held n 9 ((([c0, c1, c2, c3, c4, c5] : List Value).drop 2).take (Tryd.prog.cellsOf 9)) = xs[2]? := hf 2 _ rfl
  rw [kS, List.getElem?_eq_getElem (by rw [hlen]; decide)] at h2
  have h3 : DataW.trod enc Tryd.prog w base spare held n 9 ((([c0, c1, c2, c3, c4, c5] : List Value).drop 3).take (Tryd.prog.cellsOf 9)) = xs[3]? := hf 3 _ rfl
  rw [kS, List.getElem?_eq_getElem (by rw [hlen]; decide)] at h3
  have h4 : DataW.trod enc Tryd.prog w base spare held n 3 ((([c0, c1, c2, c3, c4, c5] : List Value).drop 4).take (Tryd.prog.cellsOf 3)) = xs[4]? := hf 4 _ rfl
  rw [kI, List.getElem?_eq_getElem (by rw [hlen]; decide)] at h4
  have h5 : DataW.trod enc Tryd.prog w base spare held n 3 ((([c0, c1, c2, c3, c4, c5] : List Value).drop 5).take (Tryd.prog.cellsOf 3)) = xs[5]? := hf 5 _ rfl
  rw [kI, List.getElem?_eq_getElem (by rw [hlen]; decide)] at h5
  obtain ⟨y0, e0, _, u0⟩ := DataW.trod_int Tryd.underlying3 h0
  obtain rfl : c0 = .int .i64 y0 := by simpa using e0
  obtain ⟨y1, e1, _, u1⟩ := DataW.trod_int Tryd.underlying3 h1
  obtain rfl : c1 = .int .i64 y1 := by simpa using e1
  obtain ⟨y2, e2, f2, _⟩ := DataW.trod_string Tryd.underlying9 h2
  obtain rfl : c2 = .string y2 := by simpa using e2
  obtain ⟨y3, e3, f3, _⟩ := DataW.trod_string Tryd.underlying9 h3
  obtain rfl : c3 = .string y3 := by simpa using e3
  obtain ⟨y4, e4, _, u4⟩ := DataW.trod_int Tryd.underlying3 h4
  obtain rfl : c4 = .int .i64 y4 := by simpa using e4
  obtain ⟨y5, e5, _, u5⟩ := DataW.trod_int Tryd.underlying3 h5
  obtain rfl : c5 = .int .i64 y5 := by simpa using e5
  rw [hx] at hw
  refine ⟨⟨y0, y1, y2, y3, y4, y5⟩, ⟨agg_weight2 (j := 2) Tryd.underlying44 rfl (by rw [List.getElem?_map, List.getElem?_eq_getElem (by rw [hlen]; decide), f2]; rfl) hw, agg_weight2 (j := 3) Tryd.underlying44 rfl (by rw [List.getElem?_map, List.getElem?_eq_getElem (by rw [hlen]; decide), f3]; rfl) hw, i64_of y4 u4⟩, fun m => ⟨_, _, rfl, rfl, _, _, rfl, rfl, _, _, rfl, rfl, _, _, rfl, rfl, _, _, rfl, rfl, _, _, rfl, rfl, rfl⟩⟩
end
end Go.Ev
