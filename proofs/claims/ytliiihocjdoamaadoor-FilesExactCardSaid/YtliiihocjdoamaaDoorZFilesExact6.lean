import Derived.Test.YtliiihocjdoamaaDoorZFilesExact5
/-! The disk: a file given a name. -/
namespace Go.Ev
set_option linter.unusedVariables false
set_option linter.unusedSimpArgs false
open Go.Ev.So Go.Proofs

/-- A file given the name. -/
def moveF (D : Dsk) (name : ByteArray) (f : Fil) : Dsk := match getF D name with
  | some _ => setF D name fun _ => { f with name := name }
  | none => { D with clock := D.clock + 1, fs := D.fs ++ [({ f with name := name }, D.clock)] }
section
variable {t : St} {n b : Nat} {D : Dsk}
theorem mup_other (h : DAt t n b D) {name : ByteArray} {g : Fil} (hg : getF D name = some g) (f : Fil) :
    xtA t (.mup .s) [.map D.mb, .str name, .ptr f.fb 0] = some (.undef, t.set D.mb (.map ((moveF D name f).fs.map entF) (moveF D name f).clock)) := by
  obtain ⟨r, h1, h2⟩ := find_ent name D.fs
  have hm : mapB t D.mb = some (D.fs.map entF, D.clock) := by unfold mapB; rw [h.map]
  show mupA t .s (.map D.mb) (.str name) (.ptr f.fb 0) = _
  unfold mupA moveF
  rw [hg]
  simp only [hm, h1]
  unfold getF at hg
  cases r with
  | none => simp only at h2; rw [h2] at hg; cases hg
  | some x =>
    obtain ⟨i, v⟩ := x
    obtain ⟨fk, a1, a2, a3⟩ := h2
    have hn : fk.1.name = name := by have := List.find?_some a1; simp at this; exact this.symm
    simp only
    have e : putM (D.fs.map entF) i (.str name) (.ptr f.fb 0) = (setF D name fun _ => { f with name := name }).fs.map entF := by
      unfold putM
      rw [List.getElem?_map, a2]
      show (D.fs.map entF).set i (.str name, .ptr f.fb 0, fk.2) = (D.fs.map (updF name _)).map entF
      apply List.ext_getElem?
      intro j
      rw [List.getElem?_set, List.getElem?_map, List.getElem?_map, List.getElem?_map]
      by_cases c : i = j
      · subst c
        rw [if_pos rfl, if_pos (by rw [List.length_map]; exact (List.getElem?_eq_some_iff.1 a2).1), a2]
        show _ = some (entF (updF name _ fk))
        unfold updF
        rw [if_pos hn.symm]; rfl
      · rw [if_neg c]
        cases hj : D.fs[j]? with
        | none => rfl
        | some y =>
          show some (entF y) = some (entF (updF name _ y))
          unfold updF
          rw [if_neg]
          intro e
          have hnd := h.names
          unfold List.Nodup at hnd
          rw [List.pairwise_map, List.pairwise_iff_getElem] at hnd
          obtain ⟨hi, ei⟩ := List.getElem?_eq_some_iff.1 a2
          obtain ⟨hj', ej⟩ := List.getElem?_eq_some_iff.1 hj
          rcases Nat.lt_or_gt_of_ne c with d | d
          · exact hnd i j hi hj' d (by rw [ei, ej, hn, e])
          · exact hnd j i hj' hi d (by rw [ei, ej, hn, e])
    rw [e]; rfl
theorem mup_any (h : DAt t n b D) (name : ByteArray) (f : Fil) :
    xtA t (.mup .s) [.map D.mb, .str name, .ptr f.fb 0] = some (.undef, t.set D.mb (.map ((moveF D name f).fs.map entF) (moveF D name f).clock)) := by
  cases hg : getF D name with
  | some g => exact mup_other h hg f
  | none =>
    rw [mup_new h hg]
    unfold moveF
    rw [hg]
    simp only [List.map_append, List.map_cons, List.map_nil]
    rfl
theorem moveF_mb (name : ByteArray) (f : Fil) : (moveF D name f).mb = D.mb := by unfold moveF; split <;> rfl
theorem moveF_mem {name : ByteArray} {f : Fil} {x : Fil × Nat} (hx : x ∈ (moveF D name f).fs) : (x ∈ D.fs ∧ x.1.name ≠ name) ∨ x.1 = { f with name := name } := by
  unfold moveF at hx
  split at hx
  · obtain ⟨y, hy, rfl⟩ := List.mem_map.1 hx
    unfold updF
    split
    · exact .inr rfl
    · rename_i c; exact .inl ⟨hy, fun e => c e.symm⟩
  · rename_i hg
    rcases List.mem_append.1 hx with k | k
    · exact .inl ⟨k, getF_none hg x k⟩
    · simp only [List.mem_singleton] at k; subst k; exact .inr rfl
theorem moveF_names (hn : (D.fs.map (·.1.name)).Nodup) (name : ByteArray) (f : Fil) : ((moveF D name f).fs.map (·.1.name)).Nodup := by
  unfold moveF
  split
  · show ((D.fs.map (updF name _)).map (·.1.name)).Nodup
    rw [List.map_map, List.map_congr_left (g := (·.1.name)) fun y _ => by
      simp only [Function.comp]; unfold updF; split
      · rename_i c; exact c
      · rfl]
    exact hn
  · rename_i hg
    show ((D.fs ++ [(({ f with name := name } : Fil), D.clock)]).map (·.1.name)).Nodup
    rw [List.map_append, List.nodup_append]
    refine ⟨hn, by simp, ?_⟩
    intro i hi j hj
    simp only [List.map_cons, List.map_nil, List.mem_singleton] at hj
    subst hj
    obtain ⟨x, hx, rfl⟩ := List.mem_map.1 hi
    exact getF_none hg x hx
theorem moveF_fbs (hn : (D.fs.map (·.1.name)).Nodup) (hf : (D.fs.map (·.1.fb)).Nodup) (name : ByteArray) (f : Fil) (hfb : ∀ x ∈ D.fs, x.1.fb ≠ f.fb) : ((moveF D name f).fs.map (·.1.fb)).Nodup := by
  unfold moveF
  split
  · show ((D.fs.map (updF name _)).map (·.1.fb)).Nodup
    unfold List.Nodup at *
    rw [List.pairwise_map, List.pairwise_map]
    rw [List.pairwise_map] at hn hf
    refine List.Pairwise.imp_of_mem ?_ (hn.and hf)
    rintro x y hx hy ⟨h1, h2⟩
    unfold updF
    split <;> split
    · rename_i c1 c2; exact absurd (c1.symm.trans c2) h1
    · exact fun e => hfb y hy e.symm
    · exact hfb x hx
    · exact h2
  · show ((D.fs ++ [(({ f with name := name } : Fil), D.clock)]).map (·.1.fb)).Nodup
    rw [List.map_append, List.nodup_append]
    refine ⟨hf, by simp, ?_⟩
    intro i hi j hj
    simp only [List.map_cons, List.map_nil, List.mem_singleton] at hj
    subst hj
    obtain ⟨x, hx, rfl⟩ := List.mem_map.1 hi
    exact hfb x hx
theorem moveF_ok (ho : DOk D) (name : ByteArray) (f : Fil) (hf : FOk f.data f.safe) (hl : D.fs.length < 16) : DOk (moveF D name f) := by
  refine ⟨fun x hx => ?_, ?_, ?_, ?_⟩
  · rcases moveF_mem hx with ⟨h, _⟩ | h
    · exact ho.files x h
    · rw [h]; exact hf
  · unfold moveF
    split
    · show (D.fs.map _).length ≤ 16
      rw [List.length_map]; omega
    · show (D.fs ++ _).length ≤ 16
      simp; omega
  · unfold moveF
    split
    · intro x hx
      obtain ⟨y, hy, rfl⟩ := List.mem_map.1 hx
      have : (updF name (fun _ => { f with name := name }) y).2 = y.2 := by unfold updF; split <;> rfl
      rw [this]; exact ho.clock y hy
    · intro x hx
      rcases List.mem_append.1 hx with k | k
      · have := ho.clock x k
        show x.2 < D.clock + 1
        omega
      · simp only [List.mem_singleton] at k; subst k
        show D.clock < D.clock + 1
        omega
  · unfold moveF
    split
    · show ((D.fs.map (updF name _)).map (·.2)).Nodup
      rw [List.map_map, List.map_congr_left (g := (·.2)) fun y _ => by simp only [Function.comp]; unfold updF; split <;> rfl]
      exact ho.stamps
    · show ((D.fs ++ [(({ f with name := name } : Fil), D.clock)]).map (·.2)).Nodup
      rw [List.map_append, List.nodup_append]
      refine ⟨ho.stamps, by simp, ?_⟩
      intro i hi j hj
      simp only [List.map_cons, List.map_nil, List.mem_singleton] at hj
      subst hj
      obtain ⟨x, hx, rfl⟩ := List.mem_map.1 hi
      have := ho.clock x hx
      omega
theorem moveF_at (h : DAt t n b D) (name : ByteArray) (f : Fil) (hb : n ≤ f.fb) (hc : t[f.fb]? = some (.cells true (cF f))) (h1 : f.fb ≠ b) (h2 : f.fb ≠ D.mb) (h3 : ∀ x ∈ D.fs, x.1.fb ≠ f.fb) :
    DAt (t.set D.mb (.map ((moveF D name f).fs.map entF) (moveF D name f).clock)) n b (moveF D name f) := by
  have ha := h.apart
  simp only [List.nodup_cons, List.mem_cons, not_or, List.mem_map, not_exists, not_and] at ha
  have hml := (List.getElem?_eq_some_iff.1 h.map).1
  refine ⟨h.low, ?_, by rw [moveF_mb]; exact h.mlow, by rw [moveF_mb]; exact key_set hml, fun x hx => ?_, ?_, moveF_names h.names name f⟩
  · rw [List.getElem?_set_ne (fun e => ha.1.1 e.symm), h.cells]
    unfold moveF; split <;> rfl
  · rcases moveF_mem hx with ⟨k, _⟩ | k
    · exact ⟨(h.file x k).1, by rw [List.getElem?_set_ne (fun e => ha.2.1 x k e.symm)]; exact (h.file x k).2⟩
    · rw [k]
      exact ⟨hb, by rw [List.getElem?_set_ne (fun e => h2 e.symm)]; exact hc⟩
  · rw [moveF_mb]
    simp only [List.nodup_cons, List.mem_cons, not_or, List.mem_map, not_exists, not_and]
    refine ⟨⟨ha.1.1, fun x hx => ?_⟩, fun x hx => ?_, moveF_fbs h.names ha.2.2 name f h3⟩
    · rcases moveF_mem hx with ⟨k, _⟩ | k
      · exact ha.1.2 x k
      · rw [k]; exact h1
    · rcases moveF_mem hx with ⟨k, _⟩ | k
      · exact ha.2.1 x k
      · rw [k]; exact h2
end
end Go.Ev

/-! The disk: Rename. -/
namespace Go.Ev
set_option linter.unusedVariables false
set_option linter.unusedSimpArgs false
open Go.Ev.So Go.Proofs

theorem chkV_head {D : Dsk} {a b : ByteArray} (h : chkV D [a, b] = 0) : chkV D [a] = 0 := by
  unfold chkV at *
  split at h
  · cases h
  · rename_i hd
    rw [if_neg hd]
    split at h
    · rename_i ha
      simp only [List.all_cons, Bool.and_eq_true] at ha
      rw [if_pos (by simp [ha.1])]
    · cases h
def renC (D : Dsk) (a b : ByteArray) : Int := if chkV D [a, b] ≠ 0 then chkV D [a, b] else match getF D a with
  | some _ => 0
  | none => 62
def renT (D : Dsk) (a b : ByteArray) : Dsk := match getF D a with
  | some f => moveF (dropF D a) b f
  | none => D
def renV (D : Dsk) (a b : ByteArray) : Dsk := if renC D a b ≠ 0 then D else if spendC D ≠ 0 then spendV D else renT (spendV D) a b
section
variable {t t' : St} {n b : Nat} {D D' : Dsk}
theorem DStep.of_ext {x : List Blk} (h : DAt t n b D) (k : DStep n b D D' (t ++ x) t') : DStep n b D D' t t' := by
  obtain ⟨h1, h2, h3, h4, h5⟩ := k
  rw [List.length_append] at h3
  refine ⟨h1, h2, by omega, fun i hi hn => ?_, fun i hi => ?_⟩
  · rw [h4 i (by rw [List.length_append]; omega) hn, List.getElem?_append_left hi]
  · rcases h5 i hi with k | k
    · exact .inl k
    · rw [List.length_append] at k; exact .inr (by omega)
theorem DStep.ren (h : DAt t n b D) (ho : DOk D) {a : ByteArray} (c : ByteArray) {f : Fil} (hg : getF D a = some f) :
    ∃ t1 t2, xtA t (.del .s) [.map D.mb, .str a] = some (.tup [], t1) ∧ ldA t1 none (.ptr b 0) = some (.map D.mb) ∧ xtA t1 (.mup .s) [.map D.mb, .str c, .ptr f.fb 0] = some (.undef, t2) ∧ DStep n b D (renT D a c) t t2 := by
  obtain ⟨k, hk, hfn⟩ := getF_mem hg
  have hs1 := DStep.drop h ho a
  have ha := h.apart
  simp only [List.nodup_cons, List.mem_cons, not_or, List.mem_map, not_exists, not_and] at ha
  refine ⟨_, _, del_at h hg, hs1.at_.ld.1, mup_any hs1.at_ c f, ?_⟩
  have hout : ∀ x ∈ (dropF D a).fs, x.1.fb ≠ f.fb := fun x hx e => by
    have := nodup_fb ha.2.2 (dropF_mem hx) hk e
    subst this
    have := (List.mem_filter.1 hx).2
    simp [hfn] at this
  have hlt : (dropF D a).fs.length < 16 := by
    have h1 : (dropF D a).fs.length < D.fs.length := by
      unfold dropF
      refine Nat.lt_of_le_of_ne (List.length_filter_le _ _) fun e => ?_
      have := List.length_filter_eq_length_iff.1 e _ hk
      simp [hfn] at this
    have := ho.few
    omega
  have hfa := (h.file _ hk).2
  have hmf : D.mb ≠ f.fb := fun e => ha.2.1 _ hk e.symm
  have h2 := moveF_at hs1.at_ c f (h.file _ hk).1 (by rw [List.getElem?_set_ne hmf]; exact hfa) (ha.1.2 _ hk) (ha.2.1 _ hk) hout
  have hml := (List.getElem?_eq_some_iff.1 h.map).1
  unfold renT
  rw [hg]
  refine ⟨h2, moveF_ok hs1.ok c f (ho.files _ hk) hlt, by simp, fun i hi hn => ?_, fun i hi => ?_⟩
  · have hne : D.mb ≠ i := fun e => hn (.inr (.inl e.symm))
    show ((t.set D.mb _).set D.mb _)[i]? = _
    rw [List.getElem?_set_ne hne, List.getElem?_set_ne hne]
  · rcases hi with rfl | rfl | ⟨x, hx, rfl⟩
    · exact .inl (.inl rfl)
    · exact .inl (.inr (.inl (moveF_mb c f)))
    · rcases moveF_mem hx with ⟨q, _⟩ | q
      · exact .inl (.inr (.inr ⟨x, dropF_mem q, rfl⟩))
      · exact .inl (.inr (.inr ⟨_, hk, by rw [q]⟩))
end
set_option maxHeartbeats 2000000 in
theorem dren_g (t : St) (n b : Nat) (D : Dsk) (a c : ByteArray) (hD : DAt t n b D) (hO : DOk D) (hs : a.size < 140737488355328) (hs2 : c.size < 140737488355328) :
    Run T f_files_Disk_Rename [.ptr b 0, .str a, .str c] t fun v t' => v = .int .i64 (outC D (renC D a c)) ∧ DStep n b D (renV D a c) t t' := by
  refine run_body (F := r_files_Disk_Rename) (has rfl) (by simp [r_files_Disk_Rename]) ?_
  have x1 : Ext t (t ++ [.cells true [.str a, .str c]]) := ⟨_, rfl⟩
  have hD1 := hD.ext x1
  have hc := check_r (T := T) (t ++ [.cells true [.str a, .str c]]) n b D (.sl t.length 0 1 2 (some 2)) [a, c] hD1 (rd_lit (l := [a, c]) (by simp [cS]) cS_len rfl) (by simp) (by intro y hy; simp at hy; rcases hy with rfl | rfl; exact hs; exact hs2)
  have same : ∀ (v : AV) (e : Int), renC D a c = e → e ≠ 0 → v = .int .i64 e → (v = .int .i64 (outC D (renC D a c)) ∧ DStep n b D (renV D a c) t (t ++ [.cells true [.str a, .str c]])) := by
    rintro v e h1 h2 rfl
    exact ⟨by unfold outC; rw [h1, if_pos h2], by unfold renV; rw [if_pos (by rw [h1]; exact h2)]; exact DStep.of_ext hD (.refl hD1 hO)⟩
  have hval : renC D a c = if chkV D [a, c] ≠ 0 then chkV D [a, c] else match getF D a with
    | some _ => 0
    | none => 62 := rfl
  have hvD : renC D a c = 0 → renV D a c = if spendC D ≠ 0 then spendV D else renT (spendV D) a c := fun h => by unfold renV; rw [if_neg (by rw [h]; simp)]
  have hvC : renC D a c = 0 → outC D (renC D a c) = spendC D := fun h => by unfold outC; rw [if_neg (by rw [h]; simp)]
  have hhd : chkV D [a, c] = 0 → chkV D [a] = 0 := chkV_head
  have hf := find_r (T := T) _ n b D a hD1 hs
  unfold findV at hf
  simp only [r_files_Disk_Rename, XX, CC, YY, Nat.reduceAdd, Nat.reduceSub, Nat.reduceLeDiff, Nat.reduceLT, Nat.reduceEqDiff, reduceIte, ↓reduceIte, Nat.reduceBEq]
  refine hc.use ?_
  generalize chkV D [a, c] = e at *
  generalize outC D (renC D a c) = O at *
  generalize renC D a c = C at *
  generalize renV D a c = D' at *
  have em : e = 0 ∨ ¬ e = 0 := Classical.em _
  rcases em with c0 | c0
  · subst c0
    rw [if_neg (by simp)] at hval
    rw [hhd rfl, if_neg (by simp)] at hf
    simp only [XX, CC, YY, Nat.reduceAdd, Nat.reduceSub, Nat.reduceLeDiff, Nat.reduceLT, Nat.reduceEqDiff, reduceIte, ↓reduceIte, Nat.reduceBEq, show ((0 : Int) == 0) = true from rfl, Bool.not_true]
    refine hf.use ?_
    cases hg : getF D a with
    | none =>
      rw [hg] at hval
      simp only [XX, CC, YY, Nat.reduceAdd, Nat.reduceSub, Nat.reduceLeDiff, Nat.reduceLT, Nat.reduceEqDiff, reduceIte, ↓reduceIte, Nat.reduceBEq, show ((62 : Int) == 0) = false from rfl, Bool.not_false]
      exact .inl (same _ 62 hval (by decide) rfl)
    | some f =>
      rw [hg] at hval
      simp only at hval
      simp only [XX, CC, YY, Nat.reduceAdd, Nat.reduceSub, Nat.reduceLeDiff, Nat.reduceLT, Nat.reduceEqDiff, reduceIte, ↓reduceIte, Nat.reduceBEq, show ((0 : Int) == 0) = true from rfl, Bool.not_true]
      refine Run.mono _ _ _ _ _ ?_ (spend_g _ n b D hD1 hO)
      rintro v t' ⟨rfl, hst⟩
      rcases spendC_val D with ⟨h1, h2⟩ | ⟨h1, h2⟩
      · rw [h2] at hst
        rw [h1]
        have hgs : getF (spendD D) a = some f := by rw [getF_spend]; exact hg
        have l0 := hst.at_.ld.1
        obtain ⟨t1, t2, k1, k2, k3, k4⟩ := DStep.ren hst.at_ hst.ok c hgs
        simp only [XX, CC, YY, Nat.reduceAdd, Nat.reduceSub, Nat.reduceLeDiff, Nat.reduceLT, Nat.reduceEqDiff, reduceIte, ↓reduceIte, Nat.reduceBEq, show ((0 : Int) == 0) = true from rfl, Bool.not_true, l0, k1, k2, k3]
        refine .inl ⟨by rw [hvC hval, h1], ?_⟩
        rw [hvD hval, h1, if_neg (by simp), h2]
        exact DStep.of_ext hD (hst.trans k4)
      · rw [h1]
        simp only [XX, CC, YY, Nat.reduceAdd, Nat.reduceSub, Nat.reduceLeDiff, Nat.reduceLT, Nat.reduceEqDiff, reduceIte, ↓reduceIte, Nat.reduceBEq, show ((60 : Int) == 0) = false from rfl, Bool.not_false]
        refine .inl ⟨by rw [hvC hval, h1], ?_⟩
        rw [hvD hval, h1, if_pos (by decide)]
        exact DStep.of_ext hD hst
  · have c' : (e == 0) = false := by simp [c0]
    rw [if_pos c0] at hval
    simp only [XX, CC, YY, Nat.reduceAdd, Nat.reduceSub, Nat.reduceLeDiff, Nat.reduceLT, Nat.reduceEqDiff, reduceIte, ↓reduceIte, Nat.reduceBEq, c', Bool.not_false]
    exact .inl (same _ e hval c0 rfl)
end Go.Ev

/-! What a disk holds, as a list; what each operation makes of it. -/
namespace Go.Ev
set_option linter.unusedVariables false
set_option linter.unusedSimpArgs false
open Go.Ev.So Go.Proofs

/-- A file: its name, its bytes, how many are safe. -/
abbrev Tri := ByteArray × ByteArray × Int
def tri (f : Fil × Nat) : Tri := (f.1.name, f.1.data, f.1.safe)
def triF (f : Fil) : Tri := (f.name, f.data, f.safe)
/-- what a disk holds -/
def con (D : Dsk) : List Tri := D.fs.map tri
def getK (C : List Tri) (a : ByteArray) : Option Tri := C.find? fun f => decide (a = f.1)
theorem getK_con (D : Dsk) (a : ByteArray) : getK (con D) a = (getF D a).map triF := by
  unfold getK con getF
  rw [List.find?_map, Option.map_map]
  rfl
def chkK (dn : Bool) (ns : List ByteArray) : Int := if dn then 60 else if ns.all nameB then 0 else 61
def appK (dn : Bool) (C : List Tri) (a x : ByteArray) : Int := if chkK dn [a] ≠ 0 then chkK dn [a] else match getK C a with
  | some f => if (x.size : Int) > 1048576 - f.2.1.size then 63 else 0
  | none => if C.length ≥ 16 then 63 else if (x.size : Int) > 1048576 then 63 else 0
def hasK (dn : Bool) (C : List Tri) (ns : List ByteArray) (a : ByteArray) : Int := if chkK dn ns ≠ 0 then chkK dn ns else match getK C a with
  | some _ => 0
  | none => 62
def cutK (dn : Bool) (C : List Tri) (a : ByteArray) (m : Int) : Int := if chkK dn [a] ≠ 0 then chkK dn [a] else match getK C a with
  | some f => if m < 0 ∨ m > f.2.1.size then 1 else 0
  | none => 62
def updK (a : ByteArray) (g : Tri → Tri) (f : Tri) : Tri := if a = f.1 then g f else f
def appL (C : List Tri) (a x : ByteArray) : List Tri := match getK C a with
  | some _ => C.map (updK a fun f => (f.1, f.2.1 ++ x, f.2.2))
  | none => C ++ [(a, bts [] ++ x, 0)]
def loseK (keep : Int) (f : Tri) : Tri := (f.1, f.2.1.extract 0 (keptF keep f.2.1 f.2.2).toNat, keptF keep f.2.1 f.2.2)
def dropK (C : List Tri) (a : ByteArray) : List Tri := C.filter fun f => !decide (a = f.1)
def putL (C : List Tri) (c : ByteArray) (f : Tri) : List Tri := match getK C c with
  | some _ => C.map (updK c fun _ => (c, f.2.1, f.2.2))
  | none => C ++ [(c, f.2.1, f.2.2)]
def renL (C : List Tri) (a c : ByteArray) : List Tri := match getK C a with
  | some f => putL (dropK C a) c f
  | none => C
theorem con_len (D : Dsk) : (con D).length = D.fs.length := List.length_map ..
section
variable {D : Dsk}
theorem appK_con (a x : ByteArray) : appC D a x = appK D.down (con D) a x := by
  unfold appC appK
  rw [getK_con, con_len]
  cases getF D a <;> rfl
theorem syncK_con (a : ByteArray) : syncC D a = hasK D.down (con D) [a] a := by
  unfold syncC hasK
  rw [getK_con]
  cases getF D a <;> rfl
theorem delK_con (a : ByteArray) : delC D a = hasK D.down (con D) [a] a := by
  unfold delC hasK
  rw [getK_con]
  cases getF D a <;> rfl
theorem renK_con (a c : ByteArray) : renC D a c = hasK D.down (con D) [a, c] a := by
  unfold renC hasK
  rw [getK_con]
  cases getF D a <;> rfl
theorem cutK_con (a : ByteArray) (m : Int) : cutC D a m = cutK D.down (con D) a m := by
  unfold cutC cutK
  rw [getK_con]
  cases getF D a <;> rfl
theorem con_lose (keep : Int) : con (loseD D keep) = (con D).map (loseK keep) := by
  show (D.fs.map fun f => (loseF keep f.1, f.2)).map tri = (D.fs.map tri).map _
  rw [List.map_map, List.map_map]; rfl
theorem con_set (a : ByteArray) (g : Fil → Fil) (g' : Tri → Tri) (h : ∀ f, triF (g f) = g' (triF f)) : con (setF D a g) = (con D).map (updK a g') := by
  show (D.fs.map (updF a g)).map tri = (D.fs.map tri).map _
  rw [List.map_map, List.map_map]
  apply List.map_congr_left
  rintro ⟨f, k⟩ _
  simp only [Function.comp, updF, updK]
  by_cases c : a = f.name
  · rw [if_pos c, if_pos (show a = (tri (f, k)).1 from c)]; exact h f
  · rw [if_neg c, if_neg (show ¬ a = (tri (f, k)).1 from c)]
theorem con_app (a x : ByteArray) (fb : Nat) : con (appM D a x fb) = appL (con D) a x := by
  unfold appM appL
  rw [getK_con]
  cases getF D a with
  | some f => exact con_set a _ _ fun _ => rfl
  | none =>
    show (D.fs ++ [((⟨a, bts [] ++ x, 0, fb⟩ : Fil), D.clock)]).map tri = _
    rw [List.map_append]; rfl
theorem con_drop (a : ByteArray) : con (dropF D a) = dropK (con D) a := by
  show (D.fs.filter _).map tri = (D.fs.map tri).filter _
  rw [List.filter_map]; rfl
theorem con_move (c : ByteArray) (f : Fil) : con (moveF D c f) = putL (con D) c (triF f) := by
  unfold moveF putL
  rw [getK_con]
  cases getF D c with
  | some g => exact con_set c _ _ fun _ => rfl
  | none =>
    show (D.fs ++ [(({ f with name := c } : Fil), D.clock)]).map tri = _
    rw [List.map_append]; rfl
theorem con_ren (a c : ByteArray) : con (renT D a c) = renL (con D) a c := by
  unfold renT renL
  rw [getK_con]
  cases getF D a with
  | some f =>
    show con (moveF (dropF D a) c f) = putL (dropK (con D) a) c (triF f)
    rw [con_move, con_drop]
  | none => rfl
end

theorem kS_inj {a b : ByteArray} (ha : a.size ≤ 32) (hb : b.size ≤ 32) (h : kS a = kS b) : a = b := by
  have h1 : a.toList.length ≤ 32 := nm_len ⟨a, ha⟩
  have h2 : b.toList.length ≤ 32 := nm_len ⟨b, hb⟩
  have e := keyN_inj 32 _ _ h1 h2 h
  have e2 : a.data.toList = b.data.toList := by rw [ByteArray.toList_eq, ByteArray.toList_eq] at e; exact e
  cases a; cases b
  simp only at e2
  congr
  exact Array.ext' e2
/-! ### any operation -/
/-- An operation: 1 Append, 2 Sync, 3 Cut, 4 Rename, any other Delete. -/
def opC (D : Dsk) (k : Int) (a x : ByteArray) (m : Int) : Int := if k = 1 then appC D a x else if k = 2 then syncC D a else if k = 3 then cutC D a m else if k = 4 then renC D a x else delC D a
def opV (D : Dsk) (k : Int) (a x : ByteArray) (m : Int) (fb : Nat) : Dsk := if k = 1 then appV D a x fb else if k = 2 then syncV D a else if k = 3 then cutV' D a m else if k = 4 then renV D a x else delV D a
def opK (dn : Bool) (C : List Tri) (k : Int) (a x : ByteArray) (m : Int) : Int := if k = 1 then appK dn C a x else if k = 2 then hasK dn C [a] a else if k = 3 then cutK dn C a m else if k = 4 then hasK dn C [a, x] a else hasK dn C [a] a
def opL (C : List Tri) (k : Int) (a x : ByteArray) (m : Int) : List Tri := if k = 1 then appL C a x else if k = 2 then C.map (updK a fun f => (f.1, f.2.1, f.2.1.size)) else if k = 3 then C.map (updK a fun f => (f.1, f.2.1.extract 0 m.toNat, m)) else if k = 4 then renL C a x else dropK C a
/-- what lies there ahead of a loss of power at the operation -/
def preL (C : List Tri) (k : Int) (a x : ByteArray) : List Tri := if k = 1 then appL C a x else C
theorem opK_con (D : Dsk) (k : Int) (a x : ByteArray) (m : Int) : opC D k a x m = opK D.down (con D) k a x m := by
  unfold opC opK
  rw [appK_con, syncK_con, cutK_con, renK_con, delK_con]
/-- A disk told by what it holds and its fields. -/
structure Vw (D : Dsk) (dn ar : Bool) (left keep steps : Int) (C : List Tri) : Prop where
  down : D.down = dn
  armed : D.armed = ar
  left : D.left = left
  keep : D.keep = keep
  steps : D.steps = steps
  con : con D = C
theorem Vw.of (D : Dsk) : Vw D D.down D.armed D.left D.keep D.steps (Go.Ev.con D) := ⟨rfl, rfl, rfl, rfl, rfl, rfl⟩
theorem op_bad {D : Dsk} {k : Int} {a x : ByteArray} {m : Int} (h : opC D k a x m ≠ 0) (fb : Nat) : opV D k a x m fb = D ∧ outC D (opC D k a x m) = opC D k a x m := by
  refine ⟨?_, by unfold outC; rw [if_pos h]⟩
  unfold opC at h
  unfold opV
  split
  · rename_i c; rw [if_pos c] at h; unfold appV; rw [if_pos h]
  rename_i c; rw [if_neg c] at h
  split
  · rename_i c; rw [if_pos c] at h; unfold syncV; rw [if_pos h]
  rename_i c; rw [if_neg c] at h
  split
  · rename_i c; rw [if_pos c] at h; unfold cutV'; rw [if_pos h]
  rename_i c; rw [if_neg c] at h
  split
  · rename_i c; rw [if_pos c] at h; unfold renV; rw [if_pos h]
  rename_i c; rw [if_neg c] at h
  unfold delV; rw [if_pos h]
theorem spendC_now {D : Dsk} (h : ¬ gone D) : spendC D = 0 ∧ spendV D = spendD D := ⟨by unfold spendC; rw [if_neg h], by unfold spendV; rw [if_neg h]⟩
theorem spendC_gone {D : Dsk} (h : gone D) : spendC D = 60 ∧ spendV D = loseD D D.keep := ⟨by unfold spendC; rw [if_pos h], by unfold spendV; rw [if_pos h]⟩
theorem appM_same (D : Dsk) (a x : ByteArray) (fb : Nat) : (appM D a x fb).down = D.down ∧ (appM D a x fb).armed = D.armed ∧ (appM D a x fb).left = D.left ∧ (appM D a x fb).keep = D.keep ∧ (appM D a x fb).steps = D.steps := by
  unfold appM
  cases getF D a <;> exact ⟨rfl, rfl, rfl, rfl, rfl⟩
theorem appM_gone (D : Dsk) (a x : ByteArray) (fb : Nat) : gone (appM D a x fb) ↔ gone D := by
  obtain ⟨_, h1, h2, _⟩ := appM_same D a x fb
  unfold gone; rw [h1, h2]
theorem op_gone {D : Dsk} {k : Int} {a x : ByteArray} {m : Int} (h : opC D k a x m = 0) (hg : gone D) (fb : Nat) : outC D (opC D k a x m) = 60 ∧ Vw (opV D k a x m fb) true false D.left D.keep D.steps ((preL (con D) k a x).map (loseK D.keep)) := by
  obtain ⟨g1, g2⟩ := spendC_gone hg
  have hne : spendC D ≠ 0 := by rw [g1]; decide
  refine ⟨by unfold outC; rw [h]; simp [g1], ?_⟩
  unfold opC at h
  unfold opV preL
  split
  · rename_i c; rw [if_pos c] at h
    unfold appV
    rw [if_neg (by rw [h]; simp)]
    have hg2 := (appM_gone D a x fb).2 hg
    obtain ⟨m1, m2, m3, m4, m5⟩ := appM_same D a x fb
    rw [(spendC_gone hg2).2]
    exact ⟨rfl, rfl, m3, m4, m5, by rw [con_lose, con_app, m4]⟩
  rename_i c; rw [if_neg c] at h
  have hD : Vw (spendV D) true false D.left D.keep D.steps ((con D).map (loseK D.keep)) := by
    rw [g2]; exact ⟨rfl, rfl, rfl, rfl, rfl, con_lose _⟩
  split
  · rename_i c; rw [if_pos c] at h; unfold syncV; rw [if_neg (by rw [h]; simp), if_pos hne]; exact hD
  rename_i c; rw [if_neg c] at h
  split
  · rename_i c; rw [if_pos c] at h; unfold cutV'; rw [if_neg (by rw [h]; simp), if_pos hne]; exact hD
  rename_i c; rw [if_neg c] at h
  split
  · rename_i c; rw [if_pos c] at h; unfold renV; rw [if_neg (by rw [h]; simp), if_pos hne]; exact hD
  rename_i c; rw [if_neg c] at h
  unfold delV; rw [if_neg (by rw [h]; simp), if_pos hne]; exact hD
theorem renT_same (D : Dsk) (a c : ByteArray) : (renT D a c).down = D.down ∧ (renT D a c).armed = D.armed ∧ (renT D a c).left = D.left ∧ (renT D a c).keep = D.keep ∧ (renT D a c).steps = D.steps := by
  unfold renT
  cases getF D a with
  | none => exact ⟨rfl, rfl, rfl, rfl, rfl⟩
  | some f =>
    show (moveF (dropF D a) c f).down = _ ∧ _
    unfold moveF
    split <;> exact ⟨rfl, rfl, rfl, rfl, rfl⟩
theorem op_done {D : Dsk} {k : Int} {a x : ByteArray} {m : Int} (h : opC D k a x m = 0) (hg : ¬ gone D) (fb : Nat) : outC D (opC D k a x m) = 0 ∧ Vw (opV D k a x m fb) D.down D.armed (IntKind.i64.wrap (D.left - 1)) D.keep (IntKind.i64.wrap (D.steps + 1)) (opL (con D) k a x m) := by
  obtain ⟨g1, g2⟩ := spendC_now hg
  have hne : ¬ spendC D ≠ 0 := by rw [g1]; simp
  refine ⟨by unfold outC; rw [h]; simp [g1], ?_⟩
  unfold opC at h
  unfold opV opL
  split
  · rename_i c; rw [if_pos c] at h
    unfold appV
    rw [if_neg (by rw [h]; simp)]
    have hg2 := fun z => hg ((appM_gone D a x fb).1 z)
    obtain ⟨m1, m2, m3, m4, m5⟩ := appM_same D a x fb
    rw [(spendC_now hg2).2]
    exact ⟨m1, m2, by show IntKind.i64.wrap ((appM D a x fb).left - 1) = _; rw [m3], m4, by show IntKind.i64.wrap ((appM D a x fb).steps + 1) = _; rw [m5], con_app _ _ _⟩
  rename_i c; rw [if_neg c] at h
  split
  · rename_i c; rw [if_pos c] at h; unfold syncV; rw [if_neg (by rw [h]; simp), if_neg hne, g2]
    exact ⟨rfl, rfl, rfl, rfl, rfl, con_set (D := spendD D) a _ _ fun _ => rfl⟩
  rename_i c; rw [if_neg c] at h
  split
  · rename_i c; rw [if_pos c] at h; unfold cutV'; rw [if_neg (by rw [h]; simp), if_neg hne, g2]
    exact ⟨rfl, rfl, rfl, rfl, rfl, con_set (D := spendD D) a _ _ fun _ => rfl⟩
  rename_i c; rw [if_neg c] at h
  split
  · rename_i c; rw [if_pos c] at h; unfold renV; rw [if_neg (by rw [h]; simp), if_neg hne, g2]
    obtain ⟨m1, m2, m3, m4, m5⟩ := renT_same (spendD D) a x
    exact ⟨m1, m2, m3, m4, m5, con_ren (D := spendD D) a x⟩
  rename_i c; rw [if_neg c] at h
  unfold delV; rw [if_neg (by rw [h]; simp), if_neg hne, g2]
  exact ⟨rfl, rfl, rfl, rfl, rfl, con_drop (D := spendD D) a⟩
end Go.Ev

/-! The law's comparison of names. -/
namespace Go.Ev
set_option linter.unusedVariables false
set_option linter.unusedSimpArgs false
open Go.Ev.So Go.Proofs
variable {T : Nat → Option RF} [Has T]

theorem names06_r (s : St) (v1 v2 : AV) (a b : List ByteArray) (ha : a.length < 1000000000) (hb : b.length < 1000000000) (h1 : Rd 1 cS s v1 a) (h2 : Rd 1 cS s v2 b) : RunD T f_w06_names [v1, v2] s (.bool (decide (a = b))) s := by
  refine run_body (F := r_w06_names) (has rfl) (by simp [r_w06_names]) ?_
  by_cases hab : a.length = b.length
  · have e0 : ((a.length : Int) == (b.length : Int)) = true := by simp [hab]
    simp only [r_w06_names, XX, CC, YY, Nat.reduceAdd, Nat.reduceSub, Nat.reduceLeDiff, Nat.reduceLT, Nat.reduceEqDiff, reduceIte, ↓reduceIte, Nat.reduceBEq, h1.len, h2.len, e0, Bool.not_true]
    refine awp_rounds (fun d e t => t = s ∧ ∃ i : Nat, i + d = a.length ∧ e.get 0 = v1 ∧ e.get 1 = v2 ∧ e.get 5 = .int .i64 i ∧ a.take i = b.take i) a.length ?_ ?_
    · refine ⟨rfl, 0, by omega, ?_, ?_, ?_, rfl⟩ <;> (try simp only [XX, CC, YY, Nat.reduceAdd, Nat.reduceSub, Nat.reduceLeDiff, Nat.reduceLT, Nat.reduceEqDiff, reduceIte, ↓reduceIte, Nat.reduceBEq, h1.len, h2.len]) <;> rfl
    rintro J d e t hJ ⟨rfl, i, hi, g0, g1, g5, he⟩
    simp only [XX, CC, YY, Nat.reduceAdd, Nat.reduceSub, Nat.reduceLeDiff, Nat.reduceLT, Nat.reduceEqDiff, reduceIte, ↓reduceIte, Nat.reduceBEq, g0, g1, g5, h1.len]
    by_cases h : i < a.length
    · have hp : a[i]? = some (a[i]'h) := List.getElem?_eq_getElem _
      have hq : b[i]? = some (b[i]'(by omega)) := List.getElem?_eq_getElem _
      generalize a[i]'h = p at hp
      generalize b[i]'(by omega) = q at hq
      obtain ⟨b1, o1, j1, j2, _⟩ := rdS h1 hp
      obtain ⟨b2, o2, k1, k2, _⟩ := rdS h2 hq
      have em : p = q ∨ ¬ p = q := Classical.em _
      rcases em with c | c
      · simp only [dec_t (show (i : Int) < a.length by omega), XX, CC, YY, Nat.reduceAdd, Nat.reduceSub, Nat.reduceLeDiff, Nat.reduceLT, Nat.reduceEqDiff, reduceIte, ↓reduceIte, Nat.reduceBEq]
        refine drw_in [] rfl ?_
        simp only [List.append_nil, DD, CC, YY, Nat.reduceAdd, Nat.reduceSub, Nat.reduceLeDiff, Nat.reduceLT, Nat.reduceEqDiff, reduceIte, ↓reduceIte, Nat.reduceBEq, g0, g1, g5, j1, j2, k1, k2, eq_S, dec_t c, Bool.not_true]
        refine hJ (d - 1) _ _ (by omega) ⟨rfl, i + 1, by omega, ?_, ?_, ?_, by rw [take_snocS hp, take_snocS hq, he, c]⟩ <;> (try simp only [XX, CC, YY, Nat.reduceAdd, Nat.reduceSub, Nat.reduceLeDiff, Nat.reduceLT, Nat.reduceEqDiff, reduceIte, ↓reduceIte, Nat.reduceBEq, g0, g1, g5])
        rw [w64_nat (by omega)]
      · have hne : ¬ a = b := fun e => by rw [e] at hp; rw [hp] at hq; exact c (by simpa using hq)
        simp only [dec_t (show (i : Int) < a.length by omega), XX, CC, YY, Nat.reduceAdd, Nat.reduceSub, Nat.reduceLeDiff, Nat.reduceLT, Nat.reduceEqDiff, reduceIte, ↓reduceIte, Nat.reduceBEq]
        refine drw_in [] rfl ?_
        simp only [List.append_nil, DD, CC, YY, Nat.reduceAdd, Nat.reduceSub, Nat.reduceLeDiff, Nat.reduceLT, Nat.reduceEqDiff, reduceIte, ↓reduceIte, Nat.reduceBEq, g0, g1, g5, j1, j2, k1, k2, eq_S, dec_f c, Bool.not_false]
        exact .inl ⟨by rw [dec_f hne], rfl⟩
    · rw [List.take_of_length_le (by omega), List.take_of_length_le (by omega)] at he
      simp only [dec_f (show ¬ (i : Int) < a.length by omega), XX, CC, YY, Nat.reduceAdd, Nat.reduceSub, Nat.reduceLeDiff, Nat.reduceLT, Nat.reduceEqDiff, reduceIte, ↓reduceIte, Nat.reduceBEq]
      exact .inl ⟨by rw [dec_t he], rfl⟩
  · have e0 : ((a.length : Int) == (b.length : Int)) = false := by simp; omega
    simp only [r_w06_names, XX, CC, YY, Nat.reduceAdd, Nat.reduceSub, Nat.reduceLeDiff, Nat.reduceLT, Nat.reduceEqDiff, reduceIte, ↓reduceIte, Nat.reduceBEq, h1.len, h2.len, e0, Bool.not_false]
    exact .inl ⟨by rw [dec_f (fun e => hab (by rw [e]))], rfl⟩
end Go.Ev

/-! The reference's disk: New, place, check, Read, Down, Steps. -/
namespace Go.Ev
set_option linter.unusedVariables false
set_option linter.unusedSimpArgs false
open Go.Ev.So Go.Proofs
variable {T : Nat → Option RF} [Has T]

abbrev RFil := ByteArray × ByteArray × Int
def cT (f : RFil) : List AV := [.str f.1, .str f.2.1, .int .i64 f.2.2]
theorem cT_len (f : RFil) : (cT f).length = 3 := id rfl
theorem cT_cell (f : RFil) : (cT f).all AV.cell = true := id rfl
/-- The reference's disk: its slice, the files that it reads as, whether it is down, with what it is armed, its steps. -/
structure Rsk where
  v : AV
  l : List RFil
  down : Bool
  left : Int
  keep : Int
  n : Int
def cE (R : Rsk) : List AV := [R.v, .bool R.down, .int .i64 R.left, .int .i64 R.keep, .int .i64 R.n]
theorem rld {t : St} {b : Nat} {R : Rsk} (h : t[b]? = some (.cells true (cE R))) : ldA t none (.ptr b 0) = some R.v ∧ ldA t none (.ptr b 1) = some (.bool R.down) ∧ ldA t none (.ptr b 2) = some (.int .i64 R.left) ∧
    ldA t none (.ptr b 3) = some (.int .i64 R.keep) ∧ ldA t none (.ptr b 4) = some (.int .i64 R.n) := by
  refine ⟨?_, ?_, ?_, ?_, ?_⟩ <;> rw [ld_own h] <;> rfl
theorem rdT {t : St} {v : AV} {l : List RFil} (hv : Rd 3 cT t v l) {i : Nat} {q : RFil} (hi : l[i]? = some q) :
    ∃ b o, (∀ k : IntKind, ixaA 3 v (.int k (i : Int)) = some (.ptr b o)) ∧ ldA t none (.ptr b o) = some (.str q.1) ∧ ldA t none (.ptr b (o + 1)) = some (.str q.2.1) ∧ ldA t none (.ptr b (o + 2)) = some (.int .i64 q.2.2) := by
  obtain ⟨b, o, h1, h2⟩ := hv.get cT_len hi
  exact ⟨b, o, h1, h2 none 0 (.str q.1) rfl, h2 none 1 (.str q.2.1) rfl, h2 none 2 (.int .i64 q.2.2) rfl⟩
/-- where a file stands, or -1 -/
def idxR (name : ByteArray) : List RFil → Nat → Int
  | [], _ => -1
  | f :: l, i => if f.1 = name then i else idxR name l (i + 1)
set_option maxHeartbeats 1000000 in
theorem rplace_r (t : St) (b : Nat) (R : Rsk) (name : ByteArray) (h : t[b]? = some (.cells true (cE R))) (hv : Rd 3 cT t R.v R.l) (hl : R.l.length < 1000000) : RunD T f_r06_Disk_place [.ptr b 0, .str name] t (.int .i64 (idxR name R.l 0)) t := by
  refine run_body (F := r_r06_Disk_place) (has rfl) (by simp [r_r06_Disk_place]) ?_
  have l0 := (rld h).1
  simp only [r_r06_Disk_place, XX, CC, YY, Nat.reduceAdd, Nat.reduceSub, Nat.reduceLeDiff, Nat.reduceLT, Nat.reduceEqDiff, reduceIte, ↓reduceIte, Nat.reduceBEq]
  refine awp_rounds (fun d e t' => t' = t ∧ ∃ i : Nat, i + d = R.l.length ∧ e.get 0 = .ptr b 0 ∧ e.get 1 = .str name ∧ e.get 5 = .int .i64 i ∧ idxR name R.l 0 = idxR name (R.l.drop i) i) R.l.length ?_ ?_
  · refine ⟨rfl, 0, by omega, ?_, ?_, ?_, rfl⟩ <;> (try simp only [XX, CC, YY, Nat.reduceAdd, Nat.reduceSub, Nat.reduceLeDiff, Nat.reduceLT, Nat.reduceEqDiff, reduceIte, ↓reduceIte, Nat.reduceBEq]) <;> rfl
  rintro J d e t' hJ ⟨ht, i, hi, g0, g1, g5, he⟩
  rw [ht]
  simp only [XX, CC, YY, Nat.reduceAdd, Nat.reduceSub, Nat.reduceLeDiff, Nat.reduceLT, Nat.reduceEqDiff, reduceIte, ↓reduceIte, Nat.reduceBEq, g0, g1, g5, l0, hv.len]
  by_cases c : i < R.l.length
  · have hq : R.l[i]? = some (R.l[i]'c) := List.getElem?_eq_getElem _
    have hd' : R.l.drop i = R.l[i]'c :: R.l.drop (i + 1) := List.drop_eq_getElem_cons _
    generalize R.l[i]'c = q at hq hd'
    rw [hd'] at he
    obtain ⟨b1, o1, j1, j2, _⟩ := rdT hv hq
    have hw1 : IntKind.i64.wrap ((i : Int) + 1) = ((i + 1 : Nat) : Int) := by rw [w64_in (by omega) (by omega)]; omega
    have em : q.1 = name ∨ ¬ q.1 = name := Classical.em _
    rcases em with cq | cq
    · have he' : idxR name R.l 0 = i := by rw [he]; exact if_pos cq
      simp only [dec_t (show (i : Int) < R.l.length by omega), XX, CC, YY, Nat.reduceAdd, Nat.reduceSub, Nat.reduceLeDiff, Nat.reduceLT, Nat.reduceEqDiff, reduceIte, ↓reduceIte, Nat.reduceBEq, g0, g1, g5, l0, j1, Nat.add_zero, j2, eq_S, dec_t cq]
      exact .inl ⟨by rw [he'], rfl⟩
    · have he' : idxR name R.l 0 = idxR name (R.l.drop (i + 1)) (i + 1) := by rw [he]; exact if_neg cq
      simp only [dec_t (show (i : Int) < R.l.length by omega), XX, CC, YY, Nat.reduceAdd, Nat.reduceSub, Nat.reduceLeDiff, Nat.reduceLT, Nat.reduceEqDiff, reduceIte, ↓reduceIte, Nat.reduceBEq, g0, g1, g5, l0, j1, Nat.add_zero, j2, eq_S, dec_f cq, hw1]
      refine hJ (d - 1) _ _ (by omega) ⟨rfl, i + 1, by omega, ?_, ?_, ?_, he'⟩ <;> (try simp only [XX, CC, YY, Nat.reduceAdd, Nat.reduceSub, Nat.reduceLeDiff, Nat.reduceLT, Nat.reduceEqDiff, reduceIte, ↓reduceIte, Nat.reduceBEq, g0, g1, g5])
  · rw [List.drop_of_length_le (by omega)] at he
    simp only [dec_f (show ¬ (i : Int) < R.l.length by omega), XX, CC, YY, Nat.reduceAdd, Nat.reduceSub, Nat.reduceLeDiff, Nat.reduceLT, Nat.reduceEqDiff, reduceIte, ↓reduceIte, Nat.reduceBEq]
    exact .inl ⟨by rw [he]; rfl, rfl⟩
def rchkV (R : Rsk) (name : ByteArray) : Int := if R.down then 60 else if nameB name then 0 else 61
theorem rcheck_r (t : St) (b : Nat) (R : Rsk) (name : ByteArray) (h : t[b]? = some (.cells true (cE R))) (hs : name.size < 140737488355328) : RunD T f_r06_Disk_check [.ptr b 0, .str name] t (.int .i64 (rchkV R name)) t := by
  refine run_body (F := r_r06_Disk_check) (has rfl) (by simp [r_r06_Disk_check]) ?_
  have l1 := (rld h).2.1
  unfold rchkV
  cases c : R.down with
  | true =>
    rw [c] at l1
    simp only [r_r06_Disk_check, XX, CC, YY, Nat.reduceAdd, Nat.reduceSub, Nat.reduceLeDiff, Nat.reduceLT, Nat.reduceEqDiff, reduceIte, ↓reduceIte, Nat.reduceBEq, eqp_f, l1]
    exact .inl ⟨rfl, rfl⟩
  | false =>
    rw [c] at l1
    simp only [r_r06_Disk_check, XX, CC, YY, Nat.reduceAdd, Nat.reduceSub, Nat.reduceLeDiff, Nat.reduceLT, Nat.reduceEqDiff, reduceIte, ↓reduceIte, Nat.reduceBEq, eqp_f, l1]
    refine (rname_r t name hs).use ?_
    cases cn : nameB name with
    | true => simp only [XX, CC, YY, Nat.reduceAdd, Nat.reduceSub, Nat.reduceLeDiff, Nat.reduceLT, Nat.reduceEqDiff, reduceIte, ↓reduceIte, Nat.reduceBEq, Bool.not_true]; exact .inl ⟨rfl, rfl⟩
    | false => simp only [XX, CC, YY, Nat.reduceAdd, Nat.reduceSub, Nat.reduceLeDiff, Nat.reduceLT, Nat.reduceEqDiff, reduceIte, ↓reduceIte, Nat.reduceBEq, Bool.not_false]; exact .inl ⟨rfl, rfl⟩
theorem rcheck_same (D : Dsk) (R : Rsk) (name : ByteArray) (h : D.down = R.down) : chkV D [name] = rchkV R name := by
  unfold chkV rchkV
  rw [h]
  simp
theorem rdown_r (t : St) (b : Nat) (R : Rsk) (h : t[b]? = some (.cells true (cE R))) : RunD T f_r06_Disk_Down [.ptr b 0] t (.bool R.down) t := by
  refine run_body (F := r_r06_Disk_Down) (has rfl) (by simp [r_r06_Disk_Down]) ?_
  simp only [r_r06_Disk_Down, XX, CC, YY, Nat.reduceAdd, Nat.reduceSub, Nat.reduceLeDiff, Nat.reduceLT, Nat.reduceEqDiff, reduceIte, ↓reduceIte, Nat.reduceBEq, eqp_f, Bool.not_false, gv_tt, (rld h).2.1]
  exact .inl ⟨rfl, rfl⟩
theorem rsteps_r (t : St) (b : Nat) (R : Rsk) (h : t[b]? = some (.cells true (cE R))) : RunD T f_r06_Disk_Steps [.ptr b 0] t (.int .i64 R.n) t := by
  refine run_body (F := r_r06_Disk_Steps) (has rfl) (by simp [r_r06_Disk_Steps]) ?_
  simp only [r_r06_Disk_Steps, XX, CC, YY, Nat.reduceAdd, Nat.reduceSub, Nat.reduceLeDiff, Nat.reduceLT, Nat.reduceEqDiff, reduceIte, ↓reduceIte, Nat.reduceBEq, eqp_f, (rld h).2.2.2.2]
  exact .inl ⟨rfl, rfl⟩
def rreadV (R : Rsk) (name : ByteArray) : ByteArray × Int := if rchkV R name ≠ 0 then (bts [], rchkV R name) else match R.l.find? fun f => decide (f.1 = name) with
  | some f => (f.2.1, 0)
  | none => (bts [], 62)
theorem idx_find (name : ByteArray) (l : List RFil) : idxR name l 0 = -1 ∧ (l.find? fun f => decide (f.1 = name)) = none ∨ ∃ (j : Nat) (f : RFil), idxR name l 0 = (j : Int) ∧ l[j]? = some f ∧ (l.find? fun f => decide (f.1 = name)) = some f := by
  have key : ∀ (l : List RFil) (i : Nat), idxR name l i = -1 ∧ (l.find? fun f => decide (f.1 = name)) = none ∨ ∃ (j : Nat) (f : RFil), idxR name l i = ((i + j : Nat) : Int) ∧ l[j]? = some f ∧ (l.find? fun f => decide (f.1 = name)) = some f := by
    intro l
    induction l with
    | nil => intro i; exact .inl ⟨rfl, rfl⟩
    | cons f l ih =>
      intro i
      by_cases c : f.1 = name
      · exact .inr ⟨0, f, by simp [idxR, c], rfl, by rw [List.find?_cons, decide_eq_true c]⟩
      · have e : idxR name (f :: l) i = idxR name l (i + 1) := if_neg c
        have e2 : ((f :: l).find? fun f => decide (f.1 = name)) = l.find? fun f => decide (f.1 = name) := by rw [List.find?_cons, decide_eq_false c]
        rcases ih (i + 1) with ⟨h1, h2⟩ | ⟨j, g, h1, h2, h3⟩
        · exact .inl ⟨by rw [e, h1], by rw [e2, h2]⟩
        · exact .inr ⟨j + 1, g, by rw [e, h1]; congr 1; omega, by simpa using h2, by rw [e2, h3]⟩
  rcases key l 0 with h | ⟨j, f, h1, h2, h3⟩
  · exact .inl h
  · exact .inr ⟨j, f, by rw [h1]; simp, h2, h3⟩
set_option maxHeartbeats 1000000 in
theorem rread_r (t : St) (b : Nat) (R : Rsk) (name : ByteArray) (h : t[b]? = some (.cells true (cE R))) (hv : Rd 3 cT t R.v R.l) (hl : R.l.length < 1000000) (hs : name.size < 140737488355328) :
    RunD T f_r06_Disk_Read [.ptr b 0, .str name] t (.tup [.str (rreadV R name).1, .int .i64 (rreadV R name).2]) t := by
  refine run_body (F := r_r06_Disk_Read) (has rfl) (by simp [r_r06_Disk_Read]) ?_
  have l0 := (rld h).1
  simp only [r_r06_Disk_Read, XX, CC, YY, Nat.reduceAdd, Nat.reduceSub, Nat.reduceLeDiff, Nat.reduceLT, Nat.reduceEqDiff, reduceIte, ↓reduceIte, Nat.reduceBEq]
  refine (rcheck_r t b R name h hs).use ?_
  unfold rreadV
  generalize rchkV R name = e
  have em : e = 0 ∨ ¬ e = 0 := Classical.em _
  rcases em with c | c
  · subst c
    rw [if_neg (by simp)]
    simp only [XX, CC, YY, Nat.reduceAdd, Nat.reduceSub, Nat.reduceLeDiff, Nat.reduceLT, Nat.reduceEqDiff, reduceIte, ↓reduceIte, Nat.reduceBEq, show ((0 : Int) == 0) = true from rfl, Bool.not_true]
    refine (rplace_r t b R name h hv hl).use ?_
    rcases idx_find name R.l with ⟨h1, h2⟩ | ⟨j, f, h1, h2, h3⟩
    · rw [h1, h2]
      simp only [XX, CC, YY, Nat.reduceAdd, Nat.reduceSub, Nat.reduceLeDiff, Nat.reduceLT, Nat.reduceEqDiff, reduceIte, ↓reduceIte, Nat.reduceBEq, show decide ((-1 : Int) < 0) = true from rfl]
      exact .inl ⟨rfl, rfl⟩
    · obtain ⟨b1, o1, j1, _, j3, _⟩ := rdT hv h2
      rw [h1, h3]
      simp only [XX, CC, YY, Nat.reduceAdd, Nat.reduceSub, Nat.reduceLeDiff, Nat.reduceLT, Nat.reduceEqDiff, reduceIte, ↓reduceIte, Nat.reduceBEq, dec_f (show ¬ (j : Int) < 0 by omega), l0, j1, j3]
      exact .inl ⟨rfl, rfl⟩
  · have c' : (e == 0) = false := by simp [c]
    rw [if_pos c]
    simp only [XX, CC, YY, Nat.reduceAdd, Nat.reduceSub, Nat.reduceLeDiff, Nat.reduceLT, Nat.reduceEqDiff, reduceIte, ↓reduceIte, Nat.reduceBEq, c', Bool.not_false]
    exact .inl ⟨rfl, rfl⟩
end Go.Ev

/-! The reference's disk: New, On. -/
namespace Go.Ev
set_option linter.unusedVariables false
set_option linter.unusedSimpArgs false
open Go.Ev.So Go.Proofs
variable {T : Nat → Option RF} [Has T]

def rnew : Rsk := ⟨.nils, [], false, -1, 0, 0⟩
theorem rnew_r (t : St) : Run T f_r06_New [] t fun v t' => v = .ptr t.length 0 ∧ t' = t ++ [.cells true (cE rnew)] := by
  refine run_body (F := r_r06_New) (has rfl) (by simp [r_r06_New]) ?_
  have hf : fillA [AV.nils, .bool false, .int .i64 0, .int .i64 0, .int .i64 0] [(2, 1, .int .i64 (-1))] = some (cE rnew) := rfl
  have hb : boxA (some 5) (.agg (cE rnew)) = some (cE rnew) := rfl
  simp only [r_r06_New, XX, CC, YY, Nat.reduceAdd, Nat.reduceSub, Nat.reduceLeDiff, Nat.reduceLT, Nat.reduceEqDiff, reduceIte, ↓reduceIte, Nat.reduceBEq, hf, hb]
  exact .inl ⟨by simp, by simp⟩
def ron (R : Rsk) : Rsk := { R with down := false, left := -1 }
theorem ron_r (t : St) (b : Nat) (R : Rsk) (h : t[b]? = some (.cells true (cE R))) : Run T f_r06_Disk_On [.ptr b 0] t fun v t' => v = .tup [] ∧ t' = t.set b (.cells true (cE (ron R))) := by
  refine run_body (F := r_r06_Disk_On) (has rfl) (by simp [r_r06_Disk_On]) ?_
  have hlt := (List.getElem?_eq_some_iff.1 h).1
  have s1 : stA t none (.ptr b 1) (.bool false) = some (t.set b (.cells true (cE { R with down := false }))) := by
    rw [st_one (by rfl), wr_own h, if_pos ⟨by simp [cE], by rfl⟩]; rfl
  have h2 : (t.set b (.cells true (cE { R with down := false })))[b]? = some (.cells true (cE { R with down := false })) := key_set hlt
  have s2 : wrA (t.set b (.cells true (cE { R with down := false }))) b 2 [AV.int .i64 (-1)] = some (t.set b (.cells true (cE (ron R)))) := by
    rw [wr_own h2, if_pos ⟨by simp [cE], by rfl⟩, List.set_set]; rfl
  have s2' : stA (t.set b (.cells true (cE { R with down := false }))) none (.ptr b 2) (.int .i64 (-1)) = some (t.set b (.cells true (cE (ron R)))) := by
    rw [st_one (by rfl), s2]
  simp only [r_r06_Disk_On, XX, CC, YY, Nat.reduceAdd, Nat.reduceSub, Nat.reduceLeDiff, Nat.reduceLT, Nat.reduceEqDiff, reduceIte, ↓reduceIte, Nat.reduceBEq, eqp_f, Bool.not_false, s1, s2, s2']
  exact .inl ⟨rfl, rfl⟩

def rpow (R : Rsk) : Rsk := { R with left := if R.left > 0 then IntKind.i64.wrap (R.left - 1) else R.left, n := IntKind.i64.wrap (R.n + 1) }
set_option maxHeartbeats 1000000 in
theorem rpower_r (t : St) (b : Nat) (R : Rsk) (h : t[b]? = some (.cells true (cE R))) (hn : R.left ≠ 0) : Run T f_r06_Disk_power [.ptr b 0] t fun v t' => v = .bool true ∧ t' = t.set b (.cells true (cE (rpow R))) := by
  refine run_body (F := r_r06_Disk_power) (has rfl) (by simp [r_r06_Disk_power]) ?_
  have hlt := (List.getElem?_eq_some_iff.1 h).1
  obtain ⟨_, _, l2, _, l4⟩ := rld h
  have hz : (R.left == 0) = false := by simp [hn]
  have em : R.left > 0 ∨ ¬ R.left > 0 := Classical.em _
  rcases em with c | c
  · have s1 : stA t none (.ptr b 2) (.int .i64 (IntKind.i64.wrap (R.left - 1))) = some (t.set b (.cells true (cE { R with left := IntKind.i64.wrap (R.left - 1) }))) := by
      rw [st_one (by rfl), wr_own h, if_pos ⟨by simp [cE], by rfl⟩]; rfl
    have h2 : (t.set b (.cells true (cE { R with left := IntKind.i64.wrap (R.left - 1) })))[b]? = some (.cells true (cE { R with left := IntKind.i64.wrap (R.left - 1) })) := key_set hlt
    have l4' := (rld h2).2.2.2.2
    have e : cE (rpow R) = cE { R with left := IntKind.i64.wrap (R.left - 1), n := IntKind.i64.wrap (R.n + 1) } := by unfold rpow; rw [if_pos c]
    have s2 : wrA (t.set b (.cells true (cE { R with left := IntKind.i64.wrap (R.left - 1) }))) b 4 [AV.int .i64 (IntKind.i64.wrap (R.n + 1))] = some (t.set b (.cells true (cE (rpow R)))) := by
      rw [wr_own h2, if_pos ⟨by simp [cE], by rfl⟩, List.set_set, e]; rfl
    have s2' : stA (t.set b (.cells true (cE { R with left := IntKind.i64.wrap (R.left - 1) }))) none (.ptr b 4) (.int .i64 (IntKind.i64.wrap (R.n + 1))) = some (t.set b (.cells true (cE (rpow R)))) := by
      rw [st_one (by rfl), s2]
    simp only [r_r06_Disk_power, XX, CC, YY, Nat.reduceAdd, Nat.reduceSub, Nat.reduceLeDiff, Nat.reduceLT, Nat.reduceEqDiff, reduceIte, ↓reduceIte, Nat.reduceBEq, l2, hz, dec_t c, s1, l4', s2, s2']
    exact .inl ⟨rfl, rfl⟩
  · have e : cE (rpow R) = cE { R with n := IntKind.i64.wrap (R.n + 1) } := by unfold rpow; rw [if_neg c]
    have s2 : stA t none (.ptr b 4) (.int .i64 (IntKind.i64.wrap (R.n + 1))) = some (t.set b (.cells true (cE (rpow R)))) := by
      rw [st_one (by rfl), wr_own h, if_pos ⟨by simp [cE], by rfl⟩, e]; rfl
    simp only [r_r06_Disk_power, XX, CC, YY, Nat.reduceAdd, Nat.reduceSub, Nat.reduceLeDiff, Nat.reduceLT, Nat.reduceEqDiff, reduceIte, ↓reduceIte, Nat.reduceBEq, l2, hz, dec_f c, l4, s2]
    exact .inl ⟨rfl, rfl⟩
end Go.Ev

/-! The reference's disk: where it lies, the loss of power. -/
namespace Go.Ev
set_option linter.unusedVariables false
set_option linter.unusedSimpArgs false
open Go.Ev.So Go.Proofs
variable {T : Nat → Option RF} [Has T]

section
variable {α : Type} {e n : Nat} {enc : α → List AV} {s t : St} {v : AV} {l : List α}
theorem set_fld (he : ∀ x, (enc x).length = e) (cs : List AV) {k : Nat} {u : AV} {q q' : α} (hk : k < e) (hq : enc q' = (enc q).set k u) : ∀ (L : List α) (i : Nat), L[i]? = some q → (L.flatMap enc ++ cs).set (i * e + k) u = (L.set i q').flatMap enc ++ cs
  | [], i, h => by simp at h
  | x :: L, 0, h => by
    have hx : x = q := by simpa using h
    rw [hx]
    simp only [List.flatMap_cons, List.set_cons_zero, Nat.zero_mul, Nat.zero_add, List.append_assoc]
    rw [List.set_append_left _ _ (by rw [he]; exact hk), hq]
  | x :: L, i + 1, h => by
    simp only [List.flatMap_cons, List.set_cons_succ, List.append_assoc]
    have e1 : (i + 1) * e + k = (enc x).length + (i * e + k) := by rw [he, Nat.succ_mul]; omega
    rw [e1, List.set_append_right _ _ (by omega), Nat.add_sub_cancel_left, set_fld he cs hk hq L i (by simpa using h)]
/-- A field of an element of an own slice is written. -/
theorem own_fld (he : ∀ x, (enc x).length = e) (h : Own n e enc t v l) {i : Nat} {q q' : α} (hi : l[i]? = some q) {k : Nat} {u : AV} (hk : k < e) (hu : u.cell = true) (hq : enc q' = (enc q).set k u) : ∃ b x, n ≤ b ∧ (∃ o e' k c, v = .sl b o e' k c) ∧ (∀ k : IntKind, ixaA e v (.int k (i : Int)) = some (.ptr b (i * e))) ∧
    stA t none (.ptr b (i * e + k)) u = some (t.set b x) ∧ Own n e enc (t.set b x) v (l.set i q') := by
  have hil := (List.getElem?_eq_some_iff.1 hi).1
  rcases h with ⟨_, h⟩ | ⟨b, c, cs, h3, h4, rfl, h5, h6⟩
  · rw [h] at hil; simp at hil
  · have hb := (List.getElem?_eq_some_iff.1 h5).1
    have hle : i * e + e ≤ (l.flatMap enc ++ cs).length := by
      rw [List.length_append, flat_len he]
      have : (i + 1) * e ≤ l.length * e := Nat.mul_le_mul_right _ hil
      rw [Nat.succ_mul] at this
      omega
    refine ⟨b, .cells true ((l.set i q').flatMap enc ++ cs), h3, ⟨_, _, _, _, rfl⟩, fun k => by rw [ixa_nat hil, Nat.zero_add], ?_, .inr ⟨b, c, cs, h3, by simpa using h4, by simp, key_set hb, h6⟩⟩
    rw [st_one hu, wr_own h5, if_pos ⟨by simp only [List.length_cons, List.length_nil]; omega, by simp [hu]⟩]
    rw [← set_fld he cs hk hq l i hi]; rfl
end

/-- The reference's disk lies at b. -/
structure RAt (t : St) (n b : Nat) (R : Rsk) : Prop where
  low : n ≤ b
  cells : t[b]? = some (.cells true (cE R))
  own : Own n 3 cT t R.v R.l
  apart : ∀ o e k c, R.v ≠ .sl b o e k c
def RFoot (b : Nat) (R : Rsk) (i : Nat) : Prop := i = b ∨ ∃ o e k c, R.v = .sl i o e k c
structure RStep (n b : Nat) (R R' : Rsk) (t t' : St) : Prop where
  at_ : RAt t' n b R'
  len : t.length ≤ t'.length
  same : ∀ i, i < t.length → ¬ RFoot b R i → t'[i]? = t[i]?
  foot : ∀ i, RFoot b R' i → RFoot b R i ∨ t.length ≤ i
theorem RAt.rd {t : St} {n b : Nat} {R : Rsk} (h : RAt t n b R) : Rd 3 cT t R.v R.l := h.own.rd cT_len
theorem RFoot.lt {t : St} {n b : Nat} {R : Rsk} (h : RAt t n b R) {i : Nat} (hi : RFoot b R i) : i < t.length := by
  rcases hi with rfl | ⟨o, e, k, c, hv⟩
  · exact (List.getElem?_eq_some_iff.1 h.cells).1
  · exact h.rd.lt hv
theorem RFoot.ge {t : St} {n b : Nat} {R : Rsk} (h : RAt t n b R) {i : Nat} (hi : RFoot b R i) : n ≤ i := by
  rcases hi with rfl | ⟨o, e, k, c, hv⟩
  · exact h.low
  · exact h.own.ge hv
theorem RStep.refl {n b : Nat} {R : Rsk} {t : St} (h : RAt t n b R) : RStep n b R R t t := ⟨h, Nat.le_refl _, fun _ _ _ => rfl, fun _ h => .inl h⟩
theorem RStep.trans {n b : Nat} {R R1 R2 : Rsk} {t t1 t2 : St} (h : RStep n b R R1 t t1) (k : RStep n b R1 R2 t1 t2) : RStep n b R R2 t t2 :=
  ⟨k.at_, Nat.le_trans h.len k.len, fun i hi hn => by
    have hl := h.len
    rw [k.same i (by omega) fun hf => (h.foot i hf).elim hn (by omega)]
    exact h.same i hi hn, fun i hi => by
    have hl := h.len
    rcases k.foot i hi with e | e
    · exact h.foot i e
    · exact .inr (by omega)⟩
theorem RAt.other {t t' : St} {n b : Nat} {R : Rsk} (h : RAt t n b R) (hs : ∀ i, RFoot b R i → t'[i]? = t[i]?) : RAt t' n b R :=
  ⟨h.low, by rw [hs b (.inl rfl)]; exact h.cells, h.own.keep fun i hi hv => by obtain ⟨o, e, k, c, hv⟩ := hv; exact hs i (.inr ⟨o, e, k, c, hv⟩), h.apart⟩
theorem RAt.ext {t t' : St} {n b : Nat} {R : Rsk} (h : RAt t n b R) (x : Ext t t') : RAt t' n b R := h.other fun i hi => x.get (hi.lt h)
/-- The disk's own cells are written. -/
theorem RStep.set {t : St} {n b : Nat} {R R' : Rsk} (h : RAt t n b R) (hv : R'.v = R.v) (hl : R'.l = R.l) : RStep n b R R' t (t.set b (.cells true (cE R'))) := by
  have hlt := (List.getElem?_eq_some_iff.1 h.cells).1
  refine ⟨⟨h.low, key_set hlt, ?_, fun o e k c => by rw [hv]; exact h.apart o e k c⟩, by simp, fun i _ hn => List.getElem?_set_ne (fun e => hn (.inl e.symm)), fun i hi => .inl ?_⟩
  · rw [hv, hl]
    exact h.own.keep fun i hi hvv => by
      obtain ⟨o, e, k, c, hvv⟩ := hvv
      exact List.getElem?_set_ne (fun eq => h.apart o e k c (by rw [eq]; exact hvv))
  · rcases hi with rfl | ⟨o, e, k, c, hv'⟩
    · exact .inl rfl
    · exact .inr ⟨o, e, k, c, by rw [← hv]; exact hv'⟩
/-- A field of a file is written. -/
theorem RStep.fld {t : St} {n b : Nat} {R : Rsk} (h : RAt t n b R) {i : Nat} {q q' : RFil} (hi : R.l[i]? = some q) {k : Nat} {u : AV} (hk : k < 3) (hu : u.cell = true) (hq : cT q' = (cT q).set k u) :
    ∃ b2 t', (∀ kd : IntKind, ixaA 3 R.v (.int kd (i : Int)) = some (.ptr b2 (i * 3))) ∧ stA t none (.ptr b2 (i * 3 + k)) u = some t' ∧ RStep n b R { R with l := R.l.set i q' } t t' := by
  obtain ⟨b2, x, h1, ⟨o, e', k', c, hv⟩, h3, h4, h5⟩ := own_fld cT_len h.own hi hk hu hq
  have hne : b2 ≠ b := fun e => h.apart o e' k' c (by rw [← e]; exact hv)
  refine ⟨b2, _, h3, h4, ⟨⟨h.low, ?_, h5, h.apart⟩, by simp, fun j _ hn => List.getElem?_set_ne (fun e => hn (.inr ⟨o, e', k', c, by rw [← e]; exact hv⟩)), fun j hj => .inl hj⟩⟩
  rw [List.getElem?_set_ne hne]; exact h.cells

/-- A file's loss. -/
def cutT (keep : Int) (f : RFil) : RFil := (f.1, f.2.1.extract 0 (keptF keep f.2.1 f.2.2).toNat, keptF keep f.2.1 f.2.2)
def rgone (R : Rsk) (keep : Int) : Rsk := { R with l := R.l.map (cutT keep), down := true, left := -1 }
def ROk (R : Rsk) : Prop := (∀ f ∈ R.l, FOk f.2.1 f.2.2) ∧ R.l.length ≤ 16
theorem map_take {α : Type} (f : α → α) (l : List α) (i : Nat) {x : α} (h : l[i]? = some x) : ((l.take i).map f ++ l.drop i).set i (f x) = (l.take (i + 1)).map f ++ l.drop (i + 1) := by
  have hil := (List.getElem?_eq_some_iff.1 h).1
  rw [List.set_append_right _ _ (by simp; omega)]
  have h1 : i - ((l.take i).map f).length = 0 := by simp; omega
  rw [h1, List.drop_eq_getElem_cons hil, List.set_cons_zero, List.take_add_one, h]
  simp
theorem map_at {α : Type} (f : α → α) (l : List α) (i : Nat) {x : α} (h : l[i]? = some x) : ((l.take i).map f ++ l.drop i)[i]? = some x := by
  have hil := (List.getElem?_eq_some_iff.1 h).1
  rw [List.getElem?_append_right (by simp; omega)]
  have h1 : i - ((l.take i).map f).length = 0 := by simp; omega
  rw [h1, List.getElem?_drop]
  simpa using h
set_option maxHeartbeats 4000000 in
theorem rgoes_r (t : St) (n b : Nat) (R : Rsk) (keep : Int) (h : RAt t n b R) (ho : ROk R) : Run T f_r06_Disk_goes [.ptr b 0, .int .i64 keep] t fun v t' => v = .tup [] ∧ RStep n b R (rgone R keep) t t' := by
  refine run_body (F := r_r06_Disk_goes) (has rfl) (by simp [r_r06_Disk_goes]) ?_
  simp only [r_r06_Disk_goes, XX, CC, YY, Nat.reduceAdd, Nat.reduceSub, Nat.reduceLeDiff, Nat.reduceLT, Nat.reduceEqDiff, reduceIte, ↓reduceIte, Nat.reduceBEq]
  have hlen : ∀ i, i ≤ R.l.length → ((R.l.take i).map (cutT keep) ++ R.l.drop i).length = R.l.length := fun i hi => by simp; omega
  refine awp_rounds (fun d e t' => ∃ i : Nat, i + d = R.l.length ∧ RStep n b R { R with l := (R.l.take i).map (cutT keep) ++ R.l.drop i } t t' ∧ e.get 0 = .ptr b 0 ∧ e.get 1 = .int .i64 keep ∧ e.get 4 = .int .i64 i) R.l.length ?_ ?_
  · refine ⟨0, by omega, ?_, ?_, ?_, ?_⟩
    · exact .refl h
    all_goals (try simp only [XX, CC, YY, Nat.reduceAdd, Nat.reduceSub, Nat.reduceLeDiff, Nat.reduceLT, Nat.reduceEqDiff, reduceIte, ↓reduceIte, Nat.reduceBEq])
    rfl
  rintro J d e t1 hJ ⟨i, hi, hst, g0, g1, g4⟩
  have hA := hst.at_
  have l0 := (rld hA.cells).1
  (try simp only at l0)
  have hrl := hA.rd.len
  (try simp only at hrl)
  rw [hlen i (by omega)] at hrl
  simp only [XX, CC, YY, Nat.reduceAdd, Nat.reduceSub, Nat.reduceLeDiff, Nat.reduceLT, Nat.reduceEqDiff, reduceIte, ↓reduceIte, Nat.reduceBEq, g0, g1, g4, l0, hrl]
  by_cases c : i < R.l.length
  · have hq : R.l[i]? = some (R.l[i]'c) := List.getElem?_eq_getElem _
    generalize R.l[i]'c = q at hq
    have hqok : FOk q.2.1 q.2.2 := ho.1 q (List.mem_of_getElem? hq)
    obtain ⟨k1, k2⟩ := kept_in (keep := keep) hqok
    have hqok' := hqok
    unfold FOk at hqok'
    have hq1 : ({ R with l := (R.l.take i).map (cutT keep) ++ R.l.drop i } : Rsk).l[i]? = some q := map_at (cutT keep) R.l i hq
    obtain ⟨b1, o1, j1, j2, j3, j4⟩ := rdT hA.rd hq1
    (try simp only at j1)
    have w1 : IntKind.i64.wrap ((q.2.1.size : Int) - q.2.2) = (q.2.1.size : Int) - q.2.2 := w64_in (by omega) (by omega)
    have w2 : IntKind.i64.wrap ((q.2.1.size : Int) - q.2.2 + 1) = (q.2.1.size : Int) - q.2.2 + 1 := w64_in (by omega) (by omega)
    have hw1 : IntKind.i64.wrap ((i : Int) + 1) = ((i + 1 : Nat) : Int) := by have := ho.2; rw [w64_in (by omega) (by omega)]; omega
    obtain ⟨b2, t2, f1, f2, f3⟩ := RStep.fld hA hq1 (k := 2) (u := .int .i64 (keptF keep q.2.1 q.2.2)) (q' := (q.1, q.2.1, keptF keep q.2.1 q.2.2)) (by decide) rfl rfl
    (try simp only at f1)
    have hA2 := f3.at_
    (try simp only at hA2)
    have hq2 : ({ R with l := ((R.l.take i).map (cutT keep) ++ R.l.drop i).set i (q.1, q.2.1, keptF keep q.2.1 q.2.2) } : Rsk).l[i]? = some (q.1, q.2.1, keptF keep q.2.1 q.2.2) := by
      show (((R.l.take i).map (cutT keep) ++ R.l.drop i).set i (q.1, q.2.1, keptF keep q.2.1 q.2.2))[i]? = _
      rw [List.getElem?_set_self (by rw [hlen i (by omega)]; exact c)]
    obtain ⟨b3, o3, m1, m2, m3, m4⟩ := rdT hA2.rd hq2
    (try simp only at m1)
    obtain ⟨b4, t4, p1, p2, p3⟩ := RStep.fld hA2 hq2 (k := 1) (u := .str (q.2.1.extract 0 (keptF keep q.2.1 q.2.2).toNat)) (q' := cutT keep q) (by decide) rfl rfl
    (try simp only at p1)
    have l02 := (rld hA2.cells).1
    (try simp only at l02)
    have hsl : slsA (.str q.2.1) none (some (.int .i64 (keptF keep q.2.1 q.2.2))) = some (.str (q.2.1.extract 0 (keptF keep q.2.1 q.2.2).toNat)) := by
      simp only [slsA, boundA]
      rw [if_pos (by omega)]
    have hb12 : (AV.ptr b1 o1) = .ptr b2 (i * 3) := by have := (j1 .i64).symm.trans (f1 .i64); simpa using this
    have hb34 : (AV.ptr b3 o3) = .ptr b4 (i * 3) := by have := (m1 .i64).symm.trans (p1 .i64); simpa using this
    simp only [AV.ptr.injEq] at hb12 hb34
    obtain ⟨rfl, rfl⟩ := hb12
    obtain ⟨rfl, rfl⟩ := hb34
    have hst4 := (hst.trans f3).trans p3
    have hset : ((((R.l.take i).map (cutT keep) ++ R.l.drop i).set i (q.1, q.2.1, keptF keep q.2.1 q.2.2)).set i (cutT keep q)) = (R.l.take (i + 1)).map (cutT keep) ++ R.l.drop (i + 1) := by
      rw [List.set_set]; exact map_take (cutT keep) R.l i hq
    (try simp only at hst4)
    rw [hset] at hst4
    have em : keep > 0 ∨ ¬ keep > 0 := Classical.em _
    rcases em with ck | ck
    · have hrem : binA .rem (.int .i64 keep) (.int .i64 ((q.2.1.size : Int) - q.2.2 + 1)) = some (.int .i64 (keep % ((q.2.1.size : Int) - q.2.2 + 1))) := by
        simp only [binA]
        rw [if_pos ⟨trivial, by omega⟩, Int.tmod_eq_emod_of_nonneg (by omega)]
      have hk0 : q.2.2 + keep % ((q.2.1.size : Int) - q.2.2 + 1) = keptF keep q.2.1 q.2.2 := by unfold keptF; rw [if_pos ck]
      have w3 : IntKind.i64.wrap (q.2.2 + keep % ((q.2.1.size : Int) - q.2.2 + 1)) = keptF keep q.2.1 q.2.2 := by rw [hk0]; exact w64_in (by omega) (by omega)
      simp only [dec_t (show (i : Int) < R.l.length by omega), XX, CC, YY, Nat.reduceAdd, Nat.reduceSub, Nat.reduceLeDiff, Nat.reduceLT, Nat.reduceEqDiff, reduceIte, ↓reduceIte, Nat.reduceBEq]
      refine drw_in [] rfl ?_
      simp only [List.append_nil, DD, CC, YY, Nat.reduceAdd, Nat.reduceSub, Nat.reduceLeDiff, Nat.reduceLT, Nat.reduceEqDiff, reduceIte, ↓reduceIte, Nat.reduceBEq, g0, g1, g4, l0, j1, j3, j4, w1]
      simp only [dec_t ck, DD, CC, YY, Nat.reduceAdd, Nat.reduceSub, Nat.reduceLeDiff, Nat.reduceLT, Nat.reduceEqDiff, reduceIte, ↓reduceIte, Nat.reduceBEq, g0, g1, g4, w2, hrem]
      refine drw_in [] rfl ?_
      simp only [List.append_nil, DD, CC, YY, Nat.reduceAdd, Nat.reduceSub, Nat.reduceLeDiff, Nat.reduceLT, Nat.reduceEqDiff, reduceIte, ↓reduceIte, Nat.reduceBEq, g0, g1, g4, l0, j1, j4, w3, f2]
      refine drw_in [] rfl ?_
      simp only [List.append_nil, DD, CC, YY, Nat.reduceAdd, Nat.reduceSub, Nat.reduceLeDiff, Nat.reduceLT, Nat.reduceEqDiff, reduceIte, ↓reduceIte, Nat.reduceBEq, g0, g1, g4, l02, m1, m3, m4, hsl, p2]
      refine hJ (d - 1) _ _ (by omega) ⟨i + 1, by omega, hst4, ?_, ?_, ?_⟩ <;> (try simp only [XX, CC, YY, Nat.reduceAdd, Nat.reduceSub, Nat.reduceLeDiff, Nat.reduceLT, Nat.reduceEqDiff, reduceIte, ↓reduceIte, Nat.reduceBEq, g0, g1, g4, hw1])
    · have hk0 : keptF keep q.2.1 q.2.2 = q.2.2 := by unfold keptF; rw [if_neg ck]
      have w3 : IntKind.i64.wrap (q.2.2 + 0) = keptF keep q.2.1 q.2.2 := by rw [hk0, Int.add_zero]; exact w64_in (by omega) (by omega)
      simp only [dec_t (show (i : Int) < R.l.length by omega), XX, CC, YY, Nat.reduceAdd, Nat.reduceSub, Nat.reduceLeDiff, Nat.reduceLT, Nat.reduceEqDiff, reduceIte, ↓reduceIte, Nat.reduceBEq]
      refine drw_in [] rfl ?_
      simp only [List.append_nil, DD, CC, YY, Nat.reduceAdd, Nat.reduceSub, Nat.reduceLeDiff, Nat.reduceLT, Nat.reduceEqDiff, reduceIte, ↓reduceIte, Nat.reduceBEq, g0, g1, g4, l0, j1, j3, j4, w1]
      simp only [dec_f ck, DD, CC, YY, Nat.reduceAdd, Nat.reduceSub, Nat.reduceLeDiff, Nat.reduceLT, Nat.reduceEqDiff, reduceIte, ↓reduceIte, Nat.reduceBEq, g0, g1, g4]
      refine drw_in [] rfl ?_
      simp only [List.append_nil, DD, CC, YY, Nat.reduceAdd, Nat.reduceSub, Nat.reduceLeDiff, Nat.reduceLT, Nat.reduceEqDiff, reduceIte, ↓reduceIte, Nat.reduceBEq, g0, g1, g4, l0, j1, j4, w3, f2]
      refine drw_in [] rfl ?_
      simp only [List.append_nil, DD, CC, YY, Nat.reduceAdd, Nat.reduceSub, Nat.reduceLeDiff, Nat.reduceLT, Nat.reduceEqDiff, reduceIte, ↓reduceIte, Nat.reduceBEq, g0, g1, g4, l02, m1, m3, m4, hsl, p2]
      refine hJ (d - 1) _ _ (by omega) ⟨i + 1, by omega, hst4, ?_, ?_, ?_⟩ <;> (try simp only [XX, CC, YY, Nat.reduceAdd, Nat.reduceSub, Nat.reduceLeDiff, Nat.reduceLT, Nat.reduceEqDiff, reduceIte, ↓reduceIte, Nat.reduceBEq, g0, g1, g4, hw1])
  · have hii : i = R.l.length := by omega
    subst hii
    rw [List.take_length, List.drop_length, List.append_nil] at hst
    have hA := hst.at_
    have s1 : stA t1 none (.ptr b (0 + 1)) (.bool true) = some (t1.set b (.cells true (cE { R with l := R.l.map (cutT keep), down := true }))) := by
      rw [st_one (by rfl), wr_own hA.cells, if_pos ⟨by simp [cE], by rfl⟩]; rfl
    have q1 := RStep.set (R' := { R with l := R.l.map (cutT keep), down := true }) hA rfl rfl
    have s2 : stA (t1.set b (.cells true (cE { R with l := R.l.map (cutT keep), down := true }))) none (.ptr b (0 + 2)) (.int .i64 (-1)) = some ((t1.set b (.cells true (cE { R with l := R.l.map (cutT keep), down := true }))).set b (.cells true (cE (rgone R keep)))) := by
      rw [st_one (by rfl), wr_own q1.at_.cells, if_pos ⟨by simp [cE], by rfl⟩]; rfl
    have s2' : wrA (t1.set b (.cells true (cE { R with l := R.l.map (cutT keep), down := true }))) b 2 [AV.int .i64 (-1)] = some ((t1.set b (.cells true (cE { R with l := R.l.map (cutT keep), down := true }))).set b (.cells true (cE (rgone R keep)))) := by
      rw [wr_own q1.at_.cells, if_pos ⟨by simp [cE], by rfl⟩]; rfl
    have q2 := RStep.set (R' := rgone R keep) q1.at_ rfl rfl
    simp only [dec_f (show ¬ ((R.l.length : Nat) : Int) < R.l.length by omega), XX, CC, YY, Nat.reduceAdd, Nat.reduceSub, Nat.reduceLeDiff, Nat.reduceLT, Nat.reduceEqDiff, reduceIte, ↓reduceIte, Nat.reduceBEq, g0, s1, s2, s2']
    exact .inl ⟨rfl, (hst.trans q1).trans q2⟩
end Go.Ev

/-! The reference's disk: power, put, Arm, Off, On. -/
namespace Go.Ev
set_option linter.unusedVariables false
set_option linter.unusedSimpArgs false
open Go.Ev.So Go.Proofs
variable {T : Nat → Option RF} [Has T]

def rpowV (R : Rsk) : Rsk := if R.left = 0 then rgone R R.keep else rpow R
set_option maxHeartbeats 1000000 in
theorem rpower_g (t : St) (n b : Nat) (R : Rsk) (h : RAt t n b R) (ho : ROk R) : Run T f_r06_Disk_power [.ptr b 0] t fun v t' => v = .bool (decide (R.left ≠ 0)) ∧ RStep n b R (rpowV R) t t' := by
  unfold rpowV
  have em : R.left = 0 ∨ ¬ R.left = 0 := Classical.em _
  rcases em with c | c
  · rw [if_pos c, dec_f (fun hh => hh c)]
    refine run_body (F := r_r06_Disk_power) (has rfl) (by simp [r_r06_Disk_power]) ?_
    obtain ⟨_, _, l2, l3, _⟩ := rld h.cells
    have hz : (R.left == 0) = true := by simp [c]
    simp only [r_r06_Disk_power, XX, CC, YY, Nat.reduceAdd, Nat.reduceSub, Nat.reduceLeDiff, Nat.reduceLT, Nat.reduceEqDiff, reduceIte, ↓reduceIte, Nat.reduceBEq, l2, hz, l3]
    refine Run.mono _ _ _ _ _ ?_ (rgoes_r t n b R R.keep h ho)
    rintro v t' ⟨rfl, hst⟩
    (try simp only [XX, CC, YY, Nat.reduceAdd, Nat.reduceSub, Nat.reduceLeDiff, Nat.reduceLT, Nat.reduceEqDiff, reduceIte, ↓reduceIte, Nat.reduceBEq])
    exact .inl ⟨rfl, hst⟩
  · rw [if_neg c, dec_t (show R.left ≠ 0 from c)]
    refine Run.mono _ _ _ _ _ ?_ (rpower_r t b R h.cells c)
    rintro v t' ⟨rfl, rfl⟩
    exact ⟨rfl, RStep.set h rfl rfl⟩
def rarm (R : Rsk) (k keep : Int) : Rsk := if R.down then R else { R with left := if k < 0 then -1 else k, keep := keep }
set_option maxHeartbeats 1000000 in
theorem rarm_g (t : St) (n b : Nat) (R : Rsk) (k keep : Int) (h : RAt t n b R) : Run T f_r06_Disk_Arm [.ptr b 0, .int .i64 k, .int .i64 keep] t fun v t' => v = .tup [] ∧ RStep n b R (rarm R k keep) t t' := by
  refine run_body (F := r_r06_Disk_Arm) (has rfl) (by simp [r_r06_Disk_Arm]) ?_
  have hd := (rld h.cells).2.1
  unfold rarm
  cases c : R.down with
  | true =>
    rw [c] at hd
    simp only [r_r06_Disk_Arm, XX, CC, YY, Nat.reduceAdd, Nat.reduceSub, Nat.reduceLeDiff, Nat.reduceLT, Nat.reduceEqDiff, reduceIte, ↓reduceIte, Nat.reduceBEq, eqp_f, gv_ff, hd]
    exact .inl ⟨rfl, .refl h⟩
  | false =>
    rw [c] at hd
    have a1 := RStep.set (R' := { R with left := k }) h rfl rfl
    have s1 : stA t none (.ptr b 2) (.int .i64 k) = some (t.set b (.cells true (cE { R with left := k }))) := by
      rw [st_one (by rfl), wr_own h.cells, if_pos ⟨by simp [cE], by rfl⟩]; rfl
    have em : k < 0 ∨ ¬ k < 0 := Classical.em _
    rcases em with c2 | c2
    · have a2 := RStep.set (R' := { R with left := -1 }) a1.at_ rfl rfl
      have s2 : wrA (t.set b (.cells true (cE { R with left := k }))) b 2 [AV.int .i64 (-1)] = some ((t.set b (.cells true (cE { R with left := k }))).set b (.cells true (cE { R with left := -1 }))) := by
        rw [wr_own a1.at_.cells, if_pos ⟨by simp [cE], by rfl⟩]; rfl
      have a3 := RStep.set (R' := { R with left := -1, keep := keep }) a2.at_ rfl rfl
      have s3 : wrA ((t.set b (.cells true (cE { R with left := k }))).set b (.cells true (cE { R with left := -1 }))) b 3 [AV.int .i64 keep] = some (((t.set b (.cells true (cE { R with left := k }))).set b (.cells true (cE { R with left := -1 }))).set b (.cells true (cE { R with left := -1, keep := keep }))) := by
        rw [wr_own a2.at_.cells, if_pos ⟨by simp [cE], by rfl⟩]; rfl
      have s2' : stA (t.set b (.cells true (cE { R with left := k }))) none (.ptr b 2) (.int .i64 (-1)) = some ((t.set b (.cells true (cE { R with left := k }))).set b (.cells true (cE { R with left := -1 }))) := by rw [st_one (by rfl), s2]
      have s3' : stA ((t.set b (.cells true (cE { R with left := k }))).set b (.cells true (cE { R with left := -1 }))) none (.ptr b 3) (.int .i64 keep) = some (((t.set b (.cells true (cE { R with left := k }))).set b (.cells true (cE { R with left := -1 }))).set b (.cells true (cE { R with left := -1, keep := keep }))) := by rw [st_one (by rfl), s3]
      have e : RStep n b R (if false = true then R else { R with left := if k < 0 then -1 else k, keep := keep }) t (((t.set b (.cells true (cE { R with left := k }))).set b (.cells true (cE { R with left := -1 }))).set b (.cells true (cE { R with left := -1, keep := keep }))) := by
        rw [if_neg (by simp), if_pos c2]; exact (a1.trans a2).trans a3
      simp only [r_r06_Disk_Arm, XX, CC, YY, Nat.reduceAdd, Nat.reduceSub, Nat.reduceLeDiff, Nat.reduceLT, Nat.reduceEqDiff, reduceIte, ↓reduceIte, Nat.reduceBEq, eqp_f, gv_ff, hd, s1, dec_t c2, s2, s2', s3, s3']
      exact .inl ⟨rfl, by simpa [c2, c] using e⟩
    · have a3 := RStep.set (R' := { R with left := k, keep := keep }) a1.at_ rfl rfl
      have s3 : wrA (t.set b (.cells true (cE { R with left := k }))) b 3 [AV.int .i64 keep] = some ((t.set b (.cells true (cE { R with left := k }))).set b (.cells true (cE { R with left := k, keep := keep }))) := by
        rw [wr_own a1.at_.cells, if_pos ⟨by simp [cE], by rfl⟩]; rfl
      have s3' : stA (t.set b (.cells true (cE { R with left := k }))) none (.ptr b 3) (.int .i64 keep) = some ((t.set b (.cells true (cE { R with left := k }))).set b (.cells true (cE { R with left := k, keep := keep }))) := by rw [st_one (by rfl), s3]
      simp only [r_r06_Disk_Arm, XX, CC, YY, Nat.reduceAdd, Nat.reduceSub, Nat.reduceLeDiff, Nat.reduceLT, Nat.reduceEqDiff, reduceIte, ↓reduceIte, Nat.reduceBEq, eqp_f, gv_ff, hd, s1, dec_f c2, s3, s3']
      refine .inl ⟨rfl, ?_⟩
      simpa [c2, c] using a1.trans a3
def roff (R : Rsk) (keep : Int) : Rsk := if R.down then R else rgone R keep
theorem roff_g (t : St) (n b : Nat) (R : Rsk) (keep : Int) (h : RAt t n b R) (ho : ROk R) : Run T f_r06_Disk_Off [.ptr b 0, .int .i64 keep] t fun v t' => v = .tup [] ∧ RStep n b R (roff R keep) t t' := by
  refine run_body (F := r_r06_Disk_Off) (has rfl) (by simp [r_r06_Disk_Off]) ?_
  have hd := (rld h.cells).2.1
  unfold roff
  cases c : R.down with
  | true =>
    rw [c] at hd
    simp only [r_r06_Disk_Off, XX, CC, YY, Nat.reduceAdd, Nat.reduceSub, Nat.reduceLeDiff, Nat.reduceLT, Nat.reduceEqDiff, reduceIte, ↓reduceIte, Nat.reduceBEq, eqp_f, Bool.not_false, gv_tt, hd, Bool.not_true]
    exact .inl ⟨rfl, .refl h⟩
  | false =>
    rw [c] at hd
    simp only [r_r06_Disk_Off, XX, CC, YY, Nat.reduceAdd, Nat.reduceSub, Nat.reduceLeDiff, Nat.reduceLT, Nat.reduceEqDiff, reduceIte, ↓reduceIte, Nat.reduceBEq, eqp_f, Bool.not_false, gv_tt, hd]
    refine Run.mono _ _ _ _ _ ?_ (rgoes_r t n b R keep h ho)
    rintro v t' ⟨rfl, hst⟩
    (try simp only [XX, CC, YY, Nat.reduceAdd, Nat.reduceSub, Nat.reduceLeDiff, Nat.reduceLT, Nat.reduceEqDiff, reduceIte, ↓reduceIte, Nat.reduceBEq])
    exact .inl ⟨rfl, hst⟩
theorem ron_g (t : St) (n b : Nat) (R : Rsk) (h : RAt t n b R) : Run T f_r06_Disk_On [.ptr b 0] t fun v t' => v = .tup [] ∧ RStep n b R (ron R) t t' := by
  refine Run.mono _ _ _ _ _ ?_ (ron_r t b R h.cells)
  rintro v t' ⟨rfl, rfl⟩
  exact ⟨rfl, RStep.set h rfl rfl⟩

/-- A file is written whole. -/
theorem RStep.elt {t : St} {n b : Nat} {R : Rsk} (h : RAt t n b R) {i : Nat} (hi : i < R.l.length) (q : RFil) :
    ∃ b2 t', (∀ kd : IntKind, ixaA 3 R.v (.int kd (i : Int)) = some (.ptr b2 (i * 3))) ∧ stA t (some 3) (.ptr b2 (i * 3)) (.agg (cT q)) = some t' ∧ RStep n b R { R with l := R.l.set i q } t t' := by
  obtain ⟨b2, x, h1, ⟨o, e', k', c, hv⟩, h3, h4, _, h5⟩ := own_at cT_len cT_cell h.own hi q
  have hne : b2 ≠ b := fun e => h.apart o e' k' c (by rw [← e]; exact hv)
  refine ⟨b2, _, h3, h4, ⟨⟨h.low, ?_, h5, h.apart⟩, by simp, fun j _ hn => List.getElem?_set_ne (fun e => hn (.inr ⟨o, e', k', c, by rw [← e]; exact hv⟩)), fun j hj => .inl hj⟩⟩
  rw [List.getElem?_set_ne hne]; exact h.cells
def ltB (a b : ByteArray) : Bool := Op.bytesLess a.toList b.toList
theorem lss_S (a b : ByteArray) : binA .lss (.str a) (.str b) = some (.bool (ltB a b)) := rfl
/-- how many files stand ahead of a name -/
def posT (nm : ByteArray) : List RFil → Nat
  | [] => 0
  | g :: l => if ltB g.1 nm = true then posT nm l + 1 else 0
theorem posT_le (nm : ByteArray) : ∀ l : List RFil, posT nm l ≤ l.length
  | [] => Nat.le_refl _
  | g :: l => by
    unfold posT
    have := posT_le nm l
    split <;> simp <;> omega
def insT (f : RFil) (l : List RFil) : List RFil := l.take (posT f.1 l) ++ f :: l.drop (posT f.1 l)
def rzero : RFil := (bts [], bts [], 0)
theorem mid_set {α : Type} (l : List α) (i : Nat) (y x : α) (h : i ≤ l.length) : (l.take i ++ y :: l.drop i).set i x = l.take i ++ x :: l.drop i := by
  rw [List.set_append_right _ _ (by simp; omega)]
  have : i - (l.take i).length = 0 := by simp; omega
  rw [this, List.set_cons_zero]
theorem mid_len {α : Type} (l : List α) (i : Nat) (y : α) (h : i ≤ l.length) : (l.take i ++ y :: l.drop i).length = l.length + 1 := by simp; omega
theorem mid_get {α : Type} (l : List α) (i : Nat) (y : α) {x : α} (h : l[i]? = some x) : (l.take (i + 1) ++ y :: l.drop (i + 1))[i]? = some x := by
  have hil := (List.getElem?_eq_some_iff.1 h).1
  rw [List.getElem?_append_left (by simp; omega), List.getElem?_take, if_pos (by omega), h]
theorem mid_down {α : Type} (l : List α) (i : Nat) {x : α} (h : l[i]? = some x) : l.take (i + 1) ++ x :: l.drop (i + 1) = l.take i ++ x :: l.drop i := by
  have hil := (List.getElem?_eq_some_iff.1 h).1
  rw [List.take_add_one, h, List.drop_eq_getElem_cons hil]
  have : l[i] = x := (List.getElem?_eq_some_iff.1 h).2
  rw [this]
  simp
set_option maxHeartbeats 4000000 in
theorem rput_r (t : St) (n b : Nat) (R : Rsk) (f : RFil) (h : RAt t n b R) (hnt : n ≤ t.length) (ho : R.l.length ≤ 16) : Run T f_r06_Disk_put [.ptr b 0, .agg (cT f)] t fun v t' => v = .tup [] ∧ ∃ v', RStep n b R { R with l := insT f R.l, v := v' } t t' := by
  refine run_body (F := r_r06_Disk_put) (has rfl) (by simp [r_r06_Disk_put]) ?_
  have hb0 : boxA (some 3) (.agg (cT f)) = some (cT f) := rfl
  have x1 : Ext t (t ++ [.cells true (cT f)]) := ⟨_, rfl⟩
  have h1 := h.ext x1
  have l0 := (rld h1.cells).1
  have lb : ldA (t ++ [Blk.cells true (cT f)]) none (.ptr t.length 0) = some (.str f.1) := by rw [ld_own get_last]; rfl
  have lbn : t.length + 0 = t.length := rfl
  simp only [r_r06_Disk_put, XX, CC, YY, Nat.reduceAdd, Nat.reduceSub, Nat.reduceLeDiff, Nat.reduceLT, Nat.reduceEqDiff, reduceIte, ↓reduceIte, Nat.reduceBEq, hb0]
  refine awp_rounds (fun d e t' => t' = t ++ [.cells true (cT f)] ∧ ∃ i : Nat, i + d = R.l.length ∧ e.get 0 = .ptr b 0 ∧ e.get 3 = .ptr t.length 0 ∧ e.get 4 = .int .i64 i ∧ posT f.1 R.l = i + posT f.1 (R.l.drop i)) R.l.length ?_ ?_
  · refine ⟨rfl, 0, by omega, ?_, ?_, ?_, by simp⟩ <;> (try simp only [XX, CC, YY, Nat.reduceAdd, Nat.reduceSub, Nat.reduceLeDiff, Nat.reduceLT, Nat.reduceEqDiff, reduceIte, ↓reduceIte, Nat.reduceBEq]) <;> rfl
  rintro J d e t1 hJ ⟨rfl, i, hi, g0, g3, g4, hpos⟩
  have go : ∀ (Q : Prop), True := fun _ => trivial
  by_cases c : i < R.l.length ∧ ∃ q, R.l[i]? = some q ∧ ltB q.1 f.1 = true
  · obtain ⟨c, q, hq, hlt⟩ := c
    obtain ⟨b1, o1, j1, j2, _⟩ := rdT h1.rd hq
    have hw1 : IntKind.i64.wrap ((i : Int) + 1) = ((i + 1 : Nat) : Int) := by rw [w64_in (by omega) (by omega)]; omega
    have hd' : R.l.drop i = q :: R.l.drop (i + 1) := by
      rw [List.drop_eq_getElem_cons c]; congr 1; exact (List.getElem?_eq_some_iff.1 hq).2
    simp only [XX, CC, YY, Nat.reduceAdd, Nat.reduceSub, Nat.reduceLeDiff, Nat.reduceLT, Nat.reduceEqDiff, reduceIte, ↓reduceIte, Nat.reduceBEq]
    refine drw_in [] rfl ?_
    simp only [List.append_nil, DD, CC, YY, Nat.reduceAdd, Nat.reduceSub, Nat.reduceLeDiff, Nat.reduceLT, Nat.reduceEqDiff, reduceIte, ↓reduceIte, Nat.reduceBEq, g0, g3, g4, l0, h1.rd.len, dec_t (show (i : Int) < R.l.length by omega), gv_tt, j1, j2, lb, lss_S, hlt, hw1]
    refine hJ (d - 1) _ _ (by omega) ⟨rfl, i + 1, by omega, ?_, ?_, ?_, ?_⟩
    all_goals (try simp only [XX, CC, YY, Nat.reduceAdd, Nat.reduceSub, Nat.reduceLeDiff, Nat.reduceLT, Nat.reduceEqDiff, reduceIte, ↓reduceIte, Nat.reduceBEq, g0, g3, g4])
    rw [hpos, hd', posT, if_pos hlt]; omega
  · have hp : posT f.1 R.l = i := by
      rw [hpos]
      by_cases ci : i < R.l.length
      · have hq : R.l[i]? = some (R.l[i]'ci) := List.getElem?_eq_getElem _
        rw [List.drop_eq_getElem_cons ci, posT, if_neg (fun hh => c ⟨ci, _, hq, hh⟩)]; omega
      · rw [List.drop_of_length_le (by omega)]; simp [posT]
    -- where the file goes
    obtain ⟨v', t2, a1, a2, a3, a4, a5, a6⟩ := own_app (by_ := 40) (y := .sl (t ++ [Blk.cells true (cT f)]).length 0 3 1 (some 1)) (l2 := [rzero]) (h1.own.app [.cells true (cT rzero)]) (by simp; omega) (rd_lit (by simp) cT_len rfl) cT_len cT_cell (by simp; omega)
    have a1' : appA (t ++ [Blk.cells true (cT f), Blk.cells true (cT rzero)]) 3 40 R.v (AV.sl (t.length + 1) 0 3 1 (some 1)) = some (v', t2) := by simpa using a1
    have hv'c : v'.cell = true := by
      rcases a2 with ⟨rfl, _⟩ | ⟨_, _, _, _, _, rfl, _⟩ <;> rfl
    have hbl : b < t.length := (List.getElem?_eq_some_iff.1 h.cells).1
    have hbt2 : t2[b]? = some (.cells true (cE R)) := by
      rw [a4 b (by simp; omega) (fun o e' k c => h.apart o e' k c), List.getElem?_append_left (by simp; omega)]; exact h1.cells
    have hft2 : t2[t.length]? = some (.cells true (cT f)) := by
      rw [a4 t.length (by simp) (fun o e' k c hv => by have := h.rd.lt hv; omega), List.getElem?_append_left (by simp)]; exact get_last
    have hapart : ∀ o e k c, v' ≠ .sl b o e k c := fun o e k c hv => by
      rcases a6 _ _ _ _ _ hv with x | x
      · exact h.apart o e k c x
      · simp at x; omega
    have hfar : ∀ o e k c, v' ≠ .sl t.length o e k c := fun o e k c hv => by
      rcases a6 _ _ _ _ _ hv with x | x
      · have := h.rd.lt x; omega
      · simp at x; omega
    have sv : stA t2 none (.ptr b 0) v' = some (t2.set b (.cells true (cE { R with v := v' }))) := by
      rw [st_one hv'c, wr_own hbt2, if_pos ⟨by simp [cE], by simp [hv'c]⟩]; rfl
    have hR2 : RStep n b R { R with v := v', l := R.l ++ [rzero] } t (t2.set b (.cells true (cE { R with v := v' }))) := by
      refine ⟨⟨h.low, key_set (by simp at a3; omega), a2.keep fun i hi hv => ?_, hapart⟩, by simp at a3; simp; omega, fun i hi hn => ?_, fun i hi => ?_⟩
      · obtain ⟨o, e, k, c, hv⟩ := hv
        exact List.getElem?_set_ne (fun e' => hapart o e k c (by rw [e']; exact hv))
      · rw [List.getElem?_set_ne (fun e => hn (.inl e.symm)), a4 i (by simp; omega) (fun o e' k c hv => hn (.inr ⟨o, e', k, c, hv⟩)), List.getElem?_append_left (by simp; omega), List.getElem?_append_left hi]
      · rcases hi with rfl | ⟨o, e, k, c, hv⟩
        · exact .inl (.inl rfl)
        · rcases a6 _ _ _ _ _ hv with x | x
          · exact .inl (.inr ⟨o, e, k, c, x⟩)
          · right; simp at x; omega
    have hf2 : (t2.set b (.cells true (cE { R with v := v' })))[t.length]? = some (.cells true (cT f)) := by
      rw [List.getElem?_set_ne (by omega)]; exact hft2
    generalize t2.set b (.cells true (cE { R with v := v' })) = t3 at *
    have hA2 := hR2.at_
    have l02 := (rld hA2.cells).1
    (try simp only at l02)
    have hrl2 := hA2.rd.len
    (try simp only at hrl2)
    have hrl3 : ((R.l ++ [rzero]).length : Int) = (R.l.length : Int) + 1 := by simp
    rw [hrl3] at hrl2
    have hz1 : (List.replicate 1 [AV.str (bts []), .str (bts []), .int .i64 0]).flatten = [AV.str (bts []), .str (bts []), .int .i64 0] := rfl
    have hz2 : fillA [AV.str (bts []), .str (bts []), .int .i64 0] [] = some (cT rzero) := rfl
    have hz3 : fillA [AV.str (bts []), .str (bts []), .int .i64 0] [(0, 3, .agg (cT rzero))] = some (cT rzero) := rfl
    have hw2 : IntKind.i64.wrap ((R.l.length : Int) + 1 - 1) = (R.l.length : Int) := by rw [w64_in (by omega) (by omega)]; omega
    have hexit : (i < R.l.length ∧ ∃ q, R.l[i]? = some q ∧ ltB q.1 f.1 = false) ∨ ¬ i < R.l.length := by
      by_cases ci : i < R.l.length
      · refine .inl ⟨ci, _, List.getElem?_eq_getElem ci, ?_⟩
        cases hh : ltB (R.l[i]'ci).1 f.1 with
        | false => rfl
        | true => exact absurd ⟨ci, _, List.getElem?_eq_getElem ci, hh⟩ c
      · exact .inr ci
    have hjoin : ∀ (J2 : Env → St → Prop), True := fun _ => trivial
    rcases hexit with ⟨ci, q, hq, hlt⟩ | ci
    · obtain ⟨b1, o1, j1, j2, _⟩ := rdT h1.rd hq
      simp only [XX, CC, YY, Nat.reduceAdd, Nat.reduceSub, Nat.reduceLeDiff, Nat.reduceLT, Nat.reduceEqDiff, reduceIte, ↓reduceIte, Nat.reduceBEq]
      refine drw_in [] rfl ?_
      simp only [List.append_nil, DD, CC, YY, Nat.reduceAdd, Nat.reduceSub, Nat.reduceLeDiff, Nat.reduceLT, Nat.reduceEqDiff, reduceIte, ↓reduceIte, Nat.reduceBEq, g0, g3, g4, l0, h1.rd.len, dec_t (show (i : Int) < R.l.length by omega), gv_tt, j1, j2, lb, lss_S, hlt, hz1, hz2, hz3, a1', sv, l02, hrl2, hw2]
      refine awp_rounds (fun d e t' => ∃ j y, j = i + d ∧ j ≤ R.l.length ∧ RStep n b R { R with v := v', l := R.l.take j ++ y :: R.l.drop j } t t' ∧ t'[t.length]? = some (.cells true (cT f)) ∧ e.get 0 = .ptr b 0 ∧ e.get 3 = .ptr t.length 0 ∧ e.get 4 = .int .i64 i ∧ e.get 5 = .int .i64 j) (R.l.length - i) ?_ ?_
      · refine ⟨R.l.length, rzero, by omega, Nat.le_refl _, ?_, hf2, ?_, ?_, ?_, ?_⟩
        all_goals (try simp only [XX, CC, YY, Nat.reduceAdd, Nat.reduceSub, Nat.reduceLeDiff, Nat.reduceLT, Nat.reduceEqDiff, reduceIte, ↓reduceIte, Nat.reduceBEq, g0, g3, g4])
        rw [List.take_length, List.drop_length]; exact hR2
      clear g0 g3 g4
      rintro J d e t4 hJ ⟨j, y, hj, hjl, hst, hf4, g0, g3, g4, g5⟩
      have hA := hst.at_
      have l04 := (rld hA.cells).1
      (try simp only at l04)
      have hmlen := mid_len R.l j y hjl
      by_cases cj : i < j
      · obtain ⟨j', rfl⟩ : ∃ j', j = j' + 1 := ⟨j - 1, by omega⟩
        have hq : R.l[j']? = some (R.l[j']'(by omega)) := List.getElem?_eq_getElem _
        generalize R.l[j']'(by omega) = q at hq
        have hq' : ({ R with v := v', l := R.l.take (j' + 1) ++ y :: R.l.drop (j' + 1) } : Rsk).l[j']? = some q := mid_get R.l j' y hq
        obtain ⟨b1, o1, j1, j2⟩ := hA.rd.get cT_len hq'
        have j3 : ldA t4 (some 3) (.ptr b1 o1) = some (.agg (cT q)) := j2 (some 3) 0 (.agg (cT q)) rfl
        (try simp only at j1)
        obtain ⟨b2, t5, f1, f2, f3⟩ := RStep.elt hA (i := j' + 1) (by show j' + 1 < (R.l.take (j' + 1) ++ y :: R.l.drop (j' + 1)).length; omega) q
        (try simp only at f1)
        have hwj : IntKind.i64.wrap (((j' + 1 : Nat) : Int) - 1) = (j' : Int) := by rw [w64_in (by omega) (by omega)]; omega
        have hst5 := hst.trans f3
        (try simp only at hst5)
        rw [mid_set R.l (j' + 1) y q hjl, mid_down R.l j' hq] at hst5
        have hf5 : t5[t.length]? = some (.cells true (cT f)) := by
          rw [f3.same t.length (List.getElem?_eq_some_iff.1 hf4).1 (fun hf => by
            rcases hf with hf | ⟨o, e, k, c, hv⟩
            · omega
            · exact hfar o e k c hv)]; exact hf4
        simp only [XX, CC, YY, Nat.reduceAdd, Nat.reduceSub, Nat.reduceLeDiff, Nat.reduceLT, Nat.reduceEqDiff, reduceIte, ↓reduceIte, Nat.reduceBEq, g4, g5, dec_t (show ((j' + 1 : Nat) : Int) > (i : Int) by omega)]
        refine drw_in [] rfl ?_
        simp only [List.append_nil, DD, CC, YY, Nat.reduceAdd, Nat.reduceSub, Nat.reduceLeDiff, Nat.reduceLT, Nat.reduceEqDiff, reduceIte, ↓reduceIte, Nat.reduceBEq, g0, g3, g4, g5, l04, hwj, j1, j3, f1, f2]
        refine hJ (d - 1) _ _ (by omega) ⟨j', q, by omega, by omega, hst5, hf5, ?_, ?_, ?_, ?_⟩ <;> (try simp only [XX, CC, YY, Nat.reduceAdd, Nat.reduceSub, Nat.reduceLeDiff, Nat.reduceLT, Nat.reduceEqDiff, reduceIte, ↓reduceIte, Nat.reduceBEq, g0, g3, g4, g5, hwj])
      · have hji : j = i := by omega
        subst hji
        obtain ⟨b2, t5, f1, f2, f3⟩ := RStep.elt hA (i := j) (by show j < (R.l.take j ++ y :: R.l.drop j).length; omega) f
        (try simp only at f1)
        have hst5 := hst.trans f3
        (try simp only at hst5)
        rw [mid_set R.l j y f hjl] at hst5
        have lf : ldA t4 (some 3) (.ptr t.length 0) = some (.agg (cT f)) := by rw [ld_own hf4]; rfl
        simp only [XX, CC, YY, Nat.reduceAdd, Nat.reduceSub, Nat.reduceLeDiff, Nat.reduceLT, Nat.reduceEqDiff, reduceIte, ↓reduceIte, Nat.reduceBEq, g4, g5, dec_f (show ¬ (j : Int) > (j : Int) by omega)]
        refine drw_in [] rfl ?_
        simp only [List.append_nil, DD, CC, YY, Nat.reduceAdd, Nat.reduceSub, Nat.reduceLeDiff, Nat.reduceLT, Nat.reduceEqDiff, reduceIte, ↓reduceIte, Nat.reduceBEq, g0, g3, g4, g5, l04, lf, f1, f2]
        refine .inl ⟨rfl, v', ?_⟩
        unfold insT
        rw [hp]
        exact hst5
    · simp only [XX, CC, YY, Nat.reduceAdd, Nat.reduceSub, Nat.reduceLeDiff, Nat.reduceLT, Nat.reduceEqDiff, reduceIte, ↓reduceIte, Nat.reduceBEq]
      refine drw_in [] rfl ?_
      simp only [List.append_nil, DD, CC, YY, Nat.reduceAdd, Nat.reduceSub, Nat.reduceLeDiff, Nat.reduceLT, Nat.reduceEqDiff, reduceIte, ↓reduceIte, Nat.reduceBEq, g0, g3, g4, l0, h1.rd.len, dec_f (show ¬ (i : Int) < R.l.length by omega), gv_tf, hz1, hz2, hz3, a1', sv, l02, hrl2, hw2]
      refine awp_rounds (fun d e t' => ∃ j y, j = i + d ∧ j ≤ R.l.length ∧ RStep n b R { R with v := v', l := R.l.take j ++ y :: R.l.drop j } t t' ∧ t'[t.length]? = some (.cells true (cT f)) ∧ e.get 0 = .ptr b 0 ∧ e.get 3 = .ptr t.length 0 ∧ e.get 4 = .int .i64 i ∧ e.get 5 = .int .i64 j) (R.l.length - i) ?_ ?_
      · refine ⟨R.l.length, rzero, by omega, Nat.le_refl _, ?_, hf2, ?_, ?_, ?_, ?_⟩
        all_goals (try simp only [XX, CC, YY, Nat.reduceAdd, Nat.reduceSub, Nat.reduceLeDiff, Nat.reduceLT, Nat.reduceEqDiff, reduceIte, ↓reduceIte, Nat.reduceBEq, g0, g3, g4])
        rw [List.take_length, List.drop_length]; exact hR2
      clear g0 g3 g4
      rintro J d e t4 hJ ⟨j, y, hj, hjl, hst, hf4, g0, g3, g4, g5⟩
      have hA := hst.at_
      have l04 := (rld hA.cells).1
      (try simp only at l04)
      have hmlen := mid_len R.l j y hjl
      by_cases cj : i < j
      · obtain ⟨j', rfl⟩ : ∃ j', j = j' + 1 := ⟨j - 1, by omega⟩
        have hq : R.l[j']? = some (R.l[j']'(by omega)) := List.getElem?_eq_getElem _
        generalize R.l[j']'(by omega) = q at hq
        have hq' : ({ R with v := v', l := R.l.take (j' + 1) ++ y :: R.l.drop (j' + 1) } : Rsk).l[j']? = some q := mid_get R.l j' y hq
        obtain ⟨b1, o1, j1, j2⟩ := hA.rd.get cT_len hq'
        have j3 : ldA t4 (some 3) (.ptr b1 o1) = some (.agg (cT q)) := j2 (some 3) 0 (.agg (cT q)) rfl
        (try simp only at j1)
        obtain ⟨b2, t5, f1, f2, f3⟩ := RStep.elt hA (i := j' + 1) (by show j' + 1 < (R.l.take (j' + 1) ++ y :: R.l.drop (j' + 1)).length; omega) q
        (try simp only at f1)
        have hwj : IntKind.i64.wrap (((j' + 1 : Nat) : Int) - 1) = (j' : Int) := by rw [w64_in (by omega) (by omega)]; omega
        have hst5 := hst.trans f3
        (try simp only at hst5)
        rw [mid_set R.l (j' + 1) y q hjl, mid_down R.l j' hq] at hst5
        have hf5 : t5[t.length]? = some (.cells true (cT f)) := by
          rw [f3.same t.length (List.getElem?_eq_some_iff.1 hf4).1 (fun hf => by
            rcases hf with hf | ⟨o, e, k, c, hv⟩
            · omega
            · exact hfar o e k c hv)]; exact hf4
        simp only [XX, CC, YY, Nat.reduceAdd, Nat.reduceSub, Nat.reduceLeDiff, Nat.reduceLT, Nat.reduceEqDiff, reduceIte, ↓reduceIte, Nat.reduceBEq, g4, g5, dec_t (show ((j' + 1 : Nat) : Int) > (i : Int) by omega)]
        refine drw_in [] rfl ?_
        simp only [List.append_nil, DD, CC, YY, Nat.reduceAdd, Nat.reduceSub, Nat.reduceLeDiff, Nat.reduceLT, Nat.reduceEqDiff, reduceIte, ↓reduceIte, Nat.reduceBEq, g0, g3, g4, g5, l04, hwj, j1, j3, f1, f2]
        refine hJ (d - 1) _ _ (by omega) ⟨j', q, by omega, by omega, hst5, hf5, ?_, ?_, ?_, ?_⟩ <;> (try simp only [XX, CC, YY, Nat.reduceAdd, Nat.reduceSub, Nat.reduceLeDiff, Nat.reduceLT, Nat.reduceEqDiff, reduceIte, ↓reduceIte, Nat.reduceBEq, g0, g3, g4, g5, hwj])
      · have hji : j = i := by omega
        subst hji
        obtain ⟨b2, t5, f1, f2, f3⟩ := RStep.elt hA (i := j) (by show j < (R.l.take j ++ y :: R.l.drop j).length; omega) f
        (try simp only at f1)
        have hst5 := hst.trans f3
        (try simp only at hst5)
        rw [mid_set R.l j y f hjl] at hst5
        have lf : ldA t4 (some 3) (.ptr t.length 0) = some (.agg (cT f)) := by rw [ld_own hf4]; rfl
        simp only [XX, CC, YY, Nat.reduceAdd, Nat.reduceSub, Nat.reduceLeDiff, Nat.reduceLT, Nat.reduceEqDiff, reduceIte, ↓reduceIte, Nat.reduceBEq, g4, g5, dec_f (show ¬ (j : Int) > (j : Int) by omega)]
        refine drw_in [] rfl ?_
        simp only [List.append_nil, DD, CC, YY, Nat.reduceAdd, Nat.reduceSub, Nat.reduceLeDiff, Nat.reduceLT, Nat.reduceEqDiff, reduceIte, ↓reduceIte, Nat.reduceBEq, g0, g3, g4, g5, l04, lf, f1, f2]
        refine .inl ⟨rfl, v', ?_⟩
        unfold insT
        rw [hp]
        exact hst5
end Go.Ev

/-! The reference's disk: Append, Sync, Cut. -/
namespace Go.Ev
set_option linter.unusedVariables false
set_option linter.unusedSimpArgs false
open Go.Ev.So Go.Proofs
variable {T : Nat → Option RF} [Has T]

def rget (R : Rsk) (name : ByteArray) : Option RFil := R.l.find? fun f => decide (f.1 = name)
/-- A disk of the reference as it makes it. -/
structure RGd (R : Rsk) : Prop where
  ok : ROk R
  names : (R.l.map (·.1)).Nodup
def updT (name : ByteArray) (g : RFil → RFil) (f : RFil) : RFil := if f.1 = name then g f else f
theorem upd_set {l : List RFil} (hn : (l.map (·.1)).Nodup) (g : RFil → RFil) : ∀ {i : Nat} {f : RFil}, l[i]? = some f → l.set i (g f) = l.map (updT f.1 g) := by
  induction l with
  | nil => intro i f h; simp at h
  | cons x l ih =>
    intro i f h
    rw [List.map_cons, List.nodup_cons] at hn
    cases i with
    | zero =>
      have hx : x = f := by simpa using h
      subst hx
      rw [List.set_cons_zero, List.map_cons]
      have h1 : updT x.1 g x = g x := if_pos rfl
      rw [h1]
      congr 1
      exact ((List.map_congr_left (g := id) fun y hy => if_neg fun e => hn.1 (by rw [← e]; exact List.mem_map_of_mem hy)).trans (List.map_id l)).symm
    | succ i =>
      have hi : l[i]? = some f := by simpa using h
      rw [List.set_cons_succ, List.map_cons, ih hn.2 hi]
      congr 1
      unfold updT
      rw [if_neg]
      exact fun e => hn.1 (by rw [e]; exact List.mem_map_of_mem (List.mem_of_getElem? hi))
theorem upd_names (l : List RFil) (name : ByteArray) (g : RFil → RFil) (hg : ∀ f, (g f).1 = f.1) : (l.map (updT name g)).map (·.1) = l.map (·.1) := by
  rw [List.map_map]
  apply List.map_congr_left
  intro x _
  simp only [Function.comp, updT]
  split
  · exact hg x
  · rfl
theorem upd_gd {R : Rsk} (h : RGd R) {name : ByteArray} (g : RFil → RFil) (hg : ∀ f, (g f).1 = f.1) (hok : ∀ f, R.l.find? (fun f => decide (f.1 = name)) = some f → FOk (g f).2.1 (g f).2.2) : RGd { R with l := R.l.map (updT name g) } := by
  refine ⟨⟨fun x hx => ?_, ?_⟩, ?_⟩
  · obtain ⟨y, hy, rfl⟩ := List.mem_map.1 hx
    unfold updT
    split
    · rename_i c
      refine hok y ?_
      obtain ⟨i, hi⟩ := List.getElem?_of_mem hy
      rcases idx_find name R.l with ⟨_, h2⟩ | ⟨j, f, h1, h2, h3⟩
      · exfalso
        have := List.find?_eq_none.1 h2 y hy
        simp [c] at this
      · rw [h3]
        have hf := List.find?_some h3
        simp only [decide_eq_true_eq] at hf
        have hpw := List.pairwise_iff_getElem.1 h.names
        have hil := (List.getElem?_eq_some_iff.1 hi).1
        have hjl := (List.getElem?_eq_some_iff.1 h2).1
        have ei := (List.getElem?_eq_some_iff.1 hi).2
        have ej := (List.getElem?_eq_some_iff.1 h2).2
        rcases Nat.lt_trichotomy i j with k | k | k
        · exact absurd (by rw [List.getElem_map, List.getElem_map, ei, ej, c, hf]) (hpw i j (by simpa using hil) (by simpa using hjl) k)
        · subst k; rw [hi] at h2; exact h2.symm
        · exact absurd (by rw [List.getElem_map, List.getElem_map, ei, ej, c, hf]) (hpw j i (by simpa using hjl) (by simpa using hil) k)
    · exact h.ok.1 y hy
  · show (R.l.map (updT name g)).length ≤ 16
    rw [List.length_map]; exact h.ok.2
  · show ((R.l.map (updT name g)).map (·.1)).Nodup
    rw [upd_names _ _ _ hg]; exact h.names
theorem gone_gd {R : Rsk} (h : RGd R) (keep : Int) : RGd (rgone R keep) := by
  refine ⟨⟨fun x hx => ?_, ?_⟩, ?_⟩
  · obtain ⟨y, hy, rfl⟩ := List.mem_map.1 hx
    exact lose_ok (h.ok.1 y hy)
  · show (R.l.map (cutT keep)).length ≤ 16
    rw [List.length_map]; exact h.ok.2
  · show ((R.l.map (cutT keep)).map (·.1)).Nodup
    rw [List.map_map]; exact h.names
theorem RGd.same {R R' : Rsk} (h : RGd R) (hl : R'.l = R.l) : RGd R' := ⟨⟨by rw [hl]; exact h.ok.1, by rw [hl]; exact h.ok.2⟩, by rw [hl]; exact h.names⟩
theorem pow_gd {R : Rsk} (h : RGd R) : RGd (rpowV R) := by
  unfold rpowV; split
  · exact gone_gd h _
  · exact h.same rfl
theorem ins_perm (f : RFil) (l : List RFil) : (insT f l).Perm (f :: l) := by
  unfold insT
  refine List.perm_middle.trans (List.Perm.cons f ?_)
  rw [List.take_append_drop]
theorem ins_gd {R : Rsk} (h : RGd R) (f : RFil) (v : AV) (hf : ∀ g ∈ R.l, g.1 ≠ f.1) (hok : FOk f.2.1 f.2.2) (hl : R.l.length < 16) : RGd { R with l := insT f R.l, v := v } := by
  have hp := ins_perm f R.l
  refine ⟨⟨fun x hx => ?_, ?_⟩, ?_⟩
  · rcases List.mem_cons.1 (hp.mem_iff.1 hx) with rfl | hx
    · exact hok
    · exact h.ok.1 x hx
  · show (insT f R.l).length ≤ 16
    rw [hp.length_eq]; simp; omega
  · show ((insT f R.l).map (·.1)).Nodup
    rw [(hp.map _).nodup_iff, List.map_cons, List.nodup_cons]
    refine ⟨?_, h.names⟩
    intro hh
    obtain ⟨g, hg, e⟩ := List.mem_map.1 hh
    exact hf g hg e
theorem idx_ins (f : RFil) (l : List RFil) (hf : ∀ g ∈ l, g.1 ≠ f.1) : idxR f.1 (insT f l) 0 = (posT f.1 l : Int) ∧ (insT f l)[posT f.1 l]? = some f := by
  have hle := posT_le f.1 l
  have h2 : (insT f l)[posT f.1 l]? = some f := by
    unfold insT
    rw [List.getElem?_append_right (by simp; omega)]
    have : posT f.1 l - (l.take (posT f.1 l)).length = 0 := by simp; omega
    rw [this]; rfl
  refine ⟨?_, h2⟩
  have key : ∀ (pre suf : List RFil) (i : Nat), (∀ g ∈ pre, g.1 ≠ f.1) → idxR f.1 (pre ++ f :: suf) i = ((i + pre.length : Nat) : Int) := by
    intro pre
    induction pre with
    | nil => intro suf i _; simp [idxR]
    | cons g pre ih =>
      intro suf i hh
      rw [List.cons_append, idxR, if_neg (hh g (by simp)), ih suf (i + 1) fun x hx => hh x (by simp [hx])]
      simp; omega
  unfold insT
  rw [key _ _ _ fun g hg => hf g (List.mem_of_mem_take hg)]
  simp; omega
theorem ins_data (f : RFil) (l : List RFil) (g : RFil) (hg : g.1 = f.1) : (insT f l).set (posT f.1 l) g = insT g l := by
  unfold insT
  rw [mid_set _ _ _ _ (posT_le f.1 l), hg]

def rappC (R : Rsk) (name data : ByteArray) : Int := if rchkV R name ≠ 0 then rchkV R name else match rget R name with
  | some f => if (data.size : Int) > 1048576 - f.2.1.size then 63 else 0
  | none => if R.l.length ≥ 16 then 63 else if (data.size : Int) > 1048576 then 63 else 0
def rappM (R : Rsk) (name data : ByteArray) : List RFil := match rget R name with
  | some f => R.l.map (updT name fun f => (f.1, f.2.1 ++ data, f.2.2))
  | none => insT (name, bts [] ++ data, 0) R.l
def routC (R : Rsk) (c : Int) : Int := if c ≠ 0 then c else if R.left = 0 then 60 else 0
theorem rchkV_val (R : Rsk) (name : ByteArray) : rchkV R name = 0 ∨ rchkV R name = 60 ∨ rchkV R name = 61 := by
  unfold rchkV; split
  · exact .inr (.inl rfl)
  · split
    · exact .inl rfl
    · exact .inr (.inr rfl)
/-- What a call of the reference's disk leaves: R' up to its slice. -/
def RTo (n b : Nat) (R R' : Rsk) (t t' : St) : Prop := ∃ v, RStep n b R { R' with v := v } t t' ∧ RGd { R' with v := v }
theorem RTo.refl {n b : Nat} {R : Rsk} {t : St} (h : RAt t n b R) (hg : RGd R) : RTo n b R R t t := ⟨R.v, .refl h, hg⟩
theorem RStep.to {n b : Nat} {R R' : Rsk} {t t' : St} (h : RStep n b R R' t t') (hg : RGd R') : RTo n b R R' t t' := ⟨R'.v, h, hg⟩
set_option maxHeartbeats 4000000 in
theorem rappend_g (t : St) (n b : Nat) (R : Rsk) (name data : ByteArray) (h : RAt t n b R) (hg : RGd R) (hnt : n ≤ t.length) (hs : name.size < 140737488355328) (hds : data.size < 140737488355328) :
    Run T f_r06_Disk_Append [.ptr b 0, .str name, .str data] t fun v t' => v = .int .i64 (routC R (rappC R name data)) ∧ RTo n b R (if rappC R name data ≠ 0 then R else rpowV { R with l := rappM R name data }) t t' := by
  refine run_body (F := r_r06_Disk_Append) (has rfl) (by simp [r_r06_Disk_Append]) ?_
  have hl16 := hg.ok.2
  have l0 := (rld h.cells).1
  have hcv := rchkV_val R name
  have same : ∀ (c : Int), rappC R name data = c → c ≠ 0 → (AV.int .i64 c = .int .i64 (routC R (rappC R name data)) ∧ RTo n b R (if rappC R name data ≠ 0 then R else rpowV { R with l := rappM R name data }) t t) := by
    intro c h1 h2
    refine ⟨by unfold routC; rw [h1, if_pos h2], ?_⟩
    rw [h1, if_pos h2]; exact .refl h hg
  have hval : rappC R name data = if rchkV R name ≠ 0 then rchkV R name else match rget R name with
    | some f => if (data.size : Int) > 1048576 - f.2.1.size then 63 else 0
    | none => if R.l.length ≥ 16 then 63 else if (data.size : Int) > 1048576 then 63 else 0 := rfl
  have hM : rappM R name data = match rget R name with
    | some f => R.l.map (updT name fun f => (f.1, f.2.1 ++ data, f.2.2))
    | none => insT (name, bts [] ++ data, 0) R.l := rfl
  -- behind the writing
  have fin : rappC R name data = 0 → ∀ (t2 : St) (v2 : AV), RStep n b R { R with l := rappM R name data, v := v2 } t t2 → RGd { R with l := rappM R name data, v := v2 } →
      Run T f_r06_Disk_power [.ptr b 0] t2 fun v t' => v = .bool (decide (R.left ≠ 0)) ∧ (AV.int .i64 (if R.left = 0 then 60 else 0) = .int .i64 (routC R (rappC R name data)) ∧ RTo n b R (if rappC R name data ≠ 0 then R else rpowV { R with l := rappM R name data }) t t') := by
    intro h0 t2 v2 hst hgd
    refine Run.mono _ _ _ _ _ ?_ (rpower_g t2 n b _ hst.at_ hgd.ok)
    rintro v t' ⟨rfl, h2⟩
    refine ⟨rfl, by unfold routC; rw [h0]; simp, ?_⟩
    rw [h0, if_neg (by simp)]
    have hpg := pow_gd hgd
    have e : rpowV { R with l := rappM R name data, v := v2 } = { rpowV { R with l := rappM R name data } with v := v2 } := by
      unfold rpowV; split <;> rfl
    rw [e] at h2 hpg
    exact ⟨v2, hst.trans h2, hpg⟩
  simp only [r_r06_Disk_Append, XX, CC, YY, Nat.reduceAdd, Nat.reduceSub, Nat.reduceLeDiff, Nat.reduceLT, Nat.reduceEqDiff, reduceIte, ↓reduceIte, Nat.reduceBEq]
  refine (rcheck_r t b R name h.cells hs).use ?_
  generalize rchkV R name = e at *
  have em : e = 0 ∨ ¬ e = 0 := Classical.em _
  rcases em with c | c
  rotate_left
  · have c' : (e == 0) = false := by simp [c]
    rw [if_pos c] at hval
    simp only [XX, CC, YY, Nat.reduceAdd, Nat.reduceSub, Nat.reduceLeDiff, Nat.reduceLT, Nat.reduceEqDiff, reduceIte, ↓reduceIte, Nat.reduceBEq, c', Bool.not_false]
    exact .inl (same e hval c)
  subst c
  rw [if_neg (by simp)] at hval
  simp only [XX, CC, YY, Nat.reduceAdd, Nat.reduceSub, Nat.reduceLeDiff, Nat.reduceLT, Nat.reduceEqDiff, reduceIte, ↓reduceIte, Nat.reduceBEq, show ((0 : Int) == 0) = true from rfl, Bool.not_true]
  refine (rplace_r t b R name h.cells h.rd (by omega)).use ?_
  have eml : R.left = 0 ∨ ¬ R.left = 0 := Classical.em _
  rcases idx_find name R.l with ⟨h1, h2⟩ | ⟨j, f, h1, h2, h3⟩
  · -- a new file
    have hr : rget R name = none := h2
    rw [hr] at hval hM
    simp only at hval hM
    rw [h1]
    by_cases c2 : (R.l.length : Int) ≥ 16
    · rw [if_pos (by omega)] at hval
      simp only [XX, CC, YY, Nat.reduceAdd, Nat.reduceSub, Nat.reduceLeDiff, Nat.reduceLT, Nat.reduceEqDiff, reduceIte, ↓reduceIte, Nat.reduceBEq, show decide ((-1 : Int) < 0) = true from rfl, gv_tt, gv_ft, l0, h.rd.len, dec_t c2]
      exact .inl (same 63 hval (by decide))
    rw [if_neg (by omega)] at hval
    by_cases c3 : (data.size : Int) > 1048576
    · rw [if_pos c3] at hval
      simp only [XX, CC, YY, Nat.reduceAdd, Nat.reduceSub, Nat.reduceLeDiff, Nat.reduceLT, Nat.reduceEqDiff, reduceIte, ↓reduceIte, Nat.reduceBEq, show decide ((-1 : Int) < 0) = true from rfl, gv_tt, gv_ff, gv_ft, l0, h.rd.len, dec_f c2, dec_t c3]
      exact .inl (same 63 hval (by decide))
    rw [if_neg c3] at hval
    have hnm : ∀ g ∈ R.l, g.1 ≠ name := fun g hgm => by simpa using List.find?_eq_none.1 h2 g hgm
    have hfz : fillA [AV.str (bts []), .str (bts []), .int .i64 0] [(0, 1, .str name)] = some (cT (name, bts [], 0)) := rfl
    have hput := rput_r (T := T) t n b R (name, bts [], 0) h hnt hl16
    simp only [XX, CC, YY, Nat.reduceAdd, Nat.reduceSub, Nat.reduceLeDiff, Nat.reduceLT, Nat.reduceEqDiff, reduceIte, ↓reduceIte, Nat.reduceBEq, show decide ((-1 : Int) < 0) = true from rfl, show decide ((-1 : Int) ≥ 0) = false from rfl, gv_tt, gv_ff, gv_tf, l0, h.rd.len, dec_f c2, dec_f c3, hfz]
    refine Run.mono _ _ _ _ _ ?_ hput
    rintro v t2 ⟨rfl, v', hst⟩
    have hA := hst.at_
    obtain ⟨i1, i2⟩ := idx_ins (name, bts [], 0) R.l hnm
    have hgd2 : RGd { R with l := insT (name, bts [], 0) R.l, v := v' } := ins_gd hg (name, bts [], 0) v' hnm ⟨Int.le_refl _, by simp, Nat.zero_le _⟩ (by omega)
    have hplace := rplace_r (T := T) t2 b _ name hA.cells hA.rd (by have := hgd2.ok.2; omega)
    (try simp only at hplace i1)
    rw [i1] at hplace
    have hposl := posT_le name R.l
    have l02 := (rld hA.cells).1
    (try simp only at l02)
    obtain ⟨b1, o1, j1, j2, j3, j4⟩ := rdT hA.rd i2
    (try simp only at j1 j3)
    obtain ⟨b2, t3, f1, f2, f3⟩ := RStep.fld hA i2 (k := 1) (u := .str (bts [] ++ data)) (q' := (name, bts [] ++ data, 0)) (by decide) rfl rfl
    (try simp only at f1)
    have hb12 : (AV.ptr b1 o1) = .ptr b2 (posT name R.l * 3) := by have := (j1 .i64).symm.trans (f1 .i64); simpa using this
    simp only [AV.ptr.injEq] at hb12
    obtain ⟨rfl, rfl⟩ := hb12
    have hadd := add_s (a := bts []) (b := data) (by rw [show (bts []).size = 0 from rfl]; omega)
    have hst3 := hst.trans f3
    (try simp only at hst3)
    rw [ins_data (name, bts [], 0) R.l (name, bts [] ++ data, 0) rfl, ← hM] at hst3
    have hgd3 : RGd { R with l := rappM R name data, v := v' } := by
      rw [hM]; exact ins_gd hg (name, bts [] ++ data, 0) v' hnm ⟨Int.le_refl _, Int.natCast_nonneg _, by simp only [app_size, show (bts []).size = 0 from rfl]; omega⟩ (by omega)
    have hp := fin hval t3 v' hst3 hgd3
    (try simp only [XX, CC, YY, Nat.reduceAdd, Nat.reduceSub, Nat.reduceLeDiff, Nat.reduceLT, Nat.reduceEqDiff, reduceIte, ↓reduceIte, Nat.reduceBEq])
    refine hplace.use ?_
    rcases eml with ce | ce
    all_goals
      (try simp only [XX, CC, YY, Nat.reduceAdd, Nat.reduceSub, Nat.reduceLeDiff, Nat.reduceLT, Nat.reduceEqDiff, reduceIte, ↓reduceIte, Nat.reduceBEq])
      refine drw_in [] rfl ?_
      simp only [List.append_nil, DD, CC, YY, Nat.reduceAdd, Nat.reduceSub, Nat.reduceLeDiff, Nat.reduceLT, Nat.reduceEqDiff, reduceIte, ↓reduceIte, Nat.reduceBEq, l02, j1, j3, hadd, f2]
      refine Run.mono _ _ _ _ _ ?_ hp
      rintro v t4 ⟨rfl, hh⟩
    · rw [if_pos ce] at hh
      simp only [XX, CC, YY, Nat.reduceAdd, Nat.reduceSub, Nat.reduceLeDiff, Nat.reduceLT, Nat.reduceEqDiff, reduceIte, ↓reduceIte, Nat.reduceBEq, dec_f (fun hx : R.left ≠ 0 => hx ce), Bool.not_false]
      exact .inl hh
    · rw [if_neg ce] at hh
      simp only [XX, CC, YY, Nat.reduceAdd, Nat.reduceSub, Nat.reduceLeDiff, Nat.reduceLT, Nat.reduceEqDiff, reduceIte, ↓reduceIte, Nat.reduceBEq, dec_t (show R.left ≠ 0 from ce), Bool.not_true]
      exact .inl hh
  · -- a file that is there
    have hr : rget R name = some f := h3
    rw [hr] at hval hM
    simp only at hval hM
    rw [h1]
    have hfok : FOk f.2.1 f.2.2 := hg.ok.1 f (List.mem_of_getElem? h2)
    unfold FOk at hfok
    have hfn : f.1 = name := by have := List.find?_some h3; simpa using this
    have hw : IntKind.i64.wrap (1048576 - (f.2.1.size : Int)) = 1048576 - (f.2.1.size : Int) := w64_in (by omega) (by omega)
    obtain ⟨b1, o1, j1, j2, j3, j4⟩ := rdT h.rd h2
    by_cases c3 : (data.size : Int) > 1048576 - f.2.1.size
    · rw [if_pos c3] at hval
      simp only [XX, CC, YY, Nat.reduceAdd, Nat.reduceSub, Nat.reduceLeDiff, Nat.reduceLT, Nat.reduceEqDiff, reduceIte, ↓reduceIte, Nat.reduceBEq, dec_f (show ¬ (j : Int) < 0 by omega), dec_t (show (j : Int) ≥ 0 by omega), gv_tf, gv_ff, gv_tt, gv_u, l0, j1, j3, hw, dec_t c3]
      exact .inl (same 63 hval (by decide))
    rw [if_neg c3] at hval
    obtain ⟨b2, t3, f1, f2, f3⟩ := RStep.fld h h2 (k := 1) (u := .str (f.2.1 ++ data)) (q' := (f.1, f.2.1 ++ data, f.2.2)) (by decide) rfl rfl
    have hb12 : (AV.ptr b1 o1) = .ptr b2 (j * 3) := by have := (j1 .i64).symm.trans (f1 .i64); simpa using this
    simp only [AV.ptr.injEq] at hb12
    obtain ⟨rfl, rfl⟩ := hb12
    have hadd := add_s (a := f.2.1) (b := data) (by omega)
    have hset := upd_set hg.names (fun f => (f.1, f.2.1 ++ data, f.2.2)) h2
    rw [hfn] at hset
    have hset' : R.l.set j (f.1, f.2.1 ++ data, f.2.2) = rappM R name data := by rw [hM, ← hset, hfn]
    rw [hset'] at f3
    have hgd3 : RGd { R with l := rappM R name data, v := R.v } := by
      rw [hM]
      refine upd_gd hg _ (fun _ => rfl) fun g hgg => ?_
      rw [h3] at hgg
      cases hgg
      unfold FOk
      simp only [app_size]
      omega
    have hp := fin hval t3 R.v f3 hgd3
    rcases eml with ce | ce
    all_goals
      simp only [XX, CC, YY, Nat.reduceAdd, Nat.reduceSub, Nat.reduceLeDiff, Nat.reduceLT, Nat.reduceEqDiff, reduceIte, ↓reduceIte, Nat.reduceBEq, dec_f (show ¬ (j : Int) < 0 by omega), dec_t (show (j : Int) ≥ 0 by omega), gv_tf, gv_ff, gv_tt, gv_u, l0, j1, j3, hw, dec_f c3]
      refine drw_in [] rfl ?_
      simp only [List.append_nil, DD, CC, YY, Nat.reduceAdd, Nat.reduceSub, Nat.reduceLeDiff, Nat.reduceLT, Nat.reduceEqDiff, reduceIte, ↓reduceIte, Nat.reduceBEq, l0, j1, j3, hadd, f2]
      refine Run.mono _ _ _ _ _ ?_ hp
      rintro v t4 ⟨rfl, hh⟩
    · rw [if_pos ce] at hh
      simp only [XX, CC, YY, Nat.reduceAdd, Nat.reduceSub, Nat.reduceLeDiff, Nat.reduceLT, Nat.reduceEqDiff, reduceIte, ↓reduceIte, Nat.reduceBEq, dec_f (fun hx : R.left ≠ 0 => hx ce), Bool.not_false]
      exact .inl hh
    · rw [if_neg ce] at hh
      simp only [XX, CC, YY, Nat.reduceAdd, Nat.reduceSub, Nat.reduceLeDiff, Nat.reduceLT, Nat.reduceEqDiff, reduceIte, ↓reduceIte, Nat.reduceBEq, dec_t (show R.left ≠ 0 from ce), Bool.not_true]
      exact .inl hh
end Go.Ev

/-! The reference's disk: Sync, Cut. -/
namespace Go.Ev
set_option linter.unusedVariables false
set_option linter.unusedSimpArgs false
open Go.Ev.So Go.Proofs
variable {T : Nat → Option RF} [Has T]

def rsyncC (R : Rsk) (name : ByteArray) : Int := if rchkV R name ≠ 0 then rchkV R name else match rget R name with
  | some _ => 0
  | none => 62
def rthen (R : Rsk) (c : Int) (name : ByteArray) (g : RFil → RFil) : Rsk := if c ≠ 0 then R else if R.left = 0 then rgone R R.keep else { rpow R with l := R.l.map (updT name g) }
def rsafe (f : RFil) : RFil := (f.1, f.2.1, f.2.1.size)
theorem rpow_to {n b : Nat} {R : Rsk} {t t1 : St} (h : RStep n b R (rpowV R) t t1) (hg : RGd R) (c : Int) (hc : c = 0) (name : ByteArray) (g : RFil → RFil) (hl : R.left = 0) : RTo n b R (rthen R c name g) t t1 := by
  unfold rthen
  rw [if_neg (by simp [hc]), if_pos hl]
  have e : rpowV R = rgone R R.keep := if_pos hl
  rw [e] at h
  exact h.to (gone_gd hg _)
set_option maxHeartbeats 4000000 in
theorem rsync_g (t : St) (n b : Nat) (R : Rsk) (name : ByteArray) (h : RAt t n b R) (hg : RGd R) (hs : name.size < 140737488355328) :
    Run T f_r06_Disk_Sync [.ptr b 0, .str name] t fun v t' => v = .int .i64 (routC R (rsyncC R name)) ∧ RTo n b R (rthen R (rsyncC R name) name rsafe) t t' := by
  refine run_body (F := r_r06_Disk_Sync) (has rfl) (by simp [r_r06_Disk_Sync]) ?_
  have hl16 := hg.ok.2
  have same : ∀ (c : Int), rsyncC R name = c → c ≠ 0 → (AV.int .i64 c = .int .i64 (routC R (rsyncC R name)) ∧ RTo n b R (rthen R (rsyncC R name) name rsafe) t t) := by
    intro c h1 h2
    refine ⟨by unfold routC; rw [h1, if_pos h2], ?_⟩
    unfold rthen
    rw [h1, if_pos h2]; exact .refl h hg
  have hval : rsyncC R name = if rchkV R name ≠ 0 then rchkV R name else match rget R name with
    | some _ => 0
    | none => 62 := rfl
  simp only [r_r06_Disk_Sync, XX, CC, YY, Nat.reduceAdd, Nat.reduceSub, Nat.reduceLeDiff, Nat.reduceLT, Nat.reduceEqDiff, reduceIte, ↓reduceIte, Nat.reduceBEq]
  refine (rcheck_r t b R name h.cells hs).use ?_
  generalize rchkV R name = e at *
  have em : e = 0 ∨ ¬ e = 0 := Classical.em _
  rcases em with c | c
  rotate_left
  · have c' : (e == 0) = false := by simp [c]
    rw [if_pos c] at hval
    simp only [XX, CC, YY, Nat.reduceAdd, Nat.reduceSub, Nat.reduceLeDiff, Nat.reduceLT, Nat.reduceEqDiff, reduceIte, ↓reduceIte, Nat.reduceBEq, c', Bool.not_false]
    exact .inl (same e hval c)
  subst c
  rw [if_neg (by simp)] at hval
  simp only [XX, CC, YY, Nat.reduceAdd, Nat.reduceSub, Nat.reduceLeDiff, Nat.reduceLT, Nat.reduceEqDiff, reduceIte, ↓reduceIte, Nat.reduceBEq, show ((0 : Int) == 0) = true from rfl, Bool.not_true]
  refine (rplace_r t b R name h.cells h.rd (by omega)).use ?_
  rcases idx_find name R.l with ⟨h1, h2⟩ | ⟨j, f, h1, h2, h3⟩
  · have hr : rget R name = none := h2
    rw [hr] at hval
    rw [h1]
    simp only [XX, CC, YY, Nat.reduceAdd, Nat.reduceSub, Nat.reduceLeDiff, Nat.reduceLT, Nat.reduceEqDiff, reduceIte, ↓reduceIte, Nat.reduceBEq, show decide ((-1 : Int) < 0) = true from rfl]
    exact .inl (same 62 hval (by decide))
  have hr : rget R name = some f := h3
  rw [hr] at hval
  simp only at hval
  rw [h1]
  have hfn : f.1 = name := by have := List.find?_some h3; simpa using this
  have hfok : FOk f.2.1 f.2.2 := hg.ok.1 f (List.mem_of_getElem? h2)
  have eml : R.left = 0 ∨ ¬ R.left = 0 := Classical.em _
  have hrt : rsyncC R name = 0 → routC R (rsyncC R name) = if R.left = 0 then 60 else 0 := fun h0 => by unfold routC; rw [h0]; simp
  rcases eml with ce | ce
  · simp only [XX, CC, YY, Nat.reduceAdd, Nat.reduceSub, Nat.reduceLeDiff, Nat.reduceLT, Nat.reduceEqDiff, reduceIte, ↓reduceIte, Nat.reduceBEq, dec_f (show ¬ (j : Int) < 0 by omega)]
    refine Run.mono _ _ _ _ _ ?_ (rpower_g t n b R h hg.ok)
    rintro v t1 ⟨rfl, hst⟩
    simp only [XX, CC, YY, Nat.reduceAdd, Nat.reduceSub, Nat.reduceLeDiff, Nat.reduceLT, Nat.reduceEqDiff, reduceIte, ↓reduceIte, Nat.reduceBEq, dec_f (fun hx : R.left ≠ 0 => hx ce), Bool.not_false]
    exact .inl ⟨by rw [hrt hval, if_pos ce], rpow_to hst hg _ hval name _ ce⟩
  · have heq : rpowV R = rpow R := if_neg ce
    simp only [XX, CC, YY, Nat.reduceAdd, Nat.reduceSub, Nat.reduceLeDiff, Nat.reduceLT, Nat.reduceEqDiff, reduceIte, ↓reduceIte, Nat.reduceBEq, dec_f (show ¬ (j : Int) < 0 by omega)]
    refine Run.mono _ _ _ _ _ ?_ (rpower_g t n b R h hg.ok)
    rintro v t1 ⟨rfl, hst⟩
    rw [heq] at hst
    have hA := hst.at_
    have h2' : (rpow R).l[j]? = some f := h2
    have l0 := (rld hA.cells).1
    obtain ⟨b1, o1, j1, j2, j3, j4⟩ := rdT hA.rd h2'
    obtain ⟨b2, t3, f1, f2, f3⟩ := RStep.fld hA h2' (k := 2) (u := .int .i64 f.2.1.size) (q' := rsafe f) (by decide) rfl rfl
    have hb12 : (AV.ptr b1 o1) = .ptr b2 (j * 3) := by have := (j1 .i64).symm.trans (f1 .i64); simpa using this
    simp only [AV.ptr.injEq] at hb12
    obtain ⟨rfl, rfl⟩ := hb12
    have hset := upd_set hg.names rsafe h2
    rw [hfn] at hset
    have hgd : RGd { R with l := R.l.map (updT name rsafe) } := upd_gd hg rsafe (fun _ => rfl) fun g hgg => by
      rw [h3] at hgg; cases hgg
      unfold FOk at hfok ⊢
      simp only [rsafe]; omega
    have hto : RTo n b R (rthen R (rsyncC R name) name rsafe) t t3 := by
      unfold rthen
      rw [if_neg (by simp [hval]), if_neg ce]
      refine ⟨(rpow R).v, ?_, hgd.same rfl⟩
      have := hst.trans f3
      rw [show (rpow R).l.set j (rsafe f) = R.l.map (updT name rsafe) from hset] at this
      exact this
    simp only [XX, CC, YY, Nat.reduceAdd, Nat.reduceSub, Nat.reduceLeDiff, Nat.reduceLT, Nat.reduceEqDiff, reduceIte, ↓reduceIte, Nat.reduceBEq, dec_t (show R.left ≠ 0 from ce), Bool.not_true]
    refine drw_in [] rfl ?_
    simp only [List.append_nil, DD, CC, YY, Nat.reduceAdd, Nat.reduceSub, Nat.reduceLeDiff, Nat.reduceLT, Nat.reduceEqDiff, reduceIte, ↓reduceIte, Nat.reduceBEq, l0, j1, j3, f2]
    exact .inl ⟨by rw [hrt hval, if_neg ce], hto⟩

def rcutC (R : Rsk) (name : ByteArray) (m : Int) : Int := if rchkV R name ≠ 0 then rchkV R name else match rget R name with
  | some f => if m < 0 ∨ m > f.2.1.size then 1 else 0
  | none => 62
def rcutF (m : Int) (f : RFil) : RFil := (f.1, f.2.1.extract 0 m.toNat, m)
set_option maxHeartbeats 4000000 in
theorem rcut_g (t : St) (n b : Nat) (R : Rsk) (name : ByteArray) (m : Int) (h : RAt t n b R) (hg : RGd R) (hs : name.size < 140737488355328) :
    Run T f_r06_Disk_Cut [.ptr b 0, .str name, .int .i64 m] t fun v t' => v = .int .i64 (routC R (rcutC R name m)) ∧ RTo n b R (rthen R (rcutC R name m) name (rcutF m)) t t' := by
  refine run_body (F := r_r06_Disk_Cut) (has rfl) (by simp [r_r06_Disk_Cut]) ?_
  have hl16 := hg.ok.2
  have l00 := (rld h.cells).1
  have same : ∀ (c : Int), rcutC R name m = c → c ≠ 0 → (AV.int .i64 c = .int .i64 (routC R (rcutC R name m)) ∧ RTo n b R (rthen R (rcutC R name m) name (rcutF m)) t t) := by
    intro c h1 h2
    refine ⟨by unfold routC; rw [h1, if_pos h2], ?_⟩
    unfold rthen
    rw [h1, if_pos h2]; exact .refl h hg
  have hval : rcutC R name m = if rchkV R name ≠ 0 then rchkV R name else match rget R name with
    | some f => if m < 0 ∨ m > f.2.1.size then 1 else 0
    | none => 62 := rfl
  simp only [r_r06_Disk_Cut, XX, CC, YY, Nat.reduceAdd, Nat.reduceSub, Nat.reduceLeDiff, Nat.reduceLT, Nat.reduceEqDiff, reduceIte, ↓reduceIte, Nat.reduceBEq]
  refine (rcheck_r t b R name h.cells hs).use ?_
  generalize rchkV R name = e at *
  have em : e = 0 ∨ ¬ e = 0 := Classical.em _
  rcases em with c | c
  rotate_left
  · have c' : (e == 0) = false := by simp [c]
    rw [if_pos c] at hval
    simp only [XX, CC, YY, Nat.reduceAdd, Nat.reduceSub, Nat.reduceLeDiff, Nat.reduceLT, Nat.reduceEqDiff, reduceIte, ↓reduceIte, Nat.reduceBEq, c', Bool.not_false]
    exact .inl (same e hval c)
  subst c
  rw [if_neg (by simp)] at hval
  simp only [XX, CC, YY, Nat.reduceAdd, Nat.reduceSub, Nat.reduceLeDiff, Nat.reduceLT, Nat.reduceEqDiff, reduceIte, ↓reduceIte, Nat.reduceBEq, show ((0 : Int) == 0) = true from rfl, Bool.not_true]
  refine (rplace_r t b R name h.cells h.rd (by omega)).use ?_
  rcases idx_find name R.l with ⟨h1, h2⟩ | ⟨j, f, h1, h2, h3⟩
  · have hr : rget R name = none := h2
    rw [hr] at hval
    rw [h1]
    simp only [XX, CC, YY, Nat.reduceAdd, Nat.reduceSub, Nat.reduceLeDiff, Nat.reduceLT, Nat.reduceEqDiff, reduceIte, ↓reduceIte, Nat.reduceBEq, show decide ((-1 : Int) < 0) = true from rfl]
    exact .inl (same 62 hval (by decide))
  have hr : rget R name = some f := h3
  rw [hr] at hval
  simp only at hval
  rw [h1]
  have hfn : f.1 = name := by have := List.find?_some h3; simpa using this
  have hfok : FOk f.2.1 f.2.2 := hg.ok.1 f (List.mem_of_getElem? h2)
  obtain ⟨b0, o0, i1, i2, i3, i4⟩ := rdT h.rd h2
  have em1 : m < 0 ∨ ¬ m < 0 := Classical.em _
  rcases em1 with c1 | c1
  · rw [if_pos (.inl c1)] at hval
    simp only [XX, CC, YY, Nat.reduceAdd, Nat.reduceSub, Nat.reduceLeDiff, Nat.reduceLT, Nat.reduceEqDiff, reduceIte, ↓reduceIte, Nat.reduceBEq, dec_f (show ¬ (j : Int) < 0 by omega), dec_t c1, gv_ft]
    exact .inl (same 1 hval (by decide))
  have em2 : m > (f.2.1.size : Int) ∨ ¬ m > (f.2.1.size : Int) := Classical.em _
  rcases em2 with c2 | c2
  · rw [if_pos (.inr c2)] at hval
    simp only [XX, CC, YY, Nat.reduceAdd, Nat.reduceSub, Nat.reduceLeDiff, Nat.reduceLT, Nat.reduceEqDiff, reduceIte, ↓reduceIte, Nat.reduceBEq, dec_f (show ¬ (j : Int) < 0 by omega), dec_f c1, gv_ff, l00, i1, i3, dec_t c2]
    exact .inl (same 1 hval (by decide))
  rw [if_neg (by omega)] at hval
  have eml : R.left = 0 ∨ ¬ R.left = 0 := Classical.em _
  have hrt : rcutC R name m = 0 → routC R (rcutC R name m) = if R.left = 0 then 60 else 0 := fun h0 => by unfold routC; rw [h0]; simp
  rcases eml with ce | ce
  · simp only [XX, CC, YY, Nat.reduceAdd, Nat.reduceSub, Nat.reduceLeDiff, Nat.reduceLT, Nat.reduceEqDiff, reduceIte, ↓reduceIte, Nat.reduceBEq, dec_f (show ¬ (j : Int) < 0 by omega), dec_f c1, gv_ff, l00, i1, i3, dec_f c2]
    refine Run.mono _ _ _ _ _ ?_ (rpower_g t n b R h hg.ok)
    rintro v t1 ⟨rfl, hst⟩
    simp only [XX, CC, YY, Nat.reduceAdd, Nat.reduceSub, Nat.reduceLeDiff, Nat.reduceLT, Nat.reduceEqDiff, reduceIte, ↓reduceIte, Nat.reduceBEq, dec_f (fun hx : R.left ≠ 0 => hx ce), Bool.not_false]
    exact .inl ⟨by rw [hrt hval, if_pos ce], rpow_to hst hg _ hval name _ ce⟩
  · have heq : rpowV R = rpow R := if_neg ce
    simp only [XX, CC, YY, Nat.reduceAdd, Nat.reduceSub, Nat.reduceLeDiff, Nat.reduceLT, Nat.reduceEqDiff, reduceIte, ↓reduceIte, Nat.reduceBEq, dec_f (show ¬ (j : Int) < 0 by omega), dec_f c1, gv_ff, l00, i1, i3, dec_f c2]
    refine Run.mono _ _ _ _ _ ?_ (rpower_g t n b R h hg.ok)
    rintro v t1 ⟨rfl, hst⟩
    rw [heq] at hst
    have hA := hst.at_
    have h2' : (rpow R).l[j]? = some f := h2
    have l0 := (rld hA.cells).1
    obtain ⟨b1, o1, j1, j2, j3, j4⟩ := rdT hA.rd h2'
    obtain ⟨b2, t3, f1, f2, f3⟩ := RStep.fld hA h2' (k := 1) (u := .str (f.2.1.extract 0 m.toNat)) (q' := (f.1, f.2.1.extract 0 m.toNat, f.2.2)) (by decide) rfl rfl
    have hb12 : (AV.ptr b1 o1) = .ptr b2 (j * 3) := by have := (j1 .i64).symm.trans (f1 .i64); simpa using this
    simp only [AV.ptr.injEq] at hb12
    obtain ⟨rfl, rfl⟩ := hb12
    have hA3 := f3.at_
    have hjl := (List.getElem?_eq_some_iff.1 h2).1
    have h2'' : ({ rpow R with l := (rpow R).l.set j (f.1, f.2.1.extract 0 m.toNat, f.2.2) } : Rsk).l[j]? = some (f.1, f.2.1.extract 0 m.toNat, f.2.2) := List.getElem?_set_self hjl
    obtain ⟨b4, t4, p1, p2, p3⟩ := RStep.fld hA3 h2'' (k := 2) (u := .int .i64 m) (q' := rcutF m f) (by decide) rfl rfl
    (try simp only at p1)
    have hb14 : (AV.ptr b4 (j * 3)) = .ptr b1 (j * 3) := by have := (p1 .i64).symm.trans (f1 .i64); simpa using this
    simp only [AV.ptr.injEq, and_true] at hb14
    subst hb14
    have p2' : wrA t3 b4 (j * 3 + 2) [AV.int .i64 m] = some t4 := by rw [← p2, st_one (by rfl)]
    have l03 := (rld hA3.cells).1
    (try simp only at l03)
    have hsl : slsA (.str f.2.1) none (some (.int .i64 m)) = some (.str (f.2.1.extract 0 m.toNat)) := by
      simp only [slsA, boundA]
      rw [if_pos (by omega)]
    have hsz := extract_size (d := f.2.1) (n := m) (by omega) (by omega)
    have hset := upd_set hg.names (rcutF m) h2
    rw [hfn] at hset
    have hgd : RGd { R with l := R.l.map (updT name (rcutF m)) } := upd_gd hg (rcutF m) (fun _ => rfl) fun g hgg => by
      rw [h3] at hgg; cases hgg
      unfold FOk at hfok ⊢
      simp only [rcutF]; omega
    have hto : RTo n b R (rthen R (rcutC R name m) name (rcutF m)) t t4 := by
      unfold rthen
      rw [if_neg (by simp [hval]), if_neg ce]
      refine ⟨(rpow R).v, ?_, hgd.same rfl⟩
      have := (hst.trans f3).trans p3
      (try simp only at this)
      rw [List.set_set, show (rpow R).l.set j (rcutF m f) = R.l.map (updT name (rcutF m)) from hset] at this
      exact this
    simp only [XX, CC, YY, Nat.reduceAdd, Nat.reduceSub, Nat.reduceLeDiff, Nat.reduceLT, Nat.reduceEqDiff, reduceIte, ↓reduceIte, Nat.reduceBEq, dec_t (show R.left ≠ 0 from ce), Bool.not_true]
    refine drw_in [] rfl ?_
    simp only [List.append_nil, DD, CC, YY, Nat.reduceAdd, Nat.reduceSub, Nat.reduceLeDiff, Nat.reduceLT, Nat.reduceEqDiff, reduceIte, ↓reduceIte, Nat.reduceBEq, l0, j1, j3, hsl, f2, l03, p1, p2, p2']
    exact .inl ⟨by rw [hrt hval, if_neg ce], hto⟩
end Go.Ev

/-! The program's disk and the reference's: one and the same. -/
namespace Go.Ev
set_option linter.unusedVariables false
set_option linter.unusedSimpArgs false
open Go.Ev.So Go.Proofs

def rappTo (R : Rsk) (name p : ByteArray) : Rsk := if rappC R name p ≠ 0 then R else rpowV { R with l := rappM R name p }
def rsyncTo (R : Rsk) (name : ByteArray) : Rsk := rthen R (rsyncC R name) name rsafe
def toT (f : Fil × Nat) : RFil := (f.1.name, f.1.data, f.1.safe)
structure PR (D : Dsk) (R : Rsk) : Prop where
  down : R.down = D.down
  n : R.n = D.steps
  arm : (D.armed = true ∧ R.left = D.left ∧ 0 ≤ D.left ∧ D.left ≤ 9223372036854775807 ∧ R.keep = D.keep) ∨ (D.armed = false ∧ R.left = -1)
  perm : R.l.Perm (D.fs.map toT)
  names : (D.fs.map (·.1.name)).Nodup
theorem find_perm {l1 l2 : List RFil} (hp : l1.Perm l2) (hn : (l2.map (·.1)).Nodup) (name : ByteArray) : (l1.find? fun f => decide (f.1 = name)) = l2.find? fun f => decide (f.1 = name) := by
  have uniq : ∀ {l : List RFil}, (l.map (·.1)).Nodup → ∀ {a b : RFil}, a ∈ l → b ∈ l → a.1 = b.1 → a = b := by
    intro l
    induction l with
    | nil => intro _ a b ha; cases ha
    | cons x l ih =>
      intro hl a b ha hb e
      rw [List.map_cons, List.nodup_cons] at hl
      rcases List.mem_cons.1 ha with ha | ha <;> rcases List.mem_cons.1 hb with hb | hb
      · rw [ha, hb]
      · exact absurd (by rw [← ha, e]; exact List.mem_map_of_mem hb) hl.1
      · exact absurd (by rw [← hb, ← e]; exact List.mem_map_of_mem ha) hl.1
      · exact ih hl.2 ha hb e
  cases h1 : l1.find? fun f => decide (f.1 = name) with
  | none =>
    symm
    rw [List.find?_eq_none] at h1 ⊢
    exact fun x hx => h1 x (hp.mem_iff.2 hx)
  | some f =>
    have m1 := hp.mem_iff.1 (List.mem_of_find?_eq_some h1)
    have e1 : f.1 = name := by simpa using List.find?_some h1
    cases h2 : l2.find? fun f => decide (f.1 = name) with
    | none =>
      have := List.find?_eq_none.1 h2 f m1
      simp [e1] at this
    | some g =>
      have e2 : g.1 = name := by simpa using List.find?_some h2
      rw [uniq hn m1 (List.mem_of_find?_eq_some h2) (e1.trans e2.symm)]
def getT (f : Fil) : RFil := (f.name, f.data, f.safe)
theorem find_toT (name : ByteArray) : ∀ fs : List (Fil × Nat), ((fs.map toT).find? fun f => decide (f.1 = name)) = ((fs.find? fun f => decide (name = f.1.name)).map (·.1)).map getT
  | [] => rfl
  | f :: fs => by
    rw [List.map_cons, List.find?_cons, List.find?_cons]
    have e : (toT f).1 = f.1.name := rfl
    by_cases c : name = f.1.name
    · rw [e, decide_eq_true c, decide_eq_true c.symm]; rfl
    · rw [e, decide_eq_false c, decide_eq_false (fun h => c h.symm)]
      exact find_toT name fs
section
variable {D : Dsk} {R : Rsk}
theorem PR.v (h : PR D R) (w : AV) : PR D { R with v := w } := ⟨h.down, h.n, h.arm, h.perm, h.names⟩
theorem PR.get (h : PR D R) (name : ByteArray) : rget R name = (getF D name).map getT := by
  unfold rget getF
  rw [find_perm h.perm (by rw [List.map_map]; exact h.names), find_toT]
theorem PR.chk (h : PR D R) (name : ByteArray) : rchkV R name = chkV D [name] := (rcheck_same D R name h.down.symm).symm
theorem PR.len (h : PR D R) : R.l.length = D.fs.length := by rw [h.perm.length_eq, List.length_map]
theorem PR.read (h : PR D R) (name : ByteArray) : rreadV R name = readV D name := by
  unfold rreadV readV
  have hg := h.get name
  unfold rget at hg
  rw [h.chk, hg]
  split
  · rfl
  · cases getF D name <;> rfl
theorem PR.gone (h : PR D R) : gone D ↔ R.left = 0 := by
  unfold Go.Ev.gone
  rcases h.arm with ⟨a, b, _⟩ | ⟨a, b⟩
  · rw [a, b]; simp
  · rw [a, b]; simp
theorem PR.code (h : PR D R) : spendC D = if R.left = 0 then 60 else 0 := by
  unfold spendC
  by_cases c : Go.Ev.gone D
  · rw [if_pos c, if_pos (h.gone.1 c)]
  · rw [if_neg c, if_neg (fun x => c (h.gone.2 x))]
theorem PR.out (h : PR D R) (c : Int) : routC R c = outC D c := by
  unfold routC outC
  rw [h.code]
theorem PR.lose (h : PR D R) (keep : Int) : PR (loseD D keep) (rgone R keep) := by
  refine ⟨rfl, h.n, .inr ⟨rfl, rfl⟩, ?_, ?_⟩
  · show (R.l.map (cutT keep)).Perm ((D.fs.map fun f => (loseF keep f.1, f.2)).map toT)
    have e : (D.fs.map fun f => (loseF keep f.1, f.2)).map toT = (D.fs.map toT).map (cutT keep) := by
      rw [List.map_map, List.map_map]; rfl
    rw [e]
    exact h.perm.map _
  · show ((D.fs.map fun f => (loseF keep f.1, f.2)).map (·.1.name)).Nodup
    rw [List.map_map]; exact h.names
theorem PR.spend0 (h : PR D R) (hg : ¬ Go.Ev.gone D) : PR (spendD D) (rpow R) := by
  have hl : R.left ≠ 0 := fun x => hg (h.gone.2 x)
  refine ⟨h.down, ?_, ?_, h.perm, h.names⟩
  · show IntKind.i64.wrap (R.n + 1) = IntKind.i64.wrap (D.steps + 1)
    rw [h.n]
  · rcases h.arm with ⟨a, b, c, d, e⟩ | ⟨a, b⟩
    · left
      have w : IntKind.i64.wrap (D.left - 1) = D.left - 1 := w64_in (by omega) (by omega)
      refine ⟨a, ?_, ?_, ?_, e⟩
      · show (if R.left > 0 then IntKind.i64.wrap (R.left - 1) else R.left) = IntKind.i64.wrap (D.left - 1)
        rw [if_pos (by omega), b]
      · show 0 ≤ IntKind.i64.wrap (D.left - 1)
        rw [w]; omega
      · show IntKind.i64.wrap (D.left - 1) ≤ _
        rw [w]; omega
    · right
      refine ⟨a, ?_⟩
      show (if R.left > 0 then IntKind.i64.wrap (R.left - 1) else R.left) = -1
      rw [if_neg (by omega), b]
theorem PR.keep_eq (h : PR D R) (hg : Go.Ev.gone D) : R.keep = D.keep := by
  rcases h.arm with ⟨_, _, _, _, e⟩ | ⟨a, _⟩
  · exact e
  · have := hg.1; rw [a] at this; cases this
theorem PR.spend (h : PR D R) : PR (spendV D) (rpowV R) := by
  unfold spendV rpowV
  by_cases c : Go.Ev.gone D
  · rw [if_pos c, if_pos (h.gone.1 c), h.keep_eq c]; exact h.lose _
  · rw [if_neg c, if_neg (fun x => c (h.gone.2 x))]; exact h.spend0 c
/-- A file changed in both. -/
theorem PR.upd (h : PR D R) (name : ByteArray) (g : Fil → Fil) (g' : RFil → RFil) (hg : ∀ f k, toT (g f, k) = g' (toT (f, k))) (hn : ∀ f, (g f).name = f.name) : PR (setF D name g) { R with l := R.l.map (updT name g') } := by
  refine ⟨h.down, h.n, h.arm, ?_, ?_⟩
  · show (R.l.map (updT name g')).Perm ((D.fs.map (updF name g)).map toT)
    have e : (D.fs.map (updF name g)).map toT = (D.fs.map toT).map (updT name g') := by
      rw [List.map_map, List.map_map]
      apply List.map_congr_left
      rintro ⟨f, k⟩ _
      simp only [Function.comp, updF, updT]
      by_cases c : name = f.name
      · rw [if_pos c, if_pos (show (toT (f, k)).1 = name from c.symm)]; exact hg f k
      · rw [if_neg c, if_neg (show ¬ (toT (f, k)).1 = name from fun x => c x.symm)]
    rw [e]
    exact h.perm.map _
  · show ((D.fs.map (updF name g)).map (·.1.name)).Nodup
    have e : (D.fs.map (updF name g)).map (·.1.name) = D.fs.map (·.1.name) := by
      rw [List.map_map]
      apply List.map_congr_left
      rintro ⟨f, k⟩ _
      simp only [Function.comp, updF]
      split
      · exact hn f
      · rfl
    rw [e]; exact h.names
theorem PR.appC (h : PR D R) (name data : ByteArray) : rappC R name data = Go.Ev.appC D name data := by
  unfold rappC Go.Ev.appC
  rw [h.chk, h.get, h.len]
  split
  · rfl
  · cases getF D name <;> rfl
theorem PR.appM (h : PR D R) (name data : ByteArray) (fb : Nat) : PR (Go.Ev.appM D name data fb) { R with l := rappM R name data } := by
  unfold Go.Ev.appM rappM
  rw [h.get]
  cases c : getF D name with
  | some f => exact h.upd name _ _ (fun f k => rfl) (fun f => rfl)
  | none =>
    refine ⟨h.down, h.n, h.arm, ?_, ?_⟩
    · show (insT (name, bts [] ++ data, 0) R.l).Perm ((D.fs ++ [((⟨name, bts [] ++ data, 0, fb⟩ : Fil), D.clock)]).map toT)
      rw [List.map_append]
      refine (ins_perm _ _).trans ?_
      exact ((h.perm.cons _).trans (List.perm_append_singleton (name, bts [] ++ data, (0 : Int)) (D.fs.map toT)).symm)
    · show ((D.fs ++ [((⟨name, bts [] ++ data, 0, fb⟩ : Fil), D.clock)]).map (·.1.name)).Nodup
      rw [List.map_append]
      have hn := getF_none c
      refine List.nodup_append.2 ⟨h.names, by simp, fun a ha b hb => ?_⟩
      obtain ⟨f, hf, rfl⟩ := List.mem_map.1 ha
      simp only [List.map_cons, List.map_nil, List.mem_singleton] at hb
      rw [hb]
      exact hn f hf
theorem PR.app (h : PR D R) (name data : ByteArray) (fb : Nat) : PR (appV D name data fb) (rappTo R name data) := by
  unfold appV rappTo
  rw [h.appC]
  split
  · exact h
  · exact (h.appM name data fb).spend
theorem PR.syncC (h : PR D R) (name : ByteArray) : rsyncC R name = Go.Ev.syncC D name := by
  unfold rsyncC Go.Ev.syncC
  rw [h.chk, h.get]
  split
  · rfl
  · cases getF D name <;> rfl
theorem spendC_60 (D : Dsk) : spendC D ≠ 0 ↔ Go.Ev.gone D := by
  unfold spendC
  by_cases c : Go.Ev.gone D
  · rw [if_pos c]; simp [c]
  · rw [if_neg c]; simp [c]
theorem PR.then_ (h : PR D R) (c : Int) (name : ByteArray) (g : Fil → Fil) (g' : RFil → RFil) (hg : ∀ f k, toT (g f, k) = g' (toT (f, k))) (hn : ∀ f, (g f).name = f.name) :
    PR (if c ≠ 0 then D else if spendC D ≠ 0 then spendV D else setF (spendV D) name g) (rthen R c name g') := by
  unfold rthen
  by_cases c0 : c ≠ 0
  · rw [if_pos c0, if_pos c0]; exact h
  · rw [if_neg c0, if_neg c0]
    by_cases c1 : Go.Ev.gone D
    · rw [if_pos ((spendC_60 D).2 c1), if_pos (h.gone.1 c1)]
      have e : spendV D = loseD D D.keep := if_pos c1
      rw [e, h.keep_eq c1]; exact h.lose _
    · rw [if_neg (fun x => c1 ((spendC_60 D).1 x)), if_neg (fun x => c1 (h.gone.2 x))]
      have e : spendV D = spendD D := if_neg c1
      rw [e]
      exact (h.spend0 c1).upd name g g' hg hn
theorem PR.sync (h : PR D R) (name : ByteArray) : PR (syncV D name) (rsyncTo R name) := by
  unfold rsyncTo
  rw [h.syncC]
  exact h.then_ _ name _ _ (fun f k => rfl) (fun f => rfl)
theorem PR.cutC (h : PR D R) (name : ByteArray) (m : Int) : rcutC R name m = Go.Ev.cutC D name m := by
  unfold rcutC Go.Ev.cutC
  rw [h.chk, h.get]
  split
  · rfl
  · cases getF D name <;> rfl
theorem PR.cut (h : PR D R) (name : ByteArray) (m : Int) : PR (cutV' D name m) (rthen R (rcutC R name m) name (rcutF m)) := by
  rw [h.cutC]
  exact h.then_ _ name _ _ (fun f k => rfl) (fun f => rfl)
theorem PR.off (h : PR D R) (keep : Int) : PR (offV D keep) (roff R keep) := by
  unfold offV roff
  rw [h.down]
  split
  · exact h
  · exact h.lose keep
theorem PR.on (h : PR D R) : PR (onD D) (ron R) := ⟨rfl, h.n, .inr ⟨rfl, rfl⟩, h.perm, h.names⟩
theorem PR.arm_ (h : PR D R) (k keep : Int) (hk : -9223372036854775808 ≤ k ∧ k ≤ 9223372036854775807) : PR (armD D k keep) (rarm R k keep) := by
  unfold armD rarm
  rw [h.down]
  split
  · exact h
  · refine ⟨by simp [h.down], h.n, ?_, h.perm, h.names⟩
    by_cases c : k ≥ 0
    · left
      refine ⟨decide_eq_true c, ?_, c, hk.2, rfl⟩
      show (if k < 0 then -1 else k) = k
      rw [if_neg (by omega)]
    · right
      refine ⟨decide_eq_false c, ?_⟩
      show (if k < 0 then -1 else k) = -1
      rw [if_pos (by omega)]
end
theorem new_PR (mb : Nat) : PR (newD mb) rnew := ⟨rfl, rfl, .inr ⟨rfl, rfl⟩, .nil, by simp [newD]⟩
end Go.Ev

/-! The reference's disk: Safe. -/
namespace Go.Ev
set_option linter.unusedVariables false
set_option linter.unusedSimpArgs false
open Go.Ev.So Go.Proofs
variable {T : Nat → Option RF} [Has T]

def rsafeV (R : Rsk) (name : ByteArray) : Int := match R.l.find? fun f => decide (f.1 = name) with
  | some f => f.2.2
  | none => 0
theorem rsafenil_r (t : St) (v : AV) : RunD T f_r06_Disk_Safe [.nilp, v] t (.int .i64 0) t := by
  refine run_body (F := r_r06_Disk_Safe) (has rfl) (by simp [r_r06_Disk_Safe]) ?_
  simp only [r_r06_Disk_Safe, XX, CC, YY, Nat.reduceAdd, Nat.reduceSub, Nat.reduceLeDiff, Nat.reduceLT, Nat.reduceEqDiff, reduceIte, ↓reduceIte, Nat.reduceBEq, eqp_t, gv_tf, gv_ft, gv_ff, gv_u]
  exact .inl ⟨rfl, rfl⟩
theorem rsafe_r (t : St) (b : Nat) (R : Rsk) (name : ByteArray) (h : t[b]? = some (.cells true (cE R))) (hv : Rd 3 cT t R.v R.l) (hl : R.l.length < 1000000) :
    RunD T f_r06_Disk_Safe [.ptr b 0, .str name] t (.int .i64 (rsafeV R name)) t := by
  refine run_body (F := r_r06_Disk_Safe) (has rfl) (by simp [r_r06_Disk_Safe]) ?_
  have l0 := (rld h).1
  have hp := rplace_r (T := T) t b R name h hv hl
  unfold rsafeV
  simp only [r_r06_Disk_Safe, XX, CC, YY, Nat.reduceAdd, Nat.reduceSub, Nat.reduceLeDiff, Nat.reduceLT, Nat.reduceEqDiff, reduceIte, ↓reduceIte, Nat.reduceBEq, eqp_f, gv_tf, gv_ft, gv_ff, gv_u]
  refine hp.use ?_
  rcases idx_find name R.l with ⟨h1, h2⟩ | ⟨j, f, h1, h2, h3⟩
  · rw [h1] at hp ⊢
    rw [h2]
    simp only [XX, CC, YY, Nat.reduceAdd, Nat.reduceSub, Nat.reduceLeDiff, Nat.reduceLT, Nat.reduceEqDiff, reduceIte, ↓reduceIte, Nat.reduceBEq, show decide ((-1 : Int) < 0) = true from rfl, gv_tf, gv_ft, gv_ff, gv_u]
    exact .inl ⟨rfl, rfl⟩
  · obtain ⟨b1, o1, j1, _, _, j4⟩ := rdT hv h2
    rw [h1] at hp ⊢
    rw [h3]
    simp only [XX, CC, YY, Nat.reduceAdd, Nat.reduceSub, Nat.reduceLeDiff, Nat.reduceLT, Nat.reduceEqDiff, reduceIte, ↓reduceIte, Nat.reduceBEq, dec_f (show ¬ (j : Int) < 0 by omega), gv_tf, gv_ft, gv_ff, gv_u]
    refine drw_in [] rfl ?_
    simp only [List.append_nil, DD, CC, YY, Nat.reduceAdd, Nat.reduceSub, Nat.reduceLeDiff, Nat.reduceLT, Nat.reduceEqDiff, reduceIte, ↓reduceIte, Nat.reduceBEq, l0]
    refine dr_call hp ?_
    simp only [DD, CC, YY, Nat.reduceAdd, Nat.reduceSub, Nat.reduceLeDiff, Nat.reduceLT, Nat.reduceEqDiff, reduceIte, ↓reduceIte, Nat.reduceBEq, j1, j4]
    exact .inl ⟨rfl, rfl⟩
end Go.Ev

/-! The reference's disk: Names. -/
namespace Go.Ev
set_option linter.unusedVariables false
set_option linter.unusedSimpArgs false
open Go.Ev.So Go.Proofs
variable {T : Nat → Option RF} [Has T]

set_option maxHeartbeats 1000000 in
theorem rnames_r (t : St) (b : Nat) (R : Rsk) (h : t[b]? = some (.cells true (cE R))) (hv : Rd 3 cT t R.v R.l) (hl : R.l.length < 1000000) :
    Run T f_r06_Disk_Names [.ptr b 0] t fun v t' => Ext t t' ∧ Own t.length 1 cS t' v (R.l.map (·.1)) := by
  refine run_body (F := r_r06_Disk_Names) (has rfl) (by simp [r_r06_Disk_Names]) ?_
  simp only [r_r06_Disk_Names, XX, CC, YY, Nat.reduceAdd, Nat.reduceSub, Nat.reduceLeDiff, Nat.reduceLT, Nat.reduceEqDiff, reduceIte, ↓reduceIte, Nat.reduceBEq, eqp_f, Bool.not_false, gv_tt, gv_tf, gv_ft, gv_ff, gv_u]
  refine awp_rounds (fun d e t' => ∃ (i : Nat) (v : AV), i + d = R.l.length ∧ Ext t t' ∧ Own t.length 1 cS t' v ((R.l.take i).map (·.1)) ∧ e.get 0 = .ptr b 0 ∧ e.get 3 = v ∧ e.get 4 = .int .i64 i) R.l.length ?_ ?_
  · refine ⟨0, .sl t.length 0 1 0 (some 0), by omega, ⟨_, rfl⟩, .inr ⟨t.length, some 0, [], Nat.le_refl _, .inr rfl, rfl, by simp, rfl⟩, ?_, ?_, ?_⟩ <;> (try simp only [XX, CC, YY, Nat.reduceAdd, Nat.reduceSub, Nat.reduceLeDiff, Nat.reduceLT, Nat.reduceEqDiff, reduceIte, ↓reduceIte, Nat.reduceBEq]) <;> rfl
  rintro J d e t1 hJ ⟨i, v, hi, hx, ho, g0, g3, g4⟩
  have l0 := (rld (hx.get_some h)).1
  have hv1 := hv.ext hx
  simp only [XX, CC, YY, Nat.reduceAdd, Nat.reduceSub, Nat.reduceLeDiff, Nat.reduceLT, Nat.reduceEqDiff, reduceIte, ↓reduceIte, Nat.reduceBEq, eqp_f, Bool.not_false, gv_tt, gv_tf, gv_ft, gv_ff, gv_u, g0, g3, g4, l0, hv1.len]
  by_cases c : i < R.l.length
  · have hq : R.l[i]? = some (R.l[i]'c) := List.getElem?_eq_getElem _
    have ht : R.l.take (i + 1) = R.l.take i ++ [R.l[i]'c] := by rw [List.take_add_one, hq]; rfl
    generalize R.l[i]'c = q at hq ht
    have hx1 : Ext t1 (t1 ++ [.cells true (cS q.1)]) := ⟨_, rfl⟩
    obtain ⟨b1, o1, j1, j2, _⟩ := rdT hv1 hq
    have hw1 : IntKind.i64.wrap ((i : Int) + 1) = ((i + 1 : Nat) : Int) := by rw [w64_in (by omega) (by omega)]; omega
    have ho' : Own t.length 1 cS (t1 ++ [.cells true (cS q.1)]) v ((R.l.take i).map (·.1)) := by
      rcases ho with k | ⟨bb, c', cs, k1, k2, k3, k4, k5⟩
      · exact .inl k
      · exact .inr ⟨bb, c', cs, k1, k2, k3, by rw [List.getElem?_append_left (List.getElem?_eq_some_iff.1 k4).1]; exact k4, k5⟩
    obtain ⟨v2, t2, a1, a2, a3, a4, a5, a6⟩ := own_app (by_ := 16) (n := t.length) (t := t1 ++ [.cells true (cS q.1)]) (v := v) (y := .sl t1.length 0 1 1 (some 1)) (l2 := [q.1]) ho' (by have := hx.len; simp; omega) (rd_lit (l := [q.1]) (by simp [cS]) cS_len rfl) cS_len cS_cell (by simp only [List.length_map, List.length_take, List.length_cons, List.length_nil]; omega)
    have hf : fillA [AV.str (bts [])] [(0, 1, .str q.1)] = some (cS q.1) := rfl
    have hr1 : (List.replicate 1 [AV.str (bts [])]).flatten = [.str (bts [])] := rfl
    simp only [dec_t (show (i : Int) < R.l.length by omega), XX, CC, YY, Nat.reduceAdd, Nat.reduceSub, Nat.reduceLeDiff, Nat.reduceLT, Nat.reduceEqDiff, reduceIte, ↓reduceIte, Nat.reduceBEq, gv_tt, gv_tf, gv_ft, gv_ff, gv_u, g0, g3, g4, l0, j1, Nat.add_zero, j2, hr1, hf, a1, hw1]
    refine hJ (d - 1) _ _ (by omega) ⟨i + 1, v2, by omega, a5 t (Nat.le_refl _) (hx.trans hx1), ?_, ?_, ?_, ?_⟩
    · rw [ht, List.map_append]; exact a2
    all_goals (try simp only [XX, CC, YY, Nat.reduceAdd, Nat.reduceSub, Nat.reduceLeDiff, Nat.reduceLT, Nat.reduceEqDiff, reduceIte, ↓reduceIte, Nat.reduceBEq, g0, g3, g4])
  · rw [List.take_of_length_le (by omega)] at ho
    simp only [dec_f (show ¬ (i : Int) < R.l.length by omega), XX, CC, YY, Nat.reduceAdd, Nat.reduceSub, Nat.reduceLeDiff, Nat.reduceLT, Nat.reduceEqDiff, reduceIte, ↓reduceIte, Nat.reduceBEq, gv_tt, gv_tf, gv_ft, gv_ff, gv_u, g3]
    exact .inl ⟨hx, ho⟩
end Go.Ev

/-! Lists of files kept ascending. -/
namespace Go.Ev
set_option linter.unusedVariables false
set_option linter.unusedSimpArgs false
open Go.Ev.So Go.Proofs

theorem lt_kS {a b : ByteArray} (ha : a.size ≤ 32) (hb : b.size ≤ 32) : ltB a b = true ↔ kS a < kS b := by
  have h1 : a.toList.length ≤ 32 := nm_len ⟨a, ha⟩
  have h2 : b.toList.length ≤ 32 := nm_len ⟨b, hb⟩
  exact keyN_less 32 _ _ h1 h2
/-- The names ascend, and are short. -/
structure Asc (l : List RFil) : Prop where
  ris : Ris (l.map (·.1))
  small : ∀ f ∈ l, f.1.size ≤ 32
theorem insT_cons (f g : RFil) (l : List RFil) : insT f (g :: l) = if ltB g.1 f.1 = true then g :: insT f l else f :: g :: l := by
  have e : posT f.1 (g :: l) = if ltB g.1 f.1 = true then posT f.1 l + 1 else 0 := rfl
  unfold insT
  rw [e]
  split
  · rw [List.take_succ_cons, List.drop_succ_cons]; rfl
  · rfl
theorem insT_mem (f x : RFil) : ∀ l : List RFil, x ∈ insT f l ↔ x = f ∨ x ∈ l
  | [] => by simp [insT, posT]
  | g :: l => by
    rw [insT_cons]
    split
    · rw [List.mem_cons, insT_mem f x l, List.mem_cons]
      constructor
      · rintro (h | h | h)
        · exact .inr (.inl h)
        · exact .inl h
        · exact .inr (.inr h)
      · rintro (h | h | h)
        · exact .inr (.inl h)
        · exact .inl h
        · exact .inr (.inr h)
    · rw [List.mem_cons]
theorem insT_asc (f : RFil) (hf : f.1.size ≤ 32) : ∀ {l : List RFil}, Asc l → (∀ x ∈ l, x.1 ≠ f.1) → Asc (insT f l)
  | [], _, _ => ⟨by simp [insT, posT, Ris], by simp [insT, posT]; exact hf⟩
  | g :: l, h, hn => by
    have hr := h.ris
    unfold Ris at hr
    rw [List.map_cons, List.pairwise_cons] at hr
    have hg := h.small g (List.mem_cons_self ..)
    have hl : Asc l := ⟨hr.2, fun x hx => h.small x (List.mem_cons_of_mem _ hx)⟩
    refine ⟨?_, fun x hx => ?_⟩
    · rw [insT_cons]
      unfold Ris
      split
      · rename_i c
        rw [List.map_cons, List.pairwise_cons]
        refine ⟨fun y hy => ?_, (insT_asc f hf hl fun x hx => hn x (List.mem_cons_of_mem _ hx)).ris⟩
        obtain ⟨x, hx, rfl⟩ := List.mem_map.1 hy
        rcases (insT_mem f x l).1 hx with rfl | hx
        · exact (lt_kS hg hf).1 c
        · exact hr.1 _ (List.mem_map_of_mem hx)
      · rename_i c
        have hlt : kS f.1 < kS g.1 := by
          have h1 : ¬ kS g.1 < kS f.1 := fun x => c ((lt_kS hg hf).2 x)
          have h2 : kS g.1 ≠ kS f.1 := fun e => hn g (List.mem_cons_self ..) (kS_inj hg hf e)
          omega
        rw [List.map_cons, List.map_cons, List.pairwise_cons, List.pairwise_cons]
        refine ⟨fun y hy => ?_, hr⟩
        rcases List.mem_cons.1 hy with rfl | hy
        · exact hlt
        · exact Nat.lt_trans hlt (hr.1 y hy)
    · rcases (insT_mem f x _).1 hx with rfl | hx
      · exact hf
      · exact h.small x hx
end Go.Ev

/-! Both disks: a file dropped, the names. -/
namespace Go.Ev
set_option linter.unusedVariables false
set_option linter.unusedSimpArgs false
open Go.Ev.So Go.Proofs

theorem Asc.sub {l l' : List RFil} (h : Asc l) (hs : l'.Sublist l) : Asc l' :=
  ⟨List.Pairwise.sublist (hs.map _) h.ris, fun f hf => h.small f (hs.subset hf)⟩
theorem Asc.map {l : List RFil} (h : Asc l) {g : RFil → RFil} (hg : ∀ f, (g f).1 = f.1) : Asc (l.map g) := by
  refine ⟨?_, fun f hf => ?_⟩
  · have e : (l.map g).map (·.1) = l.map (·.1) := by
      rw [List.map_map]
      exact List.map_congr_left fun y _ => hg y
    rw [e]; exact h.ris
  · obtain ⟨x, hx, rfl⟩ := List.mem_map.1 hf
    rw [hg]; exact h.small x hx
def rdropT (R : Rsk) (name : ByteArray) : Rsk := { R with l := R.l.filter fun f => !decide (name = f.1) }
section
variable {D : Dsk} {R : Rsk}
theorem PR.drop (h : PR D R) (name : ByteArray) : PR (dropF D name) (rdropT R name) := by
  refine ⟨h.down, h.n, h.arm, ?_, h.names.sublist ((dropF_sub name).map _)⟩
  show (R.l.filter _).Perm ((D.fs.filter _).map toT)
  have e : (D.fs.filter fun f => !decide (name = f.1.name)).map toT = (D.fs.map toT).filter fun f => !decide (name = f.1) := by
    rw [List.filter_map]; rfl
  rw [e]
  exact h.perm.filter _
end
end Go.Ev

/-! The reference's disk: take. -/
namespace Go.Ev
set_option linter.unusedVariables false
set_option linter.unusedSimpArgs false
open Go.Ev.So Go.Proofs
variable {T : Nat → Option RF} [Has T]

theorem erase_take {α : Type} (l : List α) (i k : Nat) {q : α} (hk : l[k]? = some q) : (l.take (k + 1)).eraseIdx i = if k = i then (l.take k).eraseIdx i else (l.take k).eraseIdx i ++ [q] := by
  have hkl := (List.getElem?_eq_some_iff.1 hk).1
  have hl : (l.take k).length = k := by simp; omega
  have e : l.take (k + 1) = l.take k ++ [q] := by rw [List.take_add_one, hk]; rfl
  rw [e]
  by_cases c : k = i
  · subst c
    rw [if_pos rfl, List.eraseIdx_append_of_length_le (by omega), hl, Nat.sub_self, List.eraseIdx_cons_zero, List.append_nil, List.eraseIdx_of_length_le (by omega)]
  · rw [if_neg c]
    by_cases d : i < k
    · rw [List.eraseIdx_append_of_lt_length (by omega)]
    · rw [List.eraseIdx_of_length_le (by simp; omega), List.eraseIdx_of_length_le (by omega)]
set_option maxHeartbeats 4000000 in
theorem rtake_r (t : St) (n b : Nat) (R : Rsk) (i : Nat) (f : RFil) (h : RAt t n b R) (hnt : n ≤ t.length) (ho : R.l.length ≤ 16) (hi : R.l[i]? = some f) :
    Run T f_r06_Disk_take [.ptr b 0, .int .i64 i] t fun v t' => v = .agg (cT f) ∧ ∃ v', RStep n b R { R with l := R.l.eraseIdx i, v := v' } t t' := by
  refine run_body (F := r_r06_Disk_take) (has rfl) (by simp [r_r06_Disk_take]) ?_
  have l0 := (rld h.cells).1
  have hz : ([AV.str (bts []), AV.str (bts []), AV.int IntKind.i64 0] : List AV) = cT rzero := rfl
  have hx1 : Ext t (t ++ [.cells true (cT rzero)]) := ⟨_, rfl⟩
  obtain ⟨b1, o1, j1, j2⟩ := (h.ext hx1).rd.get cT_len hi
  have j3 : ldA (t ++ [.cells true (cT rzero)]) (some 3) (.ptr b1 o1) = some (.agg (cT f)) := j2 (some 3) 0 (.agg (cT f)) rfl
  have l1 := (rld (hx1.get_some h.cells)).1
  have hcell := cT_cell f
  have hlen := cT_len f
  have hset : setL (cT rzero) 0 (cT f) = cT f := rfl
  have hf0 : fillA ((List.replicate 0 (cT rzero)).flatten) [] = some [] := rfl
  have hst : stA [Blk.cells true (cT rzero)] (some 3) (.ptr 0 0) (.agg (cT f)) = some [.cells true (cT f)] := by
    rw [st_agg hlen, wr_own (cs := cT rzero) rfl, if_pos ⟨by simp [cT], by rfl⟩]; rfl
  have hx2 : Ext t (t ++ [.cells true (cT rzero), .cells true (cT f)]) := ⟨_, rfl⟩
  have hlen2 : (t ++ [Blk.cells true (cT rzero), .cells true (cT f)]).length = t.length + 2 := by simp
  have hbl := (List.getElem?_eq_some_iff.1 h.cells).1
  simp only [r_r06_Disk_take, XX, CC, YY, Nat.reduceAdd, Nat.reduceSub, Nat.reduceLeDiff, Nat.reduceLT, Nat.reduceEqDiff, reduceIte, ↓reduceIte, Nat.reduceBEq, hz, l0, l1, j1, j3, hst]
  refine awp_rounds (fun d e t1 => ∃ (k : Nat) (v : AV), k + d = R.l.length ∧ Ext (t ++ [.cells true (cT rzero), .cells true (cT f)]) t1 ∧ Own (t.length + 2) 3 cT t1 v ((R.l.take k).eraseIdx i) ∧ e.get 0 = .ptr b 0 ∧ e.get 1 = .int .i64 i ∧ e.get 4 = .ptr t.length 0 ∧ e.get 5 = .ptr (t.length + 1) 0 ∧ e.get 6 = v ∧ e.get 7 = .int .i64 k) R.l.length ?_ ?_
  · refine ⟨0, .sl (t.length + 2) 0 3 0 (some 0), by omega, ⟨[.cells true []], by simp⟩, .inr ⟨t.length + 2, some 0, [], Nat.le_refl _, .inr rfl, rfl, ?_, rfl⟩, ?_, ?_, ?_, ?_, ?_, ?_⟩
    · simp
    all_goals (try simp only [XX, CC, YY, Nat.reduceAdd, Nat.reduceSub, Nat.reduceLeDiff, Nat.reduceLT, Nat.reduceEqDiff, reduceIte, ↓reduceIte, Nat.reduceBEq])
    all_goals (try rfl)
  rintro J d e t1 hJ ⟨k, v, hk, hx, own, g0, g1, g4, g5, g6, g7⟩
  have hxt : Ext t t1 := hx2.trans hx
  have hA := h.ext hxt
  have l2 := (rld hA.cells).1
  have lv := hA.rd.len
  simp only [XX, CC, YY, Nat.reduceAdd, Nat.reduceSub, Nat.reduceLeDiff, Nat.reduceLT, Nat.reduceEqDiff, reduceIte, ↓reduceIte, Nat.reduceBEq, g0, g1, g4, g5, g6, g7, l2, lv]
  by_cases c : k < R.l.length
  · have hq : R.l[k]? = some (R.l[k]'c) := List.getElem?_eq_getElem _
    generalize R.l[k]'c = q at hq
    have hw1 : IntKind.i64.wrap ((k : Int) + 1) = ((k + 1 : Nat) : Int) := by rw [w64_in (by omega) (by omega)]; omega
    have he := erase_take R.l i k hq
    have em : k = i ∨ ¬ k = i := Classical.em _
    rcases em with ck | ck
    · have zk : ((k : Int) == (i : Int)) = true := by simp [ck]
      rw [if_pos ck] at he
      simp only [dec_t (show (k : Int) < R.l.length by omega), XX, CC, YY, Nat.reduceAdd, Nat.reduceSub, Nat.reduceLeDiff, Nat.reduceLT, Nat.reduceEqDiff, reduceIte, ↓reduceIte, Nat.reduceBEq, g0, g1, g4, g5, g6, g7, zk, Bool.not_true, hw1]
      refine hJ (d - 1) _ _ (by omega) ⟨k + 1, v, by omega, hx, by rw [he]; exact own, ?_, ?_, ?_, ?_, ?_, ?_⟩ <;> (try simp only [XX, CC, YY, Nat.reduceAdd, Nat.reduceSub, Nat.reduceLeDiff, Nat.reduceLT, Nat.reduceEqDiff, reduceIte, ↓reduceIte, Nat.reduceBEq, g0, g1, g4, g5, g6])
    · have zk : ((k : Int) == (i : Int)) = false := by simp; omega
      rw [if_neg ck] at he
      obtain ⟨b2, o2, m1, m2⟩ := hA.rd.get cT_len hq
      have m3 : ldA t1 (some 3) (.ptr b2 o2) = some (.agg (cT q)) := m2 (some 3) 0 (.agg (cT q)) rfl
      have hf1 : fillA (cT rzero ++ []) [(0, 3, .agg (cT q))] = some (cT q) := rfl
      have hlt := hx.len
      rw [hlen2] at hlt
      obtain ⟨v2, t2, a1, a2, a3, a4, a5, a6⟩ := own_app (by_ := 40) (n := t.length + 2) (t := t1 ++ [.cells true (cT q)]) (v := v) (y := .sl t1.length 0 3 1 (some 1)) (l2 := [q]) (own.app [.cells true (cT q)]) (by simp; omega) (rd_lit (l := [q]) (by simp) cT_len rfl) cT_len cT_cell (by have := (List.eraseIdx_sublist (R.l.take k) i).length_le; simp only [List.length_take, List.length_cons, List.length_nil] at this ⊢; omega)
      simp only [dec_t (show (k : Int) < R.l.length by omega), XX, CC, YY, Nat.reduceAdd, Nat.reduceSub, Nat.reduceLeDiff, Nat.reduceLT, Nat.reduceEqDiff, reduceIte, ↓reduceIte, Nat.reduceBEq, g0, g1, g4, g5, g6, g7, zk, Bool.not_false, l2, m1, m3, hf1, a1, hw1]
      refine hJ (d - 1) _ _ (by omega) ⟨k + 1, v2, by omega, a5 _ (by rw [hlen2]; exact Nat.le_refl _) (hx.app _), by rw [he]; exact a2, ?_, ?_, ?_, ?_, ?_, ?_⟩ <;> (try simp only [XX, CC, YY, Nat.reduceAdd, Nat.reduceSub, Nat.reduceLeDiff, Nat.reduceLT, Nat.reduceEqDiff, reduceIte, ↓reduceIte, Nat.reduceBEq, g0, g1, g4, g5])
  · rw [List.take_of_length_le (by omega)] at own
    have hapart : ∀ o e k c, v ≠ .sl b o e k c := fun o e k c hv => by have := own.ge hv; omega
    have hvc : v.cell = true := by
      rcases own with ⟨rfl, _⟩ | ⟨_, _, _, _, _, rfl, _⟩ <;> rfl
    have hlt := hx.len
    rw [hlen2] at hlt
    have s1 : stA t1 none (.ptr b 0) v = some (t1.set b (.cells true (cE { R with l := R.l.eraseIdx i, v := v }))) := by
      rw [st_one hvc, wr_own hA.cells, if_pos ⟨by simp [cE], by simp [hvc]⟩]; rfl
    have hz1 : t1[t.length]? = some (.cells true (cT rzero)) := by rw [hx.get (by rw [hlen2]; omega)]; simp
    have hf1 : t1[t.length + 1]? = some (.cells true (cT f)) := by rw [hx.get (by rw [hlen2]; omega)]; simp
    have hf2 : (t1.set b (.cells true (cE { R with l := R.l.eraseIdx i, v := v })))[t.length + 1]? = some (.cells true (cT f)) := by rw [List.getElem?_set_ne (by omega)]; exact hf1
    have hz2 : (t1.set b (.cells true (cE { R with l := R.l.eraseIdx i, v := v })))[t.length]? = some (.cells true (cT rzero)) := by rw [List.getElem?_set_ne (by omega)]; exact hz1
    have ld2 : ldA (t1.set b (.cells true (cE { R with l := R.l.eraseIdx i, v := v }))) (some 3) (.ptr (t.length + 1) 0) = some (.agg (cT f)) := by rw [ld_own hf2]; rfl
    have s2 : stA (t1.set b (.cells true (cE { R with l := R.l.eraseIdx i, v := v }))) (some 3) (.ptr t.length 0) (.agg (cT f)) = some ((t1.set b (.cells true (cE { R with l := R.l.eraseIdx i, v := v }))).set t.length (.cells true (cT f))) := by
      rw [st_agg hlen, wr_own hz2, if_pos ⟨by simp [cT], by rfl⟩]; rfl
    have ld3 : ldA ((t1.set b (.cells true (cE { R with l := R.l.eraseIdx i, v := v }))).set t.length (.cells true (cT f))) (some 3) (.ptr t.length 0) = some (.agg (cT f)) := by
      rw [ld_own (key_set (by simp; omega))]; rfl
    simp only [dec_f (show ¬ (k : Int) < R.l.length by omega), XX, CC, YY, Nat.reduceAdd, Nat.reduceSub, Nat.reduceLeDiff, Nat.reduceLT, Nat.reduceEqDiff, reduceIte, ↓reduceIte, Nat.reduceBEq, g0, g4, g5, g6, s1, ld2, s2, ld3]
    refine .inl ⟨rfl, v, ⟨h.low, ?_, ?_, hapart⟩, by simp; omega, fun j hj hn => ?_, fun j hj => ?_⟩
    · rw [List.getElem?_set_ne (by omega)]; exact key_set (by omega)
    · refine (own.mono (by omega)).keep fun j hj hv => ?_
      obtain ⟨o, e', m, cc, hv⟩ := hv
      have := own.ge hv
      rw [List.getElem?_set_ne (by omega), List.getElem?_set_ne (fun e => hapart o e' m cc (by rw [e]; exact hv))]
    · rw [List.getElem?_set_ne (by omega), List.getElem?_set_ne (fun e => hn (.inl e.symm)), hxt.get hj]
    · rcases hj with rfl | ⟨o, e', m, cc, hv⟩
      · exact .inl (.inl rfl)
      · have := own.ge hv; exact .inr (by omega)
end Go.Ev

/-! A disk in the store; the program's calls over it. -/
namespace Go.Ev
set_option linter.unusedVariables false
set_option linter.unusedSimpArgs false
open Go.Ev.So Go.Proofs

/-- Blocks A become blocks A'; the others stay. -/
structure Gs (A A' : Nat → Prop) (t t' : St) : Prop where
  len : t.length ≤ t'.length
  same : ∀ i, i < t.length → ¬ A i → t'[i]? = t[i]?
  foot : ∀ i, A' i → A i ∨ t.length ≤ i
/-- A disk lies at b, above s. -/
structure WD (s : St) (n b : Nat) (D : Dsk) (t : St) : Prop where
  at_ : DAt t n b D
  ok : DOk D
  nm : ∀ f ∈ con D, nameB f.1 = true
  nt : n ≤ t.length
  foot : ∀ i, DFoot b D i → s.length ≤ i
  len : s.length ≤ t.length
  same : ∀ i, i < s.length → t[i]? = s[i]?
section
variable {s t t' : St} {n b : Nat} {D D' : Dsk} {A A' : Nat → Prop}
theorem Gs.refl {A : Nat → Prop} : Gs A A t t := ⟨Nat.le_refl _, fun _ _ _ => rfl, fun _ x => .inl x⟩
theorem WD.ext (h : WD s n b D t) : Ext s t := by
  refine ⟨t.drop s.length, ?_⟩
  have : t.take s.length = s := by
    apply List.ext_getElem?
    intro i
    by_cases c : i < s.length
    · rw [List.getElem?_take_of_lt c, h.same i c]
    · rw [List.getElem?_eq_none (by simp; omega), List.getElem?_eq_none (by omega)]
  conv => lhs; rw [← List.take_append_drop s.length t]
  rw [this]
theorem DStep.wd (h : WD s n b D t) (g : DStep n b D D' t t') (hn : ∀ f ∈ con D', nameB f.1 = true) : WD s n b D' t' ∧ Gs (DFoot b D) (DFoot b D') t t' := by
  have h1 := h.len
  have h2 := g.len
  have h3 := h.nt
  refine ⟨⟨g.at_, g.ok, hn, by omega, fun i hi => ?_, by omega, fun i hi => ?_⟩, ⟨g.len, g.same, g.foot⟩⟩
  · rcases g.foot i hi with x | x
    · exact h.foot i x
    · omega
  · rw [g.same i (by omega) (fun x => by have := h.foot i x; omega)]
    exact h.same i hi
/-- What happens elsewhere. -/
theorem WD.other (h : WD s n b D t) (g : Gs A A' t t') (ha : ∀ i, DFoot b D i → ¬ A i) (hb : ∀ i, A i → s.length ≤ i) : WD s n b D t' := by
  have h1 := h.len
  have h2 := g.len
  have h3 := h.nt
  refine ⟨h.at_.other fun i hi => g.same i (hi.lt h.at_) (ha i hi), h.ok, h.nm, by omega, h.foot, by omega, fun i hi => ?_⟩
  rw [g.same i (by omega) (fun x => by have := hb i x; omega)]
  exact h.same i hi
theorem WD.app (h : WD s n b D t) (r : St) : WD s n b D (t ++ r) :=
  h.other (A := fun _ => False) (A' := fun _ => False) ⟨by simp, fun i hi _ => List.getElem?_append_left hi, fun _ x => x.elim⟩ (fun _ _ x => x) (fun _ x => x.elim)
theorem WD.few (h : WD s n b D t) : (con D).length ≤ 16 := by rw [con_len]; exact h.ok.few
theorem nameB_size {a : ByteArray} (h : nameB a = true) : a.size ≤ 32 := by
  unfold nameB at h
  simp only [Bool.and_eq_true, decide_eq_true_eq] at h
  exact h.1.2
theorem WD.short (h : WD s n b D t) : ∀ f ∈ D.fs, f.1.name.size ≤ 32 := fun f hf => nameB_size (h.nm (tri f) (List.mem_map_of_mem hf))
theorem WD.dist (h : WD s n b D t) : ((con D).map (·.1)).Nodup := by
  have := h.at_.names
  unfold con
  rw [List.map_map]
  exact this
/-! ### names are kept -/
theorem chk_nm {dn : Bool} {ns : List ByteArray} {a : ByteArray} (h : chkK dn ns = 0) (ha : a ∈ ns) : nameB a = true := by
  unfold chkK at h
  split at h
  · cases h
  · split at h
    · rename_i c; exact List.all_eq_true.1 c a ha
    · cases h
theorem upd_nm {C : List Tri} (h : ∀ f ∈ C, nameB f.1 = true) {a : ByteArray} {g : Tri → Tri} (hg : ∀ f, nameB f.1 = true → a = f.1 → nameB (g f).1 = true) : ∀ f ∈ C.map (updK a g), nameB f.1 = true := by
  intro f hf
  obtain ⟨x, hx, rfl⟩ := List.mem_map.1 hf
  unfold updK
  split
  · rename_i c; exact hg x (h x hx) c
  · exact h x hx
theorem appL_nm {C : List Tri} (h : ∀ f ∈ C, nameB f.1 = true) {a x : ByteArray} (ha : nameB a = true) : ∀ f ∈ appL C a x, nameB f.1 = true := by
  unfold appL
  cases getK C a with
  | some g => exact upd_nm h fun f hf _ => hf
  | none =>
    intro f hf
    rcases List.mem_append.1 hf with k | k
    · exact h f k
    · simp only [List.mem_singleton] at k; rw [k]; exact ha
theorem lose_nm {C : List Tri} (h : ∀ f ∈ C, nameB f.1 = true) (keep : Int) : ∀ f ∈ C.map (loseK keep), nameB f.1 = true := by
  intro f hf
  obtain ⟨x, hx, rfl⟩ := List.mem_map.1 hf
  exact h x hx
theorem drop_nm {C : List Tri} (h : ∀ f ∈ C, nameB f.1 = true) (a : ByteArray) : ∀ f ∈ dropK C a, nameB f.1 = true := fun f hf => h f (List.mem_filter.1 hf).1
theorem put_nm {C : List Tri} (h : ∀ f ∈ C, nameB f.1 = true) {c : ByteArray} (hc : nameB c = true) (g : Tri) : ∀ f ∈ putL C c g, nameB f.1 = true := by
  unfold putL
  cases getK C c with
  | some g' => exact upd_nm h fun f hf _ => hc
  | none =>
    intro f hf
    rcases List.mem_append.1 hf with k | k
    · exact h f k
    · simp only [List.mem_singleton] at k; rw [k]; exact hc
theorem opL_nm {dn : Bool} {C : List Tri} (h : ∀ f ∈ C, nameB f.1 = true) {k : Int} {a x : ByteArray} {m : Int} (hc : opK dn C k a x m = 0) : (∀ f ∈ opL C k a x m, nameB f.1 = true) ∧ ∀ f ∈ preL C k a x, nameB f.1 = true := by
  have ch : ∀ {ns : List ByteArray} {r : Int}, (if chkK dn ns ≠ 0 then chkK dn ns else r) = 0 → chkK dn ns = 0 := by
    intro ns r hr
    by_cases c : chkK dn ns = 0
    · exact c
    · rw [if_pos c] at hr; exact hr
  unfold opK at hc
  unfold opL preL
  by_cases c1 : k = 1
  · rw [if_pos c1] at hc; rw [if_pos c1, if_pos c1]
    have ha : nameB a = true := chk_nm (ch hc) (List.mem_singleton.2 rfl)
    exact ⟨appL_nm h ha, appL_nm h ha⟩
  rw [if_neg c1] at hc; rw [if_neg c1, if_neg c1]
  refine ⟨?_, h⟩
  by_cases c2 : k = 2
  · rw [if_pos c2]; exact upd_nm h fun f hf _ => hf
  rw [if_neg c2] at hc; rw [if_neg c2]
  by_cases c3 : k = 3
  · rw [if_pos c3]; exact upd_nm h fun f hf _ => hf
  rw [if_neg c3] at hc; rw [if_neg c3]
  by_cases c4 : k = 4
  · rw [if_pos c4] at hc ⊢
    have hx : nameB x = true := chk_nm (ch hc) (by simp)
    unfold renL
    cases getK C a with
    | some f => exact put_nm (drop_nm h a) hx f
    | none => exact h
  · rw [if_neg c4]; exact drop_nm h a
/-! ### the calls -/
theorem op_nm (h : WD s n b D t) (k : Int) (a x : ByteArray) (m : Int) (fb : Nat) : ∀ f ∈ con (opV D k a x m fb), nameB f.1 = true := by
  by_cases c : opC D k a x m = 0
  · have c' := c
    rw [opK_con] at c'
    obtain ⟨h1, h2⟩ := opL_nm h.nm c'
    by_cases g : gone D
    · rw [(op_gone c g fb).2.con]; exact lose_nm h2 _
    · rw [(op_done c g fb).2.con]; exact h1
  · rw [(op_bad c fb).1]; exact h.nm
theorem op_w1 (h : WD s n b D t) (a x : ByteArray) (ha : a.size < 140737488355328) (hx : x.size < 140737488355328) :
    Run T f_files_Disk_Append [.ptr b 0, .str a, .str x] t fun v t' => v = .int .i64 (outC D (opC D 1 a x 0)) ∧ WD s n b (opV D 1 a x 0 t.length) t' ∧ Gs (DFoot b D) (DFoot b (opV D 1 a x 0 t.length)) t t' := by
  refine Run.mono _ _ _ _ _ ?_ (append_g t n b D a x h.at_ h.ok h.nt ha hx)
  rintro v t' ⟨rfl, g⟩
  exact ⟨rfl, DStep.wd h (D' := opV D 1 a x 0 t.length) g (op_nm h 1 a x 0 _)⟩
theorem op_w2 (h : WD s n b D t) (a x : ByteArray) (m : Int) (fb : Nat) (ha : a.size < 140737488355328) :
    Run T f_files_Disk_Sync [.ptr b 0, .str a] t fun v t' => v = .int .i64 (outC D (opC D 2 a x m)) ∧ WD s n b (opV D 2 a x m fb) t' ∧ Gs (DFoot b D) (DFoot b (opV D 2 a x m fb)) t t' := by
  refine Run.mono _ _ _ _ _ ?_ (sync_g t n b D a h.at_ h.ok ha)
  rintro v t' ⟨rfl, g⟩
  exact ⟨rfl, DStep.wd h (D' := opV D 2 a x m fb) g (op_nm h 2 a x m fb)⟩
theorem op_w3 (h : WD s n b D t) (a x : ByteArray) (m : Int) (fb : Nat) (ha : a.size < 140737488355328) :
    Run T f_files_Disk_Cut [.ptr b 0, .str a, .int .i64 m] t fun v t' => v = .int .i64 (outC D (opC D 3 a x m)) ∧ WD s n b (opV D 3 a x m fb) t' ∧ Gs (DFoot b D) (DFoot b (opV D 3 a x m fb)) t t' := by
  refine Run.mono _ _ _ _ _ ?_ (dcut_g t n b D a m h.at_ h.ok ha)
  rintro v t' ⟨rfl, g⟩
  exact ⟨rfl, DStep.wd h (D' := opV D 3 a x m fb) g (op_nm h 3 a x m fb)⟩
theorem op_w4 (h : WD s n b D t) (a x : ByteArray) (m : Int) (fb : Nat) (ha : a.size < 140737488355328) (hx : x.size < 140737488355328) :
    Run T f_files_Disk_Rename [.ptr b 0, .str a, .str x] t fun v t' => v = .int .i64 (outC D (opC D 4 a x m)) ∧ WD s n b (opV D 4 a x m fb) t' ∧ Gs (DFoot b D) (DFoot b (opV D 4 a x m fb)) t t' := by
  refine Run.mono _ _ _ _ _ ?_ (dren_g t n b D a x h.at_ h.ok ha hx)
  rintro v t' ⟨rfl, g⟩
  exact ⟨rfl, DStep.wd h (D' := opV D 4 a x m fb) g (op_nm h 4 a x m fb)⟩
theorem op_w5 (h : WD s n b D t) {k : Int} (hk : k ≠ 1 ∧ k ≠ 2 ∧ k ≠ 3 ∧ k ≠ 4) (a x : ByteArray) (m : Int) (fb : Nat) (ha : a.size < 140737488355328) :
    Run T f_files_Disk_Delete [.ptr b 0, .str a] t fun v t' => v = .int .i64 (outC D (opC D k a x m)) ∧ WD s n b (opV D k a x m fb) t' ∧ Gs (DFoot b D) (DFoot b (opV D k a x m fb)) t t' := by
  have e1 : opC D k a x m = delC D a := by unfold opC; rw [if_neg hk.1, if_neg hk.2.1, if_neg hk.2.2.1, if_neg hk.2.2.2]
  have e2 : opV D k a x m fb = delV D a := by unfold opV; rw [if_neg hk.1, if_neg hk.2.1, if_neg hk.2.2.1, if_neg hk.2.2.2]
  refine Run.mono _ _ _ _ _ ?_ (ddel_g t n b D a h.at_ h.ok ha)
  rintro v t' ⟨rfl, g⟩
  refine ⟨by rw [e1], ?_⟩
  have hn := op_nm h k a x m fb
  rw [e2] at hn ⊢
  exact DStep.wd h g hn
theorem off_w (h : WD s n b D t) (keep : Int) : Run T f_files_Disk_Off [.ptr b 0, .int .i64 keep] t fun v t' => v = .tup [] ∧ WD s n b (offV D keep) t' ∧ Gs (DFoot b D) (DFoot b (offV D keep)) t t' := by
  refine Run.mono _ _ _ _ _ ?_ (off_g t n b D keep h.at_ h.ok)
  rintro v t' ⟨rfl, g⟩
  refine ⟨rfl, DStep.wd h g ?_⟩
  unfold offV
  split
  · exact h.nm
  · rw [con_lose]; exact lose_nm h.nm keep
theorem on_w (h : WD s n b D t) : Run T f_files_Disk_On [.ptr b 0] t fun v t' => v = .tup [] ∧ WD s n b (onD D) t' ∧ Gs (DFoot b D) (DFoot b (onD D)) t t' := by
  refine Run.mono _ _ _ _ _ ?_ (on_g t n b D h.at_ h.ok)
  rintro v t' ⟨rfl, g⟩
  exact ⟨rfl, DStep.wd h g h.nm⟩
theorem arm_w (h : WD s n b D t) (j keep : Int) : Run T f_files_Disk_Arm [.ptr b 0, .int .i64 j, .int .i64 keep] t fun v t' => v = .tup [] ∧ WD s n b (armD D j keep) t' ∧ Gs (DFoot b D) (DFoot b (armD D j keep)) t t' := by
  refine Run.mono _ _ _ _ _ ?_ (arm_g t n b D j keep h.at_ h.ok)
  rintro v t' ⟨rfl, g⟩
  refine ⟨rfl, DStep.wd h g ?_⟩
  unfold con
  rw [(armD_same D j keep).2.2]
  exact h.nm
theorem read_w (h : WD s n b D t) (a : ByteArray) (ha : a.size < 140737488355328) : RunD T f_files_Disk_Read [.ptr b 0, .str a] t (.tup [.str (readV D a).1, .int .i64 (readV D a).2]) t := read_r (T := T) t n b D a h.at_ ha
theorem safe_w (h : WD s n b D t) (a : ByteArray) : RunD T f_files_Disk_Safe [.ptr b 0, .str a] t (.int .i64 (safeV D a)) t := safe_r t n b D a h.at_
theorem steps_w (h : WD s n b D t) : RunD T f_files_Disk_Steps [.ptr b 0] t (.int .i64 D.steps) t := steps_r (T := T) t n b D h.at_
theorem down_w (h : WD s n b D t) : RunD T f_files_Disk_Down [.ptr b 0] t (.bool D.down) t := down_r (T := T) t n b D h.at_
theorem names_w (h : WD s n b D t) (l : List ByteArray) (hp : l.Perm ((con D).map (·.1))) (hr : Ris l) (v : AV) (t' : St) (hm : Made t l v t') : RunD T f_files_Disk_Names [.ptr b 0] t v t' := by
  refine names_r t n b D h.at_ h.ok h.short l ?_ hr v t' hm
  unfold con at hp
  rw [List.map_map] at hp
  exact hp
end
/-- what is made: a block, or nothing -/
def madeV (t : St) (l : List ByteArray) : AV := if l = [] then .nils else .sl t.length 0 1 l.length none
def madeT (t : St) (l : List ByteArray) : St := if l = [] then t else t ++ [.cells true (l.flatMap cS)]
theorem made_is (t : St) (l : List ByteArray) : Made t l (madeV t l) (madeT t l) := by
  unfold madeV madeT
  by_cases c : l = []
  · rw [if_pos c, if_pos c]; exact .inl ⟨c, rfl, rfl⟩
  · rw [if_neg c, if_neg c]; exact .inr ⟨c, rfl, rfl⟩
theorem Made.rd {t t' : St} {l : List ByteArray} {v : AV} (h : Made t l v t') : Rd 1 cS t' v l := by
  rcases h with ⟨rfl, rfl, rfl⟩ | ⟨_, rfl, rfl⟩
  · exact Rd.nil
  · exact rd_lit get_last cS_len rfl
theorem madeT_ext (t : St) (l : List ByteArray) : Ext t (madeT t l) := by
  unfold madeT; split
  · exact .refl t
  · exact ⟨_, rfl⟩
theorem WD.ext2 {s t t' : St} {n b : Nat} {D : Dsk} (h : WD s n b D t) (x : Ext t t') : WD s n b D t' := by
  obtain ⟨r, rfl⟩ := x; exact h.app r
theorem new_w (s t : St) (hx : Ext s t) : WD s t.length (t.length + 1) (newD t.length) (t ++ [.map [] 0, .cells true (cD (newD t.length))]) := by
  have hl := hx.len
  refine ⟨new_at t, ⟨fun f h => by simp [newD] at h, by simp [newD], fun f h => by simp [newD] at h, by simp [newD]⟩, fun f hf => by simp [con, newD] at hf, by simp, fun i hi => ?_, by simp; omega, fun i hi => ?_⟩
  · rcases hi with rfl | rfl | ⟨f, hf, _⟩
    · omega
    · exact hl
    · simp [newD] at hf
  · rw [List.getElem?_append_left (by omega), hx.get hi]
end Go.Ev

/-! The reference's disk: Delete, Rename. -/
namespace Go.Ev
set_option linter.unusedVariables false
set_option linter.unusedSimpArgs false
open Go.Ev.So Go.Proofs

theorem erase_filterR {name : ByteArray} : ∀ {l : List RFil} {i : Nat} {f : RFil}, (l.map (·.1)).Nodup → l[i]? = some f → f.1 = name → l.eraseIdx i = l.filter fun f => !decide (name = f.1)
  | [], i, f, _, h, _ => by simp at h
  | x :: l, 0, f, hn, h, he => by
    cases h
    rw [List.map_cons, List.nodup_cons] at hn
    rw [List.eraseIdx_cons_zero, List.filter_cons, if_neg (by simp [he])]
    symm
    rw [List.filter_eq_self]
    intro y hy
    simp only [Bool.not_eq_true', decide_eq_false_iff_not]
    intro e
    exact hn.1 (by rw [he, e]; exact List.mem_map_of_mem hy)
  | x :: l, i + 1, f, hn, h, he => by
    rw [List.map_cons, List.nodup_cons] at hn
    have h' : l[i]? = some f := h
    rw [List.eraseIdx_cons_succ, List.filter_cons, if_pos, erase_filterR hn.2 h' he]
    simp only [Bool.not_eq_true', decide_eq_false_iff_not]
    intro e
    exact hn.1 (by rw [← e, ← he]; exact List.mem_map_of_mem (List.mem_of_getElem? h'))
def rcut (l : List RFil) (name : ByteArray) : List RFil := l.filter fun f => !decide (name = f.1)
theorem rcut_mem {l : List RFil} {name : ByteArray} {f : RFil} (h : f ∈ rcut l name) : f ∈ l ∧ name ≠ f.1 := by
  have := List.mem_filter.1 h
  exact ⟨this.1, by simpa using this.2⟩
theorem rcut_gd {R : Rsk} (h : RGd R) (name : ByteArray) : RGd { R with l := rcut R.l name } :=
  ⟨⟨fun f hf => h.ok.1 f (rcut_mem hf).1, Nat.le_trans (List.length_filter_le ..) h.ok.2⟩, h.names.sublist (List.filter_sublist.map _)⟩
theorem rcut_none {l : List RFil} {name : ByteArray} (h : (l.find? fun f => decide (f.1 = name)) = none) : rcut l name = l := by
  unfold rcut
  rw [List.filter_eq_self]
  intro y hy
  have := List.find?_eq_none.1 h y hy
  simp only [decide_eq_true_eq] at this
  simp only [Bool.not_eq_true', decide_eq_false_iff_not]
  exact fun e => this e.symm
def rthenL (R : Rsk) (c : Int) (L : List RFil) : Rsk := if c ≠ 0 then R else if R.left = 0 then rgone R R.keep else { rpow R with l := L }
set_option maxHeartbeats 4000000 in
theorem rdel_g (t : St) (n b : Nat) (R : Rsk) (name : ByteArray) (h : RAt t n b R) (hg : RGd R) (hnt : n ≤ t.length) (hs : name.size < 140737488355328) :
    Run T f_r06_Disk_Delete [.ptr b 0, .str name] t fun v t' => v = .int .i64 (routC R (rsyncC R name)) ∧ RTo n b R (rthenL R (rsyncC R name) (rcut R.l name)) t t' := by
  refine run_body (F := r_r06_Disk_Delete) (has rfl) (by simp [r_r06_Disk_Delete]) ?_
  have hl16 := hg.ok.2
  have same : ∀ (c : Int), rsyncC R name = c → c ≠ 0 → (AV.int .i64 c = .int .i64 (routC R (rsyncC R name)) ∧ RTo n b R (rthenL R (rsyncC R name) (rcut R.l name)) t t) := by
    intro c h1 h2
    refine ⟨by unfold routC; rw [h1, if_pos h2], ?_⟩
    unfold rthenL
    rw [h1, if_pos h2]; exact .refl h hg
  have hval : rsyncC R name = if rchkV R name ≠ 0 then rchkV R name else match rget R name with
    | some _ => 0
    | none => 62 := rfl
  have hrt : rsyncC R name = 0 → routC R (rsyncC R name) = if R.left = 0 then 60 else 0 := fun h0 => by unfold routC; rw [h0]; simp
  simp only [r_r06_Disk_Delete, XX, CC, YY, Nat.reduceAdd, Nat.reduceSub, Nat.reduceLeDiff, Nat.reduceLT, Nat.reduceEqDiff, reduceIte, ↓reduceIte, Nat.reduceBEq]
  refine (rcheck_r (T := T) t b R name h.cells hs).use ?_
  generalize rchkV R name = e at *
  have em : e = 0 ∨ ¬ e = 0 := Classical.em _
  rcases em with c | c
  rotate_left
  · have c' : (e == 0) = false := by simp [c]
    rw [if_pos c] at hval
    (try simp only [XX, CC, YY, Nat.reduceAdd, Nat.reduceSub, Nat.reduceLeDiff, Nat.reduceLT, Nat.reduceEqDiff, reduceIte, ↓reduceIte, Nat.reduceBEq, c', Bool.not_false])
    exact .inl (same e hval c)
  subst c
  rw [if_neg (by simp)] at hval
  (try simp only [XX, CC, YY, Nat.reduceAdd, Nat.reduceSub, Nat.reduceLeDiff, Nat.reduceLT, Nat.reduceEqDiff, reduceIte, ↓reduceIte, Nat.reduceBEq, show ((0 : Int) == 0) = true from rfl, Bool.not_true])
  refine (rplace_r (T := T) t b R name h.cells h.rd (by omega)).use ?_
  rcases idx_find name R.l with ⟨h1, h2⟩ | ⟨j, f, h1, h2, h3⟩
  · have hr : rget R name = none := h2
    rw [hr] at hval
    rw [h1]
    (try simp only [XX, CC, YY, Nat.reduceAdd, Nat.reduceSub, Nat.reduceLeDiff, Nat.reduceLT, Nat.reduceEqDiff, reduceIte, ↓reduceIte, Nat.reduceBEq, show decide ((-1 : Int) < 0) = true from rfl])
    exact .inl (same 62 hval (by decide))
  have hr : rget R name = some f := h3
  rw [hr] at hval
  simp only at hval
  rw [h1]
  have hfn : f.1 = name := by have := List.find?_some h3; simpa using this
  have eml : R.left = 0 ∨ ¬ R.left = 0 := Classical.em _
  rcases eml with ce | ce
  · simp only [XX, CC, YY, Nat.reduceAdd, Nat.reduceSub, Nat.reduceLeDiff, Nat.reduceLT, Nat.reduceEqDiff, reduceIte, ↓reduceIte, Nat.reduceBEq, dec_f (show ¬ (j : Int) < 0 by omega)]
    refine Run.mono _ _ _ _ _ ?_ (rpower_g (T := T) t n b R h hg.ok)
    rintro v t1 ⟨rfl, hst⟩
    (try simp only [XX, CC, YY, Nat.reduceAdd, Nat.reduceSub, Nat.reduceLeDiff, Nat.reduceLT, Nat.reduceEqDiff, reduceIte, ↓reduceIte, Nat.reduceBEq, dec_f (fun hx : R.left ≠ 0 => hx ce), Bool.not_false])
    refine .inl ⟨by rw [hrt hval, if_pos ce], ?_⟩
    unfold rthenL
    rw [if_neg (by simp [hval]), if_pos ce]
    have e : rpowV R = rgone R R.keep := if_pos ce
    rw [e] at hst
    exact hst.to (gone_gd hg _)
  · have heq : rpowV R = rpow R := if_neg ce
    (try simp only [XX, CC, YY, Nat.reduceAdd, Nat.reduceSub, Nat.reduceLeDiff, Nat.reduceLT, Nat.reduceEqDiff, reduceIte, ↓reduceIte, Nat.reduceBEq, dec_f (show ¬ (j : Int) < 0 by omega)])
    refine Run.mono _ _ _ _ _ ?_ (rpower_g (T := T) t n b R h hg.ok)
    rintro v t1 ⟨rfl, hst⟩
    rw [heq] at hst
    have h2' : (rpow R).l[j]? = some f := h2
    (try simp only [XX, CC, YY, Nat.reduceAdd, Nat.reduceSub, Nat.reduceLeDiff, Nat.reduceLT, Nat.reduceEqDiff, reduceIte, ↓reduceIte, Nat.reduceBEq, dec_t (show R.left ≠ 0 from ce), Bool.not_true])
    refine Run.mono _ _ _ _ _ ?_ (rtake_r (T := T) t1 n b (rpow R) j f hst.at_ (by have := hst.len; omega) hl16 h2')
    rintro v t2 ⟨rfl, v', hst2⟩
    (try simp only [XX, CC, YY, Nat.reduceAdd, Nat.reduceSub, Nat.reduceLeDiff, Nat.reduceLT, Nat.reduceEqDiff, reduceIte, ↓reduceIte, Nat.reduceBEq])
    refine .inl ⟨by rw [hrt hval, if_neg ce], ?_⟩
    unfold rthenL
    rw [if_neg (by simp [hval]), if_neg ce]
    have hf : (rpow R).l.eraseIdx j = rcut R.l name := erase_filterR hg.names h2 hfn
    rw [hf] at hst2
    exact ⟨v', hst.trans hst2, (rcut_gd hg name).same rfl⟩
/-! ### Rename -/
def RC1 : RC → RC
  | .seq _ b => b
  | c => c
noncomputable def rnT : RC := RC1 (RC1 (RC1 (RC1 (RC1 (RC1 (RC1 (RC1 (RC1 (RC1 r_r06_Disk_Rename.body)))))))))
set_option maxHeartbeats 2000000 in
theorem rnT_r {t : St} {n b fb : Nat} {R : Rsk} {c : ByteArray} {f : RFil} (h : RAt t n b R) (hnt : n ≤ t.length) (hl : R.l.length ≤ 16) (hfb : t[fb]? = some (.cells true (cT f))) (hff : ¬ RFoot b R fb)
    {e : Env} (g0 : e.get 0 = .ptr b 0) (g2 : e.get 2 = .str c) (g10 : e.get 10 = .ptr fb 0) {s0 : St} {k : AV → St → Prop} (hk : ∀ v' t', RAt t' n b { R with l := insT (c, f.2.1, f.2.2) R.l, v := v' } → (t.length ≤ t'.length) → (∀ i, i < t.length → ¬ RFoot b R i → i ≠ fb → t'[i]? = t[i]?) → (∀ i, RFoot b { R with l := insT (c, f.2.1, f.2.2) R.l, v := v' } i → RFoot b R i ∨ t.length ≤ i) → k (.int .i64 0) t') : awp (Run T) rnT (endK [.tmp 6] s0 k) e t := by
  have hlt := (List.getElem?_eq_some_iff.1 hfb).1
  have st1 : stA t none (.ptr fb 0) (.str c) = some (t.set fb (.cells true (cT (c, f.2.1, f.2.2)))) := by
    rw [st_one (by rfl), wr_own hfb, if_pos ⟨by simp [cT], by rfl⟩]; rfl
  have h1 : RAt (t.set fb (.cells true (cT (c, f.2.1, f.2.2)))) n b R := h.other fun i hi => List.getElem?_set_ne fun e => hff (by rw [e]; exact hi)
  have ld1 : ldA (t.set fb (.cells true (cT (c, f.2.1, f.2.2)))) (some 3) (.ptr fb 0) = some (.agg (cT (c, f.2.1, f.2.2))) := by
    rw [ld_own (key_set hlt)]; rfl
  have hlen : (t.set fb (.cells true (cT (c, f.2.1, f.2.2)))).length = t.length := by simp
  simp only [rnT, RC1, r_r06_Disk_Rename, XX, CC, YY, Nat.reduceAdd, Nat.reduceSub, Nat.reduceLeDiff, Nat.reduceLT, Nat.reduceEqDiff, reduceIte, ↓reduceIte, Nat.reduceBEq, g0, g2, g10, st1, ld1]
  refine Run.mono _ _ _ _ _ ?_ (rput_r (T := T) _ n b R (c, f.2.1, f.2.2) h1 (by rw [hlen]; exact hnt) hl)
  rintro v t' ⟨rfl, v', hst⟩
  (try simp only [XX, CC, YY, Nat.reduceAdd, Nat.reduceSub, Nat.reduceLeDiff, Nat.reduceLT, Nat.reduceEqDiff, reduceIte, ↓reduceIte, Nat.reduceBEq])
  have hl2 := hst.len
  rw [hlen] at hl2
  refine .inl (hk v' t' hst.at_ hl2 (fun i hi hf hne => ?_) fun i hi => ?_)
  · rw [hst.same i (by rw [hlen]; exact hi) hf, List.getElem?_set_ne (fun e => hne e.symm)]
  · rcases hst.foot i hi with x | x
    · exact .inl x
    · rw [hlen] at x; exact .inr x
def rrenC (R : Rsk) (a c : ByteArray) : Int := if rchkV R a ≠ 0 then rchkV R a else if rchkV R c ≠ 0 then rchkV R c else match rget R a with
  | some _ => 0
  | none => 62
def rrenL (R : Rsk) (a c : ByteArray) : List RFil := if a = c then R.l else match rget R a with
  | some f => insT (c, f.2.1, f.2.2) (rcut (rcut R.l a) c)
  | none => R.l
set_option maxHeartbeats 8000000 in
theorem rren_g (t : St) (n b : Nat) (R : Rsk) (a c : ByteArray) (h : RAt t n b R) (hg : RGd R) (hnt : n ≤ t.length) (hs : a.size < 140737488355328) (hs2 : c.size < 140737488355328) :
    Run T f_r06_Disk_Rename [.ptr b 0, .str a, .str c] t fun v t' => v = .int .i64 (routC R (rrenC R a c)) ∧ RTo n b R (rthenL R (rrenC R a c) (rrenL R a c)) t t' := by
  refine run_body (F := r_r06_Disk_Rename) (has rfl) (by simp [r_r06_Disk_Rename]) ?_
  have hl16 := hg.ok.2
  have same : ∀ (x : Int), rrenC R a c = x → x ≠ 0 → (AV.int .i64 x = .int .i64 (routC R (rrenC R a c)) ∧ RTo n b R (rthenL R (rrenC R a c) (rrenL R a c)) t t) := by
    intro x h1 h2
    refine ⟨by unfold routC; rw [h1, if_pos h2], ?_⟩
    unfold rthenL
    rw [h1, if_pos h2]; exact .refl h hg
  have hval : rrenC R a c = if rchkV R a ≠ 0 then rchkV R a else if rchkV R c ≠ 0 then rchkV R c else match rget R a with
    | some _ => 0
    | none => 62 := rfl
  have hrt : rrenC R a c = 0 → routC R (rrenC R a c) = if R.left = 0 then 60 else 0 := fun h0 => by unfold routC; rw [h0]; simp
  have htail := @rnT_r
  obtain ⟨TAIL, hT⟩ : ∃ c, c = rnT := ⟨_, rfl⟩
  rw [← hT] at htail
  simp only [rnT, RC1, r_r06_Disk_Rename] at hT
  simp only [r_r06_Disk_Rename]
  rw [← hT]
  clear hT
  (try simp only [XX, CC, YY, Nat.reduceAdd, Nat.reduceSub, Nat.reduceLeDiff, Nat.reduceLT, Nat.reduceEqDiff, reduceIte, ↓reduceIte, Nat.reduceBEq])
  refine (rcheck_r (T := T) t b R a h.cells hs).use ?_
  generalize rchkV R a = e at *
  have em : e = 0 ∨ ¬ e = 0 := Classical.em _
  rcases em with c0 | c0
  rotate_left
  · have c' : (e == 0) = false := by simp [c0]
    rw [if_pos c0] at hval
    (try simp only [XX, CC, YY, Nat.reduceAdd, Nat.reduceSub, Nat.reduceLeDiff, Nat.reduceLT, Nat.reduceEqDiff, reduceIte, ↓reduceIte, Nat.reduceBEq, c', Bool.not_false])
    exact .inl (same e hval c0)
  subst c0
  rw [if_neg (by simp)] at hval
  (try simp only [XX, CC, YY, Nat.reduceAdd, Nat.reduceSub, Nat.reduceLeDiff, Nat.reduceLT, Nat.reduceEqDiff, reduceIte, ↓reduceIte, Nat.reduceBEq, show ((0 : Int) == 0) = true from rfl, Bool.not_true])
  refine (rcheck_r (T := T) t b R c h.cells hs2).use ?_
  generalize rchkV R c = e at *
  have em : e = 0 ∨ ¬ e = 0 := Classical.em _
  rcases em with c0 | c0
  rotate_left
  · have c' : (e == 0) = false := by simp [c0]
    rw [if_pos c0] at hval
    (try simp only [XX, CC, YY, Nat.reduceAdd, Nat.reduceSub, Nat.reduceLeDiff, Nat.reduceLT, Nat.reduceEqDiff, reduceIte, ↓reduceIte, Nat.reduceBEq, c', Bool.not_false])
    exact .inl (same e hval c0)
  subst c0
  rw [if_neg (by simp)] at hval
  (try simp only [XX, CC, YY, Nat.reduceAdd, Nat.reduceSub, Nat.reduceLeDiff, Nat.reduceLT, Nat.reduceEqDiff, reduceIte, ↓reduceIte, Nat.reduceBEq, show ((0 : Int) == 0) = true from rfl, Bool.not_true])
  refine (rplace_r (T := T) t b R a h.cells h.rd (by omega)).use ?_
  rcases idx_find a R.l with ⟨h1, h2⟩ | ⟨j, f, h1, h2, h3⟩
  · have hr : rget R a = none := h2
    rw [hr] at hval
    rw [h1]
    (try simp only [XX, CC, YY, Nat.reduceAdd, Nat.reduceSub, Nat.reduceLeDiff, Nat.reduceLT, Nat.reduceEqDiff, reduceIte, ↓reduceIte, Nat.reduceBEq, show decide ((-1 : Int) < 0) = true from rfl])
    exact .inl (same 62 hval (by decide))
  have hr : rget R a = some f := h3
  rw [hr] at hval
  simp only at hval
  rw [h1]
  have hfn : f.1 = a := by have := List.find?_some h3; simpa using this
  have hfok : FOk f.2.1 f.2.2 := hg.ok.1 f (List.mem_of_getElem? h2)
  have eml : R.left = 0 ∨ ¬ R.left = 0 := Classical.em _
  rcases eml with ce | ce
  · simp only [XX, CC, YY, Nat.reduceAdd, Nat.reduceSub, Nat.reduceLeDiff, Nat.reduceLT, Nat.reduceEqDiff, reduceIte, ↓reduceIte, Nat.reduceBEq, dec_f (show ¬ (j : Int) < 0 by omega)]
    refine Run.mono _ _ _ _ _ ?_ (rpower_g (T := T) t n b R h hg.ok)
    rintro v t1 ⟨rfl, hst⟩
    (try simp only [XX, CC, YY, Nat.reduceAdd, Nat.reduceSub, Nat.reduceLeDiff, Nat.reduceLT, Nat.reduceEqDiff, reduceIte, ↓reduceIte, Nat.reduceBEq, dec_f (fun hx : R.left ≠ 0 => hx ce), Bool.not_false])
    refine .inl ⟨by rw [hrt hval, if_pos ce], ?_⟩
    unfold rthenL
    rw [if_neg (by simp [hval]), if_pos ce]
    have e : rpowV R = rgone R R.keep := if_pos ce
    rw [e] at hst
    exact hst.to (gone_gd hg _)
  have heq : rpowV R = rpow R := if_neg ce
  have hto : rthenL R (rrenC R a c) (rrenL R a c) = { rpow R with l := rrenL R a c } := by unfold rthenL; rw [if_neg (by simp [hval]), if_neg ce]
  have hou : routC R (rrenC R a c) = 0 := by rw [hrt hval, if_neg ce]
  rw [hto, hou]
  (try simp only [XX, CC, YY, Nat.reduceAdd, Nat.reduceSub, Nat.reduceLeDiff, Nat.reduceLT, Nat.reduceEqDiff, reduceIte, ↓reduceIte, Nat.reduceBEq, dec_f (show ¬ (j : Int) < 0 by omega)])
  refine Run.mono _ _ _ _ _ ?_ (rpower_g (T := T) t n b R h hg.ok)
  rintro v t1 ⟨rfl, hst⟩
  rw [heq] at hst
  have em2 : a = c ∨ ¬ a = c := Classical.em _
  rcases em2 with cc | cc
  · have q : eqA .s (.str a) (.str c) = some true := by rw [eq_S, dec_t cc]
    (try simp only [XX, CC, YY, Nat.reduceAdd, Nat.reduceSub, Nat.reduceLeDiff, Nat.reduceLT, Nat.reduceEqDiff, reduceIte, ↓reduceIte, Nat.reduceBEq, dec_t (show R.left ≠ 0 from ce), Bool.not_true, q])
    refine .inl ⟨rfl, ?_⟩
    unfold rrenL
    rw [if_pos cc]
    exact hst.to (hg.same rfl)
  have q : eqA .s (.str a) (.str c) = some false := by rw [eq_S, dec_f cc]
  have h2' : (rpow R).l[j]? = some f := h2
  have hl1 : t.length ≤ t1.length := hst.len
  (try simp only [XX, CC, YY, Nat.reduceAdd, Nat.reduceSub, Nat.reduceLeDiff, Nat.reduceLT, Nat.reduceEqDiff, reduceIte, ↓reduceIte, Nat.reduceBEq, dec_t (show R.left ≠ 0 from ce), Bool.not_true, q])
  refine Run.mono _ _ _ _ _ ?_ (rtake_r (T := T) t1 n b (rpow R) j f hst.at_ (by omega) hl16 h2')
  rintro v t2 ⟨rfl, v1, hst2⟩
  have hf1 : (rpow R).l.eraseIdx j = rcut R.l a := erase_filterR hg.names h2 hfn
  rw [hf1] at hst2
  have hs02 := hst.trans hst2
  have hl2 : t1.length ≤ t2.length := hst2.len
  clear hst hst2
  have gd1 : RGd { rpow R with l := rcut R.l a, v := v1 } := (rcut_gd hg a).same rfl
  have hlen3 := cT_len f
  have hcell := cT_cell f
  have hset : setL [AV.str (bts []), .str (bts []), .int .i64 0] 0 (cT f) = cT f := rfl
  -- the file's block
  have hfb : (t2 ++ [Blk.cells true (cT f)])[t2.length]? = some (.cells true (cT f)) := get_last
  have hA2 := hs02.at_
  have hA3 := hA2.ext (t' := t2 ++ [.cells true (cT f)]) ⟨_, rfl⟩
  have hff : ¬ RFoot b { rpow R with l := rcut R.l a, v := v1 } t2.length := fun x => by have := x.lt hA2; omega
  have hlt3 : t2.length < (t2 ++ [Blk.cells true (cT f)]).length := by simp
  have hsame3 : ∀ i, i < t.length → ¬ RFoot b R i → (t2 ++ [Blk.cells true (cT f)])[i]? = t[i]? := fun i hi hn => by
    rw [List.getElem?_append_left (by omega), hs02.same i hi hn]
  have hn3 : n ≤ (t2 ++ [Blk.cells true (cT f)]).length := by simp; omega
  have hpl := rplace_r (T := T) (t2 ++ [.cells true (cT f)]) b _ c hA3.cells hA3.rd (Nat.lt_of_le_of_lt gd1.ok.2 (by decide))
  (try simp only at hpl)
  (try simp only [XX, CC, YY, Nat.reduceAdd, Nat.reduceSub, Nat.reduceLeDiff, Nat.reduceLT, Nat.reduceEqDiff, reduceIte, ↓reduceIte, Nat.reduceBEq, hcell, hlen3, hset])
  have foot3 := hs02.foot
  have hl3 : t.length ≤ t2.length := by omega
  clear hs02 hA2
  generalize t2 ++ [Blk.cells true (cT f)] = t3 at *
  refine hpl.use ?_
  have hL : rrenL R a c = insT (c, f.2.1, f.2.2) (rcut (rcut R.l a) c) := by unfold rrenL; rw [if_neg cc, hr]
  have hnc : ∀ g ∈ rcut (rcut R.l a) c, g.1 ≠ (c, f.2.1, f.2.2).1 := fun g hg' e => (rcut_mem hg').2 e.symm
  have hsm : (rcut (rcut R.l a) c).length < 16 := by
    have h5 : (rcut R.l a).length < R.l.length := by
      rw [← hf1]
      have hjl := (List.getElem?_eq_some_iff.1 h2).1
      show (R.l.eraseIdx j).length < _
      rw [List.length_eraseIdx_of_lt hjl]; omega
    have h6 : (rcut (rcut R.l a) c).length ≤ (rcut R.l a).length := List.length_filter_le ..
    omega
  have gdF : ∀ v', RGd { rpow R with l := rrenL R a c, v := v' } := fun v' => by
    rw [hL]
    exact ins_gd (R := { rpow R with l := rcut (rcut R.l a) c, v := v1 }) ((rcut_gd gd1 c).same rfl) (c, f.2.1, f.2.2) v' hnc hfok hsm
  rcases idx_find c (rcut R.l a) with ⟨k1, k2⟩ | ⟨j2, f2, k1, k2, k3⟩
  · rw [k1]
    have e0 : rcut (rcut R.l a) c = rcut R.l a := rcut_none k2
    (try simp only [XX, CC, YY, Nat.reduceAdd, Nat.reduceSub, Nat.reduceLeDiff, Nat.reduceLT, Nat.reduceEqDiff, reduceIte, ↓reduceIte, Nat.reduceBEq, show decide ((-1 : Int) ≥ 0) = false from rfl])
    refine htail (c := c) hA3 hn3 gd1.ok.2 hfb hff (by simp only [XX, CC, YY, Nat.reduceAdd, Nat.reduceSub, Nat.reduceLeDiff, Nat.reduceLT, Nat.reduceEqDiff, reduceIte, ↓reduceIte, Nat.reduceBEq]) (by simp only [XX, CC, YY, Nat.reduceAdd, Nat.reduceSub, Nat.reduceLeDiff, Nat.reduceLT, Nat.reduceEqDiff, reduceIte, ↓reduceIte, Nat.reduceBEq]) (by simp only [XX, CC, YY, Nat.reduceAdd, Nat.reduceSub, Nat.reduceLeDiff, Nat.reduceLT, Nat.reduceEqDiff, reduceIte, ↓reduceIte, Nat.reduceBEq]) fun v' t' p1 p2 p3 p4 => ?_
    refine ⟨rfl, v', ⟨?_, by omega, fun i hi hn => ?_, fun i hi => ?_⟩, gdF v'⟩
    · rw [hL, e0]; exact p1
    · rw [p3 i (by omega) (fun x => by rcases foot3 i x with y | y; exact hn y; omega) (by omega)]; exact hsame3 i hi hn
    · rw [hL, e0] at hi
      rcases p4 i hi with x | x
      · exact foot3 i x
      · exact .inr (by omega)
  · rw [k1]
    have e0 : (rcut R.l a).eraseIdx j2 = rcut (rcut R.l a) c := erase_filterR gd1.names k2 (by have := List.find?_some k3; simpa using this)
    (try simp only [XX, CC, YY, Nat.reduceAdd, Nat.reduceSub, Nat.reduceLeDiff, Nat.reduceLT, Nat.reduceEqDiff, reduceIte, ↓reduceIte, Nat.reduceBEq, dec_t (show (j2 : Int) ≥ 0 by omega)])
    refine Run.mono _ _ _ _ _ ?_ (rtake_r (T := T) t3 n b { rpow R with l := rcut R.l a, v := v1 } j2 f2 hA3 hn3 gd1.ok.2 k2)
    rintro v t4 ⟨rfl, v2, hst4⟩
    (try simp only at hst4)
    rw [e0] at hst4
    have hl4 := hst4.len
    have hfb4 : t4[t2.length]? = some (.cells true (cT f)) := by rw [hst4.same t2.length hlt3 hff]; exact hfb
    have hff4 : ¬ RFoot b { rpow R with l := rcut (rcut R.l a) c, v := v2 } t2.length := fun x => by
      rcases hst4.foot _ x with y | y
      · exact hff y
      · omega
    (try simp only [XX, CC, YY, Nat.reduceAdd, Nat.reduceSub, Nat.reduceLeDiff, Nat.reduceLT, Nat.reduceEqDiff, reduceIte, ↓reduceIte, Nat.reduceBEq])
    refine htail (c := c) hst4.at_ (by omega) (by show (rcut (rcut R.l a) c).length ≤ 16; omega) hfb4 hff4 (by simp only [XX, CC, YY, Nat.reduceAdd, Nat.reduceSub, Nat.reduceLeDiff, Nat.reduceLT, Nat.reduceEqDiff, reduceIte, ↓reduceIte, Nat.reduceBEq]) (by simp only [XX, CC, YY, Nat.reduceAdd, Nat.reduceSub, Nat.reduceLeDiff, Nat.reduceLT, Nat.reduceEqDiff, reduceIte, ↓reduceIte, Nat.reduceBEq]) (by simp only [XX, CC, YY, Nat.reduceAdd, Nat.reduceSub, Nat.reduceLeDiff, Nat.reduceLT, Nat.reduceEqDiff, reduceIte, ↓reduceIte, Nat.reduceBEq]) fun v' t' p1 p2 p3 p4 => ?_
    have back : ∀ i, RFoot b { rpow R with l := rcut (rcut R.l a) c, v := v2 } i → RFoot b R i ∨ t.length ≤ i := fun i x => by
      rcases hst4.foot i x with y | y
      · exact foot3 i y
      · exact .inr (by omega)
    refine ⟨rfl, v', ⟨?_, by omega, fun i hi hn => ?_, fun i hi => ?_⟩, gdF v'⟩
    · rw [hL]; exact p1
    · rw [p3 i (by omega) (fun x => by rcases back i x with y | y; exact hn y; omega) (by omega), hst4.same i (by omega) (fun x => by rcases foot3 i x with y | y; exact hn y; omega)]; exact hsame3 i hi hn
    · rw [hL] at hi
      rcases p4 i hi with x | x
      · exact back i x
      · exact .inr (by omega)
end Go.Ev

/-! Both disks are one and the same behind each operation. -/
namespace Go.Ev
set_option linter.unusedVariables false
set_option linter.unusedSimpArgs false
open Go.Ev.So Go.Proofs

theorem drop_self {C : List Tri} {c : ByteArray} (h : ∀ y ∈ C, y.1 ≠ c) : dropK C c = C := by
  unfold dropK
  rw [List.filter_eq_self]
  intro y hy
  simp only [Bool.not_eq_true', decide_eq_false_iff_not]
  exact fun e => h y hy e.symm
theorem drop_t {y : Tri} {C : List Tri} {c : ByteArray} (h : y.1 = c) : dropK (y :: C) c = dropK C c := by
  unfold dropK
  rw [List.filter_cons, if_neg (by simp [h])]
theorem drop_f {y : Tri} {C : List Tri} {c : ByteArray} (h : y.1 ≠ c) : dropK (y :: C) c = y :: dropK C c := by
  unfold dropK
  rw [List.filter_cons, if_pos (by simp; exact fun e => h e.symm)]
theorem upd_perm (c : ByteArray) (x : Tri) : ∀ {C : List Tri}, (C.map (·.1)).Nodup → (∃ g ∈ C, g.1 = c) → (C.map (updK c fun _ => x)).Perm (dropK C c ++ [x])
  | [], _, ⟨g, h, _⟩ => by simp at h
  | y :: C, hn, he => by
    rw [List.map_cons, List.nodup_cons] at hn
    by_cases e : y.1 = c
    · have hne : ∀ z ∈ C, z.1 ≠ c := fun z hz ez => hn.1 (by rw [e, ← ez]; exact List.mem_map_of_mem hz)
      have h1 : C.map (updK c fun _ => x) = C := by
        refine (List.map_congr_left (g := id) fun z hz => ?_).trans (List.map_id C)
        unfold updK
        rw [if_neg (fun q => hne z hz q.symm)]; rfl
      have h2 : updK c (fun _ => x) y = x := by unfold updK; rw [if_pos e.symm]
      rw [List.map_cons, h1, h2, drop_t e, drop_self hne]
      exact (List.perm_append_singleton x C).symm
    · have h2 : updK c (fun _ => x) y = y := by unfold updK; rw [if_neg (fun q => e q.symm)]
      rw [List.map_cons, h2, drop_f e]
      obtain ⟨g, hg, hc⟩ := he
      refine (upd_perm c x hn.2 ?_).cons y
      rcases List.mem_cons.1 hg with r | r
      · rw [r] at hc; exact absurd hc e
      · exact ⟨g, r, hc⟩
theorem put_perm {C : List Tri} (hn : (C.map (·.1)).Nodup) (c : ByteArray) (f : Tri) : (putL C c f).Perm (dropK C c ++ [(c, f.2.1, f.2.2)]) := by
  unfold putL
  cases h : getK C c with
  | none =>
    rw [drop_self]
    intro y hy e
    have := List.find?_eq_none.1 h y hy
    simp [e] at this
  | some g => exact upd_perm c _ hn ⟨g, List.mem_of_find?_eq_some h, by have := List.find?_some h; simpa using (by simpa using this : c = g.1).symm⟩
theorem split_perm {a : ByteArray} {f : Tri} : ∀ {C : List Tri}, (C.map (·.1)).Nodup → getK C a = some f → C.Perm (dropK C a ++ [f])
  | [], _, h => by simp [getK] at h
  | y :: C, hn, h => by
    rw [List.map_cons, List.nodup_cons] at hn
    by_cases e : y.1 = a
    · have hne : ∀ z ∈ C, z.1 ≠ a := fun z hz ez => hn.1 (by rw [e, ← ez]; exact List.mem_map_of_mem hz)
      have : y = f := by unfold getK at h; rw [List.find?_cons, decide_eq_true e.symm] at h; simpa using h
      subst this
      rw [drop_t e, drop_self hne]
      exact (List.perm_append_singleton y C).symm
    · rw [drop_f e]
      refine (split_perm hn.2 ?_).cons y
      unfold getK at h ⊢
      rw [List.find?_cons, decide_eq_false (fun q => e q.symm)] at h
      exact h
theorem drop_names {C : List Tri} (hn : (C.map (·.1)).Nodup) (a : ByteArray) : ((dropK C a).map (·.1)).Nodup := hn.sublist (List.filter_sublist.map _)
theorem ren_perm {l : List RFil} {C : List Tri} (hp : l.Perm C) (hn : (C.map (·.1)).Nodup) {a c : ByteArray} {f : Tri} (hg : getK C a = some f) :
    (if a = c then l else insT (c, f.2.1, f.2.2) (rcut (rcut l a) c)).Perm (putL (dropK C a) c f) := by
  have hf : f.1 = a := by have := List.find?_some hg; simpa using (by simpa using this : a = f.1).symm
  have hpp := put_perm (drop_names hn a) c f
  by_cases e : a = c
  · rw [if_pos e]
    subst e
    refine (hp.trans (split_perm hn hg)).trans ?_
    refine List.Perm.trans ?_ hpp.symm
    have h2 : dropK (dropK C a) a = dropK C a := drop_self fun y hy q => by
      have := (List.mem_filter.1 hy).2
      simp [q] at this
    have h3 : (a, f.2.1, f.2.2) = f := by rw [← hf]
    rw [h2, h3]
  · rw [if_neg e]
    refine (ins_perm _ _).trans (List.Perm.trans ?_ hpp.symm)
    have h1 : (rcut (rcut l a) c).Perm (dropK (dropK C a) c) := (hp.filter _).filter _
    exact (h1.cons _).trans (List.perm_append_singleton _ _).symm
section
variable {D : Dsk} {R : Rsk}
theorem PR.con (h : PR D R) : R.l.Perm (Go.Ev.con D) := h.perm
theorem PR.dist (h : PR D R) : ((Go.Ev.con D).map (·.1)).Nodup := by
  have := h.names
  unfold Go.Ev.con
  rw [List.map_map]
  exact this
theorem PR.renC (h : PR D R) (a c : ByteArray) : rrenC R a c = Go.Ev.renC D a c := by
  unfold rrenC Go.Ev.renC chkV rchkV
  rw [h.down, h.get]
  cases D.down with
  | true => simp
  | false =>
    cases h1 : nameB a <;> cases h2 : nameB c <;> simp [h1, h2] <;> cases getF D a <;> rfl
theorem PR.then2 (h : PR D R) (c : Int) (D2 : Dsk) (L : List RFil) (hp : ¬ Go.Ev.gone D → c = 0 → PR D2 { rpow R with l := L }) : PR (if c ≠ 0 then D else if spendC D ≠ 0 then spendV D else D2) (rthenL R c L) := by
  unfold rthenL
  by_cases c0 : c ≠ 0
  · rw [if_pos c0, if_pos c0]; exact h
  · rw [if_neg c0, if_neg c0]
    by_cases c1 : Go.Ev.gone D
    · rw [if_pos ((spendC_60 D).2 c1), if_pos (h.gone.1 c1)]
      have e : spendV D = loseD D D.keep := if_pos c1
      rw [e, h.keep_eq c1]; exact h.lose _
    · rw [if_neg (fun x => c1 ((spendC_60 D).1 x)), if_neg (fun x => c1 (h.gone.2 x))]
      exact hp c1 (by simpa using c0)
theorem PR.del (h : PR D R) (a : ByteArray) : PR (delV D a) (rthenL R (rsyncC R a) (rcut R.l a)) := by
  rw [h.syncC]
  refine h.then2 (Go.Ev.syncC D a) _ _ fun hg _ => ?_
  have e : spendV D = spendD D := if_neg hg
  rw [e]
  exact (h.spend0 hg).drop a
theorem PR.ren (h : PR D R) (a c : ByteArray) : PR (renV D a c) (rthenL R (rrenC R a c) (rrenL R a c)) := by
  rw [h.renC]
  refine h.then2 (Go.Ev.renC D a c) _ _ fun hg h0 => ?_
  have e : spendV D = spendD D := if_neg hg
  rw [e]
  have hs := h.spend0 hg
  obtain ⟨m1, m2, m3, m4, m5⟩ := renT_same (spendD D) a c
  have hgR := h.get a
  have hk := getK_con D a
  have hk2 := getK_con (spendD D) a
  cases hf : getF D a with
  | none =>
    exfalso
    have h0' := h0
    unfold Go.Ev.renC at h0'
    rw [hf] at h0'
    by_cases q : chkV D [a, c] ≠ 0
    · rw [if_pos q] at h0'; exact q h0'
    · rw [if_neg q] at h0'; cases h0'
  | some f =>
    rw [hf] at hgR hk
    refine ⟨hs.down.trans m1.symm, hs.n.trans m5.symm, ?_, ?_, ?_⟩
    · have := hs.arm
      rw [m2, m3, m4]
      exact this
    · show (rrenL R a c).Perm (Go.Ev.con (renT (spendD D) a c))
      rw [con_ren]
      have hr : renL (Go.Ev.con D) a c = putL (dropK (Go.Ev.con D) a) c (triF f) := by unfold renL; rw [hk]; rfl
      show (rrenL R a c).Perm (renL (Go.Ev.con D) a c)
      rw [hr]
      have := ren_perm h.con h.dist (c := c) hk
      unfold rrenL
      rw [hgR]
      exact this
    · unfold renT
      have hg2 : getF (spendD D) a = some f := hf
      rw [hg2]
      exact moveF_names (hs.names.sublist ((dropF_sub a).map _)) c f
end
/-! ### the reference's operations by their number -/
def ropC (R : Rsk) (k : Int) (a x : ByteArray) (m : Int) : Int := if k = 1 then rappC R a x else if k = 2 then rsyncC R a else if k = 3 then rcutC R a m else if k = 4 then rrenC R a x else rsyncC R a
def ropV (R : Rsk) (k : Int) (a x : ByteArray) (m : Int) : Rsk := if k = 1 then rappTo R a x else if k = 2 then rthen R (rsyncC R a) a rsafe else if k = 3 then rthen R (rcutC R a m) a (rcutF m) else if k = 4 then rthenL R (rrenC R a x) (rrenL R a x) else rthenL R (rsyncC R a) (rcut R.l a)
section
variable {D : Dsk} {R : Rsk}
theorem PR.op (h : PR D R) (k : Int) (a x : ByteArray) (m : Int) (fb : Nat) : routC R (ropC R k a x m) = outC D (opC D k a x m) ∧ PR (opV D k a x m fb) (ropV R k a x m) := by
  rw [h.out]
  unfold ropC opC opV ropV
  by_cases k1 : k = 1
  · rw [if_pos k1, if_pos k1, if_pos k1, if_pos k1]; exact ⟨by rw [h.appC], h.app a x fb⟩
  rw [if_neg k1, if_neg k1, if_neg k1, if_neg k1]
  by_cases k2 : k = 2
  · rw [if_pos k2, if_pos k2, if_pos k2, if_pos k2]; exact ⟨by rw [h.syncC], h.sync a⟩
  rw [if_neg k2, if_neg k2, if_neg k2, if_neg k2]
  by_cases k3 : k = 3
  · rw [if_pos k3, if_pos k3, if_pos k3, if_pos k3]; exact ⟨by rw [h.cutC], h.cut a m⟩
  rw [if_neg k3, if_neg k3, if_neg k3, if_neg k3]
  by_cases k4 : k = 4
  · rw [if_pos k4, if_pos k4, if_pos k4, if_pos k4]; exact ⟨by rw [h.renC], h.ren a x⟩
  rw [if_neg k4, if_neg k4, if_neg k4, if_neg k4]
  exact ⟨by rw [h.syncC]; rfl, h.del a⟩
/-! ### the list stays ascending -/
theorem Asc.gone (h : Asc R.l) (keep : Int) : Asc (rgone R keep).l := Asc.map h fun _ => rfl
theorem Asc.upd (h : Asc R.l) (a : ByteArray) {g : RFil → RFil} (hg : ∀ f, (g f).1 = f.1) : Asc (R.l.map (updT a g)) := Asc.map h fun f => by
  unfold updT; split
  · exact hg f
  · rfl
theorem Asc.cut (h : Asc R.l) (a : ByteArray) : Asc (rcut R.l a) := Asc.sub h List.filter_sublist
theorem Asc.then1 (h : Asc R.l) (c : Int) (a : ByteArray) {g : RFil → RFil} (hg : ∀ f, (g f).1 = f.1) : Asc (rthen R c a g).l := by
  unfold rthen
  split
  · exact h
  split
  · exact h.gone _
  · exact h.upd a hg
theorem Asc.then2 (h : Asc R.l) (c : Int) {L : List RFil} (hL : c = 0 → Asc L) : Asc (rthenL R c L).l := by
  unfold rthenL
  by_cases c0 : c ≠ 0
  · rw [if_pos c0]; exact h
  rw [if_neg c0]
  split
  · exact h.gone _
  · exact hL (by simpa using c0)
theorem rchk_nm {a : ByteArray} (h : rchkV R a = 0) : nameB a = true := by
  unfold rchkV at h
  split at h
  · cases h
  · split at h
    · assumption
    · cases h
theorem Asc.pow (h : Asc R.l) : Asc (rpowV R).l := by
  unfold rpowV; split
  · exact h.gone _
  · exact h
theorem Asc.op (h : Asc R.l) (k : Int) (a x : ByteArray) (m : Int) : Asc (ropV R k a x m).l := by
  unfold ropV
  split
  · unfold rappTo
    by_cases c : rappC R a x ≠ 0
    · rw [if_pos c]; exact h
    · rw [if_neg c]
      refine Asc.pow (R := { R with l := rappM R a x }) ?_
      have hn : nameB a = true := by
        refine rchk_nm (R := R) ?_
        have c' : rappC R a x = 0 := by simpa using c
        unfold rappC at c'
        by_cases q : rchkV R a = 0
        · exact q
        · rw [if_pos q] at c'; exact absurd c' q
      show Asc (rappM R a x)
      unfold rappM
      cases hg : rget R a with
      | some f => exact h.upd a fun _ => rfl
      | none =>
        refine insT_asc _ (nameB_size hn) h fun y hy e => ?_
        have := List.find?_eq_none.1 hg y hy
        simp [e] at this
  split
  · exact h.then1 _ a fun _ => rfl
  split
  · exact h.then1 _ a fun _ => rfl
  split
  · refine h.then2 _ fun c => ?_
    unfold rrenL
    split
    · exact h
    · cases hg : rget R a with
      | none => exact h
      | some f =>
        have hn : nameB x = true := by
          refine rchk_nm (R := R) ?_
          unfold rrenC at c
          by_cases q1 : rchkV R a = 0
          · rw [if_neg (by simp [q1])] at c
            by_cases q : rchkV R x = 0
            · exact q
            · rw [if_pos q] at c; exact absurd c q
          · rw [if_pos q1] at c; exact absurd c q1
        refine insT_asc _ (nameB_size hn) (Asc.sub (h.cut a) List.filter_sublist) fun y hy e => ?_
        exact (rcut_mem hy).2 e.symm
  · exact h.then2 _ fun _ => h.cut a
theorem PR.safe (h : PR D R) (a : ByteArray) : rsafeV R a = safeV D a := by
  have hg := h.get a
  unfold rget at hg
  unfold rsafeV safeV
  rw [hg]
  cases getF D a <;> rfl
end
end Go.Ev

/-! The law's awake. -/
namespace Go.Ev
set_option linter.unusedVariables false
set_option linter.unusedSimpArgs false
open Go.Ev.So Go.Proofs

def readK (dn : Bool) (C : List Tri) (a : ByteArray) : ByteArray × Int := if chkK dn [a] ≠ 0 then (bts [], chkK dn [a]) else match getK C a with
  | some f => (f.2.1, 0)
  | none => (bts [], 62)
def safeK (C : List Tri) (a : ByteArray) : Int := match getK C a with
  | some f => f.2.2
  | none => 0
section
variable {D : Dsk} {dn ar : Bool} {left keep steps : Int} {C : List Tri}
theorem Vw.done (V : Vw D dn ar left keep steps C) {k : Int} {a x : ByteArray} {m : Int} (hc : opK dn C k a x m = 0) (hg : ar = false ∨ left ≠ 0) (fb : Nat) :
    outC D (opC D k a x m) = 0 ∧ Vw (opV D k a x m fb) dn ar (IntKind.i64.wrap (left - 1)) keep (IntKind.i64.wrap (steps + 1)) (opL C k a x m) := by
  obtain ⟨rfl, rfl, rfl, rfl, rfl, rfl⟩ := V
  refine op_done (by rw [opK_con]; exact hc) (fun g => ?_) fb
  rcases hg with h | h
  · rw [g.1] at h; cases h
  · exact h g.2
theorem Vw.bad (V : Vw D dn ar left keep steps C) {k : Int} {a x : ByteArray} {m : Int} {c : Int} (hc : opK dn C k a x m = c) (h0 : c ≠ 0) (fb : Nat) :
    outC D (opC D k a x m) = c ∧ opV D k a x m fb = D := by
  obtain ⟨rfl, rfl, rfl, rfl, rfl, rfl⟩ := V
  have h : opC D k a x m = c := by rw [opK_con]; exact hc
  obtain ⟨h1, h2⟩ := op_bad (by rw [h]; exact h0) fb
  exact ⟨by rw [h2, h], h1⟩
theorem Vw.off (V : Vw D false ar left keep steps C) (k : Int) : Vw (offV D k) true false left keep steps (C.map (loseK k)) := by
  obtain ⟨h, rfl, rfl, rfl, rfl, rfl⟩ := V
  have e : offV D k = loseD D k := by unfold offV; rw [h]; rfl
  rw [e]
  exact ⟨rfl, rfl, rfl, rfl, rfl, con_lose k⟩
theorem Vw.on (V : Vw D dn ar left keep steps C) : Vw (onD D) false false left keep steps C := by
  obtain ⟨rfl, rfl, rfl, rfl, rfl, rfl⟩ := V
  exact ⟨rfl, rfl, rfl, rfl, rfl, rfl⟩
theorem Vw.read (V : Vw D dn ar left keep steps C) (a : ByteArray) : readV D a = readK dn C a := by
  obtain ⟨rfl, rfl, rfl, rfl, rfl, rfl⟩ := V
  unfold readV readK
  rw [getK_con]
  cases getF D a <;> rfl
theorem Vw.safe (V : Vw D dn ar left keep steps C) (a : ByteArray) : safeV D a = safeK C a := by
  obtain ⟨rfl, rfl, rfl, rfl, rfl, rfl⟩ := V
  unfold safeV safeK
  rw [getK_con]
  cases getF D a <;> rfl
theorem newD_Vw (mb : Nat) : Vw (newD mb) false false 0 0 0 [] := ⟨rfl, rfl, rfl, rfl, rfl, rfl⟩
end
def fLog : ByteArray := bts [108, 111, 103]
set_option maxHeartbeats 4000000 in
theorem awake06_r (s : St) : RunD T f_w06_awake [] s (.bool true) s := by
  refine run_body (F := r_w06_awake) (has rfl) (by simp [r_w06_awake]) ?_
  have e1 : bts [108, 111, 103] = fLog := rfl
  have hz : fLog.size < 140737488355328 := of_decide_eq_true (by kernel_rfl)
  have h3 : (bts [97, 98, 99]).size < 140737488355328 := of_decide_eq_true (by kernel_rfl)
  have h2 : (bts [100, 101]).size < 140737488355328 := of_decide_eq_true (by kernel_rfl)
  have hL : (bts [76, 111, 103]).size < 140737488355328 := of_decide_eq_true (by kernel_rfl)
  have h0 : (bts []).size < 140737488355328 := of_decide_eq_true (by kernel_rfl)
  have z0 : ((0 : Int) == 0) = true := rfl
  have z60 : ((60 : Int) == 60) = true := rfl
  have z61 : ((61 : Int) == 61) = true := rfl
  have z4 : ((4 : Int) == 4) = true := rfl
  have z3 : ((3 : Int) == 3) = true := rfl
  simp only [r_w06_awake, XX, CC, YY, Nat.reduceAdd, Nat.reduceSub, Nat.reduceLeDiff, Nat.reduceLT, Nat.reduceEqDiff, reduceIte, ↓reduceIte, Nat.reduceBEq, e1]
  refine Run.mono _ _ _ _ _ ?_ (new_r s)
  rintro v t1 ⟨rfl, rfl⟩
  have w := new_w s s (Ext.refl s)
  have V := newD_Vw s.length
  generalize s ++ [Blk.map [] 0, .cells true (cD (newD s.length))] = t at *
  generalize newD s.length = D at *
  generalize s.length + 1 = b at *
  simp only [XX, CC, YY, Nat.reduceAdd, Nat.reduceSub, Nat.reduceLeDiff, Nat.reduceLT, Nat.reduceEqDiff, reduceIte, ↓reduceIte, Nat.reduceBEq, eqp_f]
  refine Run.mono _ _ _ _ _ ?_ (op_w1 w fLog (bts [97, 98, 99]) hz h3)
  rintro v t1 ⟨rfl, w1, _⟩
  obtain ⟨c1, V1⟩ := V.done (k := 1) (a := fLog) (x := bts [97, 98, 99]) (m := 0) (by kernel_rfl) (.inl rfl) t.length
  rw [c1]
  clear w V
  generalize opV D 1 fLog (bts [97, 98, 99]) 0 t.length = D1 at *
  (try simp only [XX, CC, YY, Nat.reduceAdd, Nat.reduceSub, Nat.reduceLeDiff, Nat.reduceLT, Nat.reduceEqDiff, reduceIte, ↓reduceIte, Nat.reduceBEq])
  refine Run.mono _ _ _ _ _ ?_ (op_w2 w1 fLog (bts []) 0 0 hz)
  rintro v t2 ⟨rfl, w2, _⟩
  obtain ⟨c2, V2⟩ := V1.done (k := 2) (a := fLog) (x := bts []) (m := 0) (by kernel_rfl) (.inl rfl) 0
  rw [c2]
  clear w1 V1
  generalize opV D1 2 fLog (bts []) 0 0 = D2 at *
  (try simp only [XX, CC, YY, Nat.reduceAdd, Nat.reduceSub, Nat.reduceLeDiff, Nat.reduceLT, Nat.reduceEqDiff, reduceIte, ↓reduceIte, Nat.reduceBEq])
  refine Run.mono _ _ _ _ _ ?_ (op_w1 w2 fLog (bts [100, 101]) hz h2)
  rintro v t3 ⟨rfl, w3, _⟩
  obtain ⟨c3, V3⟩ := V2.done (k := 1) (a := fLog) (x := bts [100, 101]) (m := 0) (by kernel_rfl) (.inl rfl) t2.length
  rw [c3]
  clear w2 V2
  generalize opV D2 1 fLog (bts [100, 101]) 0 t2.length = D3 at *
  (try simp only [XX, CC, YY, Nat.reduceAdd, Nat.reduceSub, Nat.reduceLeDiff, Nat.reduceLT, Nat.reduceEqDiff, reduceIte, ↓reduceIte, Nat.reduceBEq])
  refine Run.mono _ _ _ _ _ ?_ (off_w w3 1)
  rintro v t4 ⟨rfl, w4, _⟩
  have V4 := V3.off 1
  clear w3 V3
  generalize offV D3 1 = D4 at *
  have r4 := V4.read fLog
  rw [show readK true _ fLog = (bts [], 60) by kernel_rfl] at r4
  (try simp only [XX, CC, YY, Nat.reduceAdd, Nat.reduceSub, Nat.reduceLeDiff, Nat.reduceLT, Nat.reduceEqDiff, reduceIte, ↓reduceIte, Nat.reduceBEq])
  refine (read_w w4 fLog hz).use ?_
  rw [r4]
  (try simp only [XX, CC, YY, Nat.reduceAdd, Nat.reduceSub, Nat.reduceLeDiff, Nat.reduceLT, Nat.reduceEqDiff, reduceIte, ↓reduceIte, Nat.reduceBEq])
  refine Run.mono _ _ _ _ _ ?_ (on_w w4)
  rintro v t5 ⟨rfl, w5, _⟩
  have V5 := V4.on
  clear w4 V4 r4
  generalize onD D4 = D5 at *
  have r5 := V5.read fLog
  rw [show readK false _ fLog = (bts [97, 98, 99, 100], 0) by kernel_rfl] at r5
  (try simp only [XX, CC, YY, Nat.reduceAdd, Nat.reduceSub, Nat.reduceLeDiff, Nat.reduceLT, Nat.reduceEqDiff, reduceIte, ↓reduceIte, Nat.reduceBEq])
  refine (read_w w5 fLog hz).use ?_
  rw [r5]
  have q5 : eqA .s (.str (bts [97, 98, 99, 100])) (.str (bts [97, 98, 99, 100])) = some true := by rw [eq_S, dec_t rfl]
  simp only [XX, CC, YY, Nat.reduceAdd, Nat.reduceSub, Nat.reduceLeDiff, Nat.reduceLT, Nat.reduceEqDiff, reduceIte, ↓reduceIte, Nat.reduceBEq, z0, z60, q5]
  have s5 := V5.safe fLog
  rw [show safeK _ fLog = 4 by kernel_rfl] at s5
  refine (safe_w w5 fLog).use ?_
  rw [s5]
  simp only [XX, CC, YY, Nat.reduceAdd, Nat.reduceSub, Nat.reduceLeDiff, Nat.reduceLT, Nat.reduceEqDiff, reduceIte, ↓reduceIte, Nat.reduceBEq, z4]
  refine (steps_w w5).use ?_
  rw [V5.steps, show IntKind.i64.wrap (IntKind.i64.wrap (IntKind.i64.wrap (0 + 1) + 1) + 1) = 3 by kernel_rfl]
  simp only [XX, CC, YY, Nat.reduceAdd, Nat.reduceSub, Nat.reduceLeDiff, Nat.reduceLT, Nat.reduceEqDiff, reduceIte, ↓reduceIte, Nat.reduceBEq, z3]
  have hc : (con D5).map (·.1) = [fLog] := by rw [V5.con]; kernel_rfl
  refine (names_w w5 [fLog] (by rw [hc]) (by simp [Ris]) (.sl t5.length 0 1 1 none) (t5 ++ [.cells true [.str fLog]]) (.inr ⟨by simp, rfl, by simp [cS]⟩)).use ?_
  have w6 := w5.app [.cells true [.str fLog]]
  have rd6 : Rd 1 cS (t5 ++ [.cells true [.str fLog]]) (.sl t5.length 0 1 1 none) [fLog] := rd_lit (by rw [get_last]; rfl) cS_len rfl
  generalize t5 ++ [.cells true [.str fLog]] = t6 at *
  have hf : fillA (List.replicate 1 [AV.str (bts [])]).flatten [(0, 1, .str fLog)] = some [.str fLog] := rfl
  (try simp only [XX, CC, YY, Nat.reduceAdd, Nat.reduceSub, Nat.reduceLeDiff, Nat.reduceLT, Nat.reduceEqDiff, reduceIte, ↓reduceIte, Nat.reduceBEq, hf])
  refine (names06_r (T := T) (t6 ++ [.cells true [.str fLog]]) _ (.sl t6.length 0 1 1 (some 1)) [fLog] [fLog] (by simp) (by simp) (rd6.ext ⟨_, rfl⟩) (rd_lit (l := [fLog]) (by rw [get_last]; rfl) cS_len rfl)).use ?_
  rw [dec_t rfl]
  have w7 := w6.app [.cells true [.str fLog]]
  (try simp only [XX, CC, YY, Nat.reduceAdd, Nat.reduceSub, Nat.reduceLeDiff, Nat.reduceLT, Nat.reduceEqDiff, reduceIte, ↓reduceIte, Nat.reduceBEq])
  refine (down_w w7).use ?_
  rw [V5.down]
  simp only [XX, CC, YY, Nat.reduceAdd, Nat.reduceSub, Nat.reduceLeDiff, Nat.reduceLT, Nat.reduceEqDiff, reduceIte, ↓reduceIte, Nat.reduceBEq, Bool.not_false]
  refine Run.mono _ _ _ _ _ ?_ (op_w1 w7 (bts [76, 111, 103]) (bts []) hL h0)
  rintro v t8 ⟨rfl, w8, _⟩
  obtain ⟨c8, _⟩ := V5.bad (k := 1) (a := bts [76, 111, 103]) (x := bts []) (m := 0) (c := 61) (by kernel_rfl) (by decide) (t6 ++ [Blk.cells true [.str fLog]]).length
  rw [c8]
  simp only [XX, CC, YY, Nat.reduceAdd, Nat.reduceSub, Nat.reduceLeDiff, Nat.reduceLT, Nat.reduceEqDiff, reduceIte, ↓reduceIte, Nat.reduceBEq, z61]
  exact ret_drop w8.ext rfl ⟨rfl, rfl⟩
end Go.Ev

/-! FilesNames: its run. -/
namespace Go.Ev
set_option linter.unusedVariables false
set_option linter.unusedSimpArgs false
open Go.Ev.So Go.Proofs

def RC.fst : RC → RC
  | .seq a _ => a
  | c => c
def RC.snd : RC → RC
  | .seq _ b => b
  | c => c
def RC.inn : RC → RC
  | .block _ c => c
  | .loop c => c
  | c => c
theorem nil_app (x : ByteArray) : bts [] ++ x = x := by
  apply ByteArray.ext
  rw [ByteArray.data_append]
  exact Array.empty_append
theorem chk_t {a : ByteArray} (h : nameB a = true) : chkK false [a] = 0 := by unfold chkK; simp [h]
theorem getK_1 (a : ByteArray) (d : ByteArray) (n : Int) : getK [(a, d, n)] a = some (a, d, n) := by simp [getK]
theorem getK_0 (a : ByteArray) : getK [] a = none := rfl
theorem app_new {a x : ByteArray} (h : nameB a = true) (hx : x.size ≤ 1048576) : opK false [] 1 a x 0 = 0 ∧ opL [] 1 a x 0 = [(a, x, 0)] := by
  refine ⟨?_, ?_⟩
  · show appK false [] a x = 0
    unfold appK
    rw [chk_t h, getK_0]
    simp only [List.length_nil]
    rw [if_neg (by decide), if_neg (by decide), if_neg (by omega)]
  · show appL [] a x = _
    unfold appL
    rw [getK_0, nil_app]; rfl
theorem app_one {a d x : ByteArray} {n : Int} (h : nameB a = true) (hx : d.size + x.size ≤ 1048576) : opK false [(a, d, n)] 1 a x 0 = 0 ∧ opL [(a, d, n)] 1 a x 0 = [(a, d ++ x, n)] := by
  refine ⟨?_, ?_⟩
  · show appK false _ a x = 0
    unfold appK
    rw [chk_t h, getK_1]
    simp only
    rw [if_neg (by decide), if_neg (by omega)]
  · show appL _ a x = _
    unfold appL
    rw [getK_1]
    simp [updK]
section
variable {s t : St} {n b : Nat} {D : Dsk} {ar : Bool} {left keep steps : Int}
theorem eq_s (x : ByteArray) : eqA .s (.str x) (.str x) = some true := by rw [eq_S, dec_t rfl]
end
end Go.Ev

/-! FilesKeep: its run. -/
namespace Go.Ev
set_option linter.unusedVariables false
set_option linter.unusedSimpArgs false
open Go.Ev.So Go.Proofs

theorem fLog_nm : nameB fLog = true := by kernel_rfl
/-- What the disk holds behind i pieces. -/
def KS (i : Nat) (all : ByteArray) (safe : Int) (C : List Tri) : Prop := (i = 0 ∧ C = [] ∧ all = bts [] ∧ safe = 0) ∨ (0 < i ∧ C = [(fLog, all, safe)])
theorem KS.app {i : Nat} {all : ByteArray} {safe : Int} {C : List Tri} (h : KS i all safe C) {x : ByteArray} (hx : all.size + x.size ≤ 1048576) : opK false C 1 fLog x 0 = 0 ∧ opL C 1 fLog x 0 = [(fLog, all ++ x, safe)] := by
  rcases h with ⟨_, rfl, rfl, rfl⟩ | ⟨_, rfl⟩
  · have := app_new (a := fLog) (x := x) fLog_nm (by omega)
    rw [nil_app]; exact this
  · exact app_one fLog_nm hx
structure KI (s : St) (n b : Nat) (v0 : AV) (keep : Int) (i : Nat) (e : Env) (t : St) (D : Dsk) (all : ByteArray) (safe : Int) : Prop where
  w : WD s n b D t
  v : ∃ C left kp steps, Vw D false false left kp steps C ∧ KS i all safe C
  sz : all.size ≤ 1048576
  g0 : e.get 0 = v0
  g1 : e.get 1 = .int .i64 keep
  g5 : e.get 5 = .ptr b 0
  g6 : e.get 6 = .str all
  g7 : e.get 7 = .int .i64 safe
  g8 : e.get 8 = .int .i64 (i : Int)
section
variable {s t : St} {n b : Nat} {D : Dsk} {left kp steps : Int}
end
end Go.Ev

/-! FilesArm: two disks in one store; an operation by its number. -/
namespace Go.Ev
set_option linter.unusedVariables false
set_option linter.unusedSimpArgs false
open Go.Ev.So Go.Proofs

/-- An operation of a script. -/
structure FOp where
  kind : Int
  on : Int
  name : ByteArray
  data : ByteArray
  n : Int
  keep : Int
def cFO (q : FOp) : List AV := [.int .i64 q.kind, .int .i64 q.on, .str q.name, .str q.data, .int .i64 q.n, .int .i64 q.keep]
theorem cFO_len (q : FOp) : (cFO q).length = 6 := id rfl
theorem fo0 {q : FOp} : (cFO q)[0]? = some (.int .i64 q.kind) := rfl
theorem fo2 {q : FOp} : (cFO q)[2]? = some (.str q.name) := rfl
theorem fo3 {q : FOp} : (cFO q)[3]? = some (.str q.data) := rfl
theorem fo4 {q : FOp} : (cFO q)[4]? = some (.int .i64 q.n) := rfl
theorem fo5 {q : FOp} : (cFO q)[5]? = some (.int .i64 q.keep) := rfl
def FOQ (q : FOp) : Prop := q.name.size < 140737488355328 ∧ q.data.size < 140737488355328 ∧ -9223372036854775808 ≤ q.n ∧ q.n ≤ 9223372036854775807
theorem ld_fo {t : St} {ob : Nat} {q : FOp} (h : t[ob]? = some (.cells true (cFO q))) : ldA t none (.ptr ob 0) = some (.int .i64 q.kind) ∧ ldA t none (.ptr ob 1) = some (.int .i64 q.on) ∧ ldA t none (.ptr ob 2) = some (.str q.name) ∧ ldA t none (.ptr ob 3) = some (.str q.data) ∧
    ldA t none (.ptr ob 4) = some (.int .i64 q.n) ∧ ldA t none (.ptr ob 5) = some (.int .i64 q.keep) ∧ ldA t (some 6) (.ptr ob 0) = some (.agg (cFO q)) := by
  refine ⟨?_, ?_, ?_, ?_, ?_, ?_, ?_⟩ <;> rw [ld_own h] <;> rfl
structure W2 (s : St) (n1 b1 : Nat) (D : Dsk) (n2 b2 : Nat) (E : Dsk) (t : St) : Prop where
  d : WD s n1 b1 D t
  e : WD s n2 b2 E t
  ap : ∀ i, DFoot b1 D i → ¬ DFoot b2 E i
/-- A block beside the two. -/
def KB2 (b1 : Nat) (D : Dsk) (b2 : Nat) (E : Dsk) (t : St) (i : Nat) (B : Blk) : Prop := t[i]? = some B ∧ ¬ DFoot b1 D i ∧ ¬ DFoot b2 E i
section
variable {s t t' : St} {n1 b1 n2 b2 : Nat} {D D' E E' : Dsk} {i : Nat} {B : Blk}
theorem W2.st1 (h : W2 s n1 b1 D n2 b2 E t) (w : WD s n1 b1 D' t') (g : Gs (DFoot b1 D) (DFoot b1 D') t t') : W2 s n1 b1 D' n2 b2 E t' :=
  ⟨w, h.e.other g (fun i hi hf => h.ap i hf hi) (fun i hi => h.d.foot i hi), fun i hi hf => by
    rcases g.foot i hi with x | x
    · exact h.ap i x hf
    · have := hf.lt h.e.at_; omega⟩
theorem W2.st2 (h : W2 s n1 b1 D n2 b2 E t) (w : WD s n2 b2 E' t') (g : Gs (DFoot b2 E) (DFoot b2 E') t t') : W2 s n1 b1 D n2 b2 E' t' :=
  ⟨h.d.other g (fun i hi hf => h.ap i hi hf) (fun i hi => h.e.foot i hi), w, fun i hi hf => by
    rcases g.foot i hf with x | x
    · exact h.ap i hi x
    · have := hi.lt h.d.at_; omega⟩
theorem W2.app (h : W2 s n1 b1 D n2 b2 E t) (r : St) : W2 s n1 b1 D n2 b2 E (t ++ r) := ⟨h.d.app r, h.e.app r, h.ap⟩
theorem KB2.st1 (k : KB2 b1 D b2 E t i B) (g : Gs (DFoot b1 D) (DFoot b1 D') t t') : KB2 b1 D' b2 E t' i B := by
  have hlt := (List.getElem?_eq_some_iff.1 k.1).1
  exact ⟨by rw [g.same i hlt k.2.1]; exact k.1, fun x => by rcases g.foot i x with y | y; exact k.2.1 y; omega, k.2.2⟩
theorem KB2.st2 (k : KB2 b1 D b2 E t i B) (g : Gs (DFoot b2 E) (DFoot b2 E') t t') : KB2 b1 D b2 E' t' i B := by
  have hlt := (List.getElem?_eq_some_iff.1 k.1).1
  exact ⟨by rw [g.same i hlt k.2.2]; exact k.1, k.2.1, fun x => by rcases g.foot i x with y | y; exact k.2.2 y; omega⟩
theorem KB2.app (k : KB2 b1 D b2 E t i B) (r : St) : KB2 b1 D b2 E (t ++ r) i B := ⟨by rw [List.getElem?_append_left (List.getElem?_eq_some_iff.1 k.1).1]; exact k.1, k.2⟩
theorem W2.new (h : W2 s n1 b1 D n2 b2 E t) (B : Blk) : KB2 b1 D b2 E (t ++ [B]) t.length B :=
  ⟨get_last, fun x => by have := x.lt h.d.at_; omega, fun x => by have := x.lt h.e.at_; omega⟩
/-- A slice of strings beside the two. -/
def RK (b1 : Nat) (D : Dsk) (b2 : Nat) (E : Dsk) (t : St) (v : AV) (l : List ByteArray) : Prop := (v = .nils ∧ l = []) ∨ ∃ i, v = .sl i 0 1 l.length none ∧ KB2 b1 D b2 E t i (.cells true (l.flatMap cS))
theorem RK.rd {v : AV} {l : List ByteArray} (h : RK b1 D b2 E t v l) : Rd 1 cS t v l := by
  rcases h with ⟨rfl, rfl⟩ | ⟨i, rfl, k⟩
  · exact Rd.nil
  · exact rd_lit k.1 cS_len rfl
theorem RK.st1 {v : AV} {l : List ByteArray} (h : RK b1 D b2 E t v l) (g : Gs (DFoot b1 D) (DFoot b1 D') t t') : RK b1 D' b2 E t' v l := by
  rcases h with h | ⟨i, h, k⟩
  · exact .inl h
  · exact .inr ⟨i, h, k.st1 g⟩
theorem RK.st2 {v : AV} {l : List ByteArray} (h : RK b1 D b2 E t v l) (g : Gs (DFoot b2 E) (DFoot b2 E') t t') : RK b1 D b2 E' t' v l := by
  rcases h with h | ⟨i, h, k⟩
  · exact .inl h
  · exact .inr ⟨i, h, k.st2 g⟩
theorem RK.app {v : AV} {l : List ByteArray} (h : RK b1 D b2 E t v l) (r : St) : RK b1 D b2 E (t ++ r) v l := by
  rcases h with h | ⟨i, h, k⟩
  · exact .inl h
  · exact .inr ⟨i, h, k.app r⟩
theorem W2.made (h : W2 s n1 b1 D n2 b2 E t) (l : List ByteArray) : RK b1 D b2 E (madeT t l) (madeV t l) l ∧ W2 s n1 b1 D n2 b2 E (madeT t l) := by
  unfold madeT madeV
  by_cases c : l = []
  · rw [if_pos c, if_pos c]; exact ⟨.inl ⟨rfl, c⟩, h⟩
  · rw [if_neg c, if_neg c]; exact ⟨.inr ⟨_, rfl, h.new _⟩, h.app _⟩
theorem KB2.made (k : KB2 b1 D b2 E t i B) (l : List ByteArray) : KB2 b1 D b2 E (madeT t l) i B := by
  unfold madeT
  split
  · exact k
  · exact k.app _
theorem RK.made {v : AV} {m : List ByteArray} (k : RK b1 D b2 E t v m) (l : List ByteArray) : RK b1 D b2 E (madeT t l) v m := by
  unfold madeT
  split
  · exact k
  · exact k.app _
theorem Gs.pre {A A' : Nat → Prop} {r : St} (g : Gs A A' (t ++ r) t') : Gs A A' t t' := by
  have := g.len
  rw [List.length_append] at this
  refine ⟨by omega, fun i hi hf => ?_, fun i hi => ?_⟩
  · rw [g.same i (by rw [List.length_append]; omega) hf, List.getElem?_append_left hi]
  · rcases g.foot i hi with x | x
    · exact .inl x
    · rw [List.length_append] at x; exact .inr (by omega)
end
section
variable {s t : St} {n b : Nat} {D : Dsk}
end
section
variable {D : Dsk} {dn ar : Bool} {left keep steps : Int} {C : List Tri}
theorem Vw.gone (V : Vw D dn true 0 keep steps C) {k : Int} {a x : ByteArray} {m : Int} (hc : opK dn C k a x m = 0) (fb : Nat) :
    outC D (opC D k a x m) = 60 ∧ Vw (opV D k a x m fb) true false 0 keep steps ((preL C k a x).map (loseK keep)) := by
  obtain ⟨rfl, ha, hl, rfl, rfl, rfl⟩ := V
  have := op_gone (k := k) (a := a) (x := x) (m := m) (by rw [opK_con]; exact hc) (show Go.Ev.gone D from ⟨ha, hl⟩) fb
  rw [hl] at this
  exact this
end
end Go.Ev
