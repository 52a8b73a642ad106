import Derived.Test.YtliiihocjdoamaaDoorZFilesArm5
import Derived.Test.YtliiihocjdoamaaDoorZFilesArm2
import Derived.Test.YtliiihocjdoamaaDoorZFilesArm3
/-! The disk's operations, wherever the power goes. -/
namespace Go.Ev
set_option linter.unusedVariables false
set_option linter.unusedSimpArgs false
open Go.Ev.So Go.Proofs

section
variable {t : St} {n b : Nat} {D D' : Dsk}
theorem DFoot.same (hm : D'.mb = D.mb) (hf : D'.fs.map (·.1.fb) = D.fs.map (·.1.fb)) (i : Nat) : DFoot b D' i ↔ DFoot b D i := by
  have e : (∃ f ∈ D'.fs, i = f.1.fb) ↔ ∃ f ∈ D.fs, i = f.1.fb := by
    have h1 : (∃ f ∈ D'.fs, i = f.1.fb) ↔ i ∈ D'.fs.map (·.1.fb) := by rw [List.mem_map]; exact ⟨fun ⟨f, h, e⟩ => ⟨f, h, e.symm⟩, fun ⟨f, h, e⟩ => ⟨f, h, e.symm⟩⟩
    have h2 : (∃ f ∈ D.fs, i = f.1.fb) ↔ i ∈ D.fs.map (·.1.fb) := by rw [List.mem_map]; exact ⟨fun ⟨f, h, e⟩ => ⟨f, h, e.symm⟩, fun ⟨f, h, e⟩ => ⟨f, h, e.symm⟩⟩
    rw [h1, h2, hf]
  unfold DFoot
  rw [hm, e]
theorem DStep.setD (h : DAt t n b D) (ho : DOk D) (hm : D'.mb = D.mb) (hc : D'.clock = D.clock) (hf : D'.fs = D.fs) : DStep n b D D' t (t.set b (.cells true (cD D'))) :=
  ⟨h.setD hm hc hf, ho.same hc hf, by simp, fun i _ hn => List.getElem?_set_ne (fun e => hn (.inl e.symm)), fun i hi => .inl ((DFoot.same hm (by rw [hf]) i).1 hi)⟩
theorem setF_fbs (D : Dsk) (name : ByteArray) (g : Fil → Fil) (hb : ∀ x, (g x).fb = x.fb) : (setF D name g).fs.map (·.1.fb) = D.fs.map (·.1.fb) := by
  show (D.fs.map (updF name g)).map (·.1.fb) = _
  rw [List.map_map]
  apply List.map_congr_left
  intro x _
  simp only [Function.comp, updF]
  split
  · simp only [hb]
  · rfl
theorem setF_ok (ho : DOk D) {name : ByteArray} {f : Fil} (hnm : (D.fs.map (·.1.name)).Nodup) (hg : getF D name = some f) (g : Fil → Fil) (hok : FOk (g f).data (g f).safe) : DOk (setF D name g) := by
  obtain ⟨k, hk, hfn⟩ := getF_mem hg
  refine ⟨fun x hx => ?_, ?_, fun x hx => ?_, ?_⟩
  · obtain ⟨y, hy, rfl⟩ := List.mem_map.1 hx
    unfold updF
    split
    · rename_i c
      have e := nodup_eq hnm hy hk (by rw [← c, hfn])
      subst e
      exact hok
    · exact ho.files y hy
  · show (D.fs.map (updF name g)).length ≤ 16
    rw [List.length_map]; exact ho.few
  · obtain ⟨y, hy, rfl⟩ := List.mem_map.1 hx
    have : (updF name g y).2 = y.2 := by unfold updF; split <;> rfl
    rw [this]; exact ho.clock y hy
  · show ((D.fs.map (updF name g)).map (·.2)).Nodup
    rw [List.map_map, List.map_congr_left (g := (·.2)) fun y _ => by simp only [Function.comp]; unfold updF; split <;> rfl]
    exact ho.stamps
theorem DStep.setF (h : DAt t n b D) (ho : DOk D) {name : ByteArray} {f : Fil} (hg : getF D name = some f) (g : Fil → Fil) (hn : ∀ x, (g x).name = x.name) (hb : ∀ x, (g x).fb = x.fb) (hok : FOk (g f).data (g f).safe) :
    DStep n b D (Ev.setF D name g) t (t.set f.fb (.cells true (cF (g f)))) := by
  obtain ⟨k, hk, hfn⟩ := getF_mem hg
  exact ⟨h.setF hg g hn hb, setF_ok ho h.names hg g hok, by simp, fun i _ hni => List.getElem?_set_ne (fun e => hni (.inr (.inr ⟨_, hk, e.symm⟩))), fun i hi => .inl ((DFoot.same (D' := Ev.setF D name g) (D := D) rfl (setF_fbs D name g hb) i).1 hi)⟩
theorem DStep.addF (h : DAt t n b D) (ho : DOk D) (hnt : n ≤ t.length) {name : ByteArray} (hg : getF D name = none) (data : ByteArray) (hd : data.size ≤ 1048576) (hl : D.fs.length < 16) (x : List Blk) (hx : x = [.cells true (cF ⟨name, data, 0, t.length⟩)]) :
    DStep n b D (Ev.addF D name data t.length) t ((t ++ x).set D.mb (.map (D.fs.map entF ++ [(.str name, .ptr t.length 0, D.clock)]) (D.clock + 1))) := by
  subst hx
  refine ⟨h.addF hnt hg data _ rfl, ⟨fun f hf => ?_, ?_, fun f hf => ?_, ?_⟩, by simp, fun i hi hn => ?_, fun i hi => ?_⟩
  · rcases List.mem_append.1 hf with k | k
    · exact ho.files f k
    · simp only [List.mem_singleton] at k; subst k
      exact ⟨Int.le_refl _, by simp, hd⟩
  · show (D.fs ++ _).length ≤ 16
    simp; omega
  · rcases List.mem_append.1 hf with k | k
    · have := ho.clock f k
      show f.2 < D.clock + 1
      omega
    · simp only [List.mem_singleton] at k; subst k
      show D.clock < D.clock + 1
      omega
  · show ((D.fs ++ [((⟨name, data, 0, t.length⟩ : Fil), D.clock)]).map (·.2)).Nodup
    rw [List.map_append, List.nodup_append]
    refine ⟨ho.stamps, by simp, ?_⟩
    intro i hi j hj
    simp only [List.map_cons, List.map_nil, List.mem_singleton] at hj
    subst hj
    obtain ⟨f, hf, rfl⟩ := List.mem_map.1 hi
    have := ho.clock f hf
    omega
  · rw [List.getElem?_set_ne (fun e => hn (.inr (.inl e.symm))), List.getElem?_append_left hi]
  · rcases hi with rfl | rfl | ⟨f, hf, rfl⟩
    · exact .inl (.inl rfl)
    · exact .inl (.inr (.inl rfl))
    · rcases List.mem_append.1 hf with k | k
      · exact .inl (.inr (.inr ⟨f, k, rfl⟩))
      · simp only [List.mem_singleton] at k; subst k
        exact .inr (Nat.le_refl _)
end

def gone (D : Dsk) : Prop := D.armed = true ∧ D.left = 0
instance (D : Dsk) : Decidable (gone D) := inferInstanceAs (Decidable (_ ∧ _))
def spendC (D : Dsk) : Int := if gone D then 60 else 0
def spendV (D : Dsk) : Dsk := if gone D then loseD D D.keep else spendD D
set_option maxHeartbeats 1000000 in
theorem spend_g (t : St) (n b : Nat) (D : Dsk) (hD : DAt t n b D) (hO : DOk D) : Run T f_files_Disk_spend [.ptr b 0] t fun v t' => v = .int .i64 (spendC D) ∧ DStep n b D (spendV D) t t' := by
  unfold spendC spendV
  by_cases h : gone D
  · rw [if_pos h, if_pos h]
    obtain ⟨h1, h2⟩ := h
    obtain ⟨_, _, l2, l3, l4, _⟩ := hD.ld
    rw [h1] at l2
    refine run_body (F := r_files_Disk_spend) (has rfl) (by simp [r_files_Disk_spend]) ?_
    have hz : (D.left == 0) = true := by simp [h2]
    simp only [r_files_Disk_spend, XX, CC, YY, Nat.reduceAdd, Nat.reduceSub, Nat.reduceLeDiff, Nat.reduceLT, Nat.reduceEqDiff, reduceIte, ↓reduceIte, Nat.reduceBEq, l2, gv_tt, l3, hz, l4]
    refine (lose_r t n b D D.keep hD hO).use ?_
    (try simp only [XX, CC, YY, Nat.reduceAdd, Nat.reduceSub, Nat.reduceLeDiff, Nat.reduceLT, Nat.reduceEqDiff, reduceIte, ↓reduceIte, Nat.reduceBEq])
    exact .inl ⟨rfl, lose_step hD hO D.keep⟩
  · rw [if_neg h, if_neg h]
    refine (spend_r t n b D hD h).use ⟨rfl, DStep.setD hD hO rfl rfl rfl⟩

/-- the disk behind an append -/
def appM (D : Dsk) (name data : ByteArray) (fb : Nat) : Dsk := match getF D name with
  | some f => setF D name fun x => { x with data := x.data ++ data }
  | none => addF D name (bts [] ++ data) fb
def appV (D : Dsk) (name data : ByteArray) (fb : Nat) : Dsk := if appC D name data ≠ 0 then D else spendV (appM D name data fb)
def outC (D : Dsk) (c : Int) : Int := if c ≠ 0 then c else spendC D
set_option maxHeartbeats 4000000 in
theorem append_g (t : St) (n b : Nat) (D : Dsk) (name data : ByteArray) (hD : DAt t n b D) (hO : DOk D) (hnt : n ≤ t.length) (hs : name.size < 140737488355328) (hds : data.size < 140737488355328) :
    Run T f_files_Disk_Append [.ptr b 0, .str name, .str data] t fun v t' => v = .int .i64 (outC D (appC D name data)) ∧ DStep n b D (appV D name data t.length) t t' := by
  refine run_body (F := r_files_Disk_Append) (has rfl) (by simp [r_files_Disk_Append]) ?_
  have same : ∀ (v : AV) (c : Int), appC D name data = c → c ≠ 0 → v = .int .i64 c → (v = .int .i64 (outC D (appC D name data)) ∧ DStep n b D (appV D name data t.length) t t) := by
    rintro v c h1 h2 rfl
    exact ⟨by unfold outC; rw [h1, if_pos h2], by unfold appV; rw [if_pos (by rw [h1]; exact h2)]; exact .refl hD hO⟩
  have hcv := chkV_val D [name]
  have hval : appC D name data = if chkV D [name] ≠ 0 then chkV D [name] else match getF D name with
    | some f => if (data.size : Int) > 1048576 - f.data.size then 63 else 0
    | none => if D.fs.length ≥ 16 then 63 else if (data.size : Int) > 1048576 then 63 else 0 := rfl
  have hvD : appC D name data = 0 → appV D name data t.length = spendV (match getF D name with
    | some f => setF D name fun x => { x with data := x.data ++ data }
    | none => addF D name (bts [] ++ data) t.length) := fun h => by unfold appV; rw [if_neg (by rw [h]; simp)]; rfl
  have hvC : appC D name data = 0 → outC D (appC D name data) = spendC D := fun h => by unfold outC; rw [if_neg (by rw [h]; simp)]
  simp only [r_files_Disk_Append, XX, CC, YY, Nat.reduceAdd, Nat.reduceSub, Nat.reduceLeDiff, Nat.reduceLT, Nat.reduceEqDiff, reduceIte, ↓reduceIte, Nat.reduceBEq]
  refine (find_r t n b D name hD hs).use ?_
  unfold findV
  generalize chkV D [name] = e at *
  generalize outC D (appC D name data) = O at *
  generalize appC D name data = C at *
  generalize appV D name data t.length = D' at *
  have em : e = 0 ∨ ¬ e = 0 := Classical.em _
  rcases em with c | c
  · subst c
    rw [if_neg (by simp)] at hval ⊢
    have hm := hD.ld.1
    cases hg : getF D name with
    | some f =>
      rw [hg] at hval hvD
      simp only at hval hvD
      obtain ⟨k, hk, hfn⟩ := getF_mem hg
      have hfd := hO.files _ hk
      (try simp only at hfd)
      unfold FOk at hfd
      have hfat := (hD.file _ hk).2
      have l0 : ldA t none (.ptr f.fb 0) = some (.str f.data) := by rw [ld_own hfat]; rfl
      have hw : IntKind.i64.wrap (1048576 - (f.data.size : Int)) = 1048576 - (f.data.size : Int) := w64_in (by omega) (by omega)
      by_cases c2 : (data.size : Int) > 1048576 - f.data.size
      · rw [if_pos c2] at hval
        simp only [XX, CC, YY, Nat.reduceAdd, Nat.reduceSub, Nat.reduceLeDiff, Nat.reduceLT, Nat.reduceEqDiff, reduceIte, ↓reduceIte, Nat.reduceBEq, show ((0 : Int) == 0) = true from rfl, Bool.not_true, gv_tf, eqp_f, l0, hw, dec_t c2]
        exact .inl (same _ 63 hval (by decide) rfl)
      · rw [if_neg c2] at hval
        have hadd := add_s (a := f.data) (b := data) (by omega)
        have hst : stA t none (.ptr f.fb 0) (.str (f.data ++ data)) = some (t.set f.fb (.cells true (cF { f with data := f.data ++ data }))) := by
          rw [st_one (by rfl), wr_own hfat, if_pos ⟨by simp [cF], by rfl⟩]; rfl
        have hD1 := DStep.setF hD hO hg (fun x => { x with data := x.data ++ data }) (fun _ => rfl) (fun _ => rfl) (show FOk (f.data ++ data) f.safe from by unfold FOk; rw [app_size]; omega)
        (try simp only at hD1)
        have hg1 : ∃ f', getF (setF D name fun x => { x with data := x.data ++ data }) name = some f' ∧ f'.fb = f.fb := by
          rw [getF_setF D name (fun x => { x with data := x.data ++ data }) (fun _ => rfl), hg]
          exact ⟨_, rfl, rfl⟩
        obtain ⟨f', hg2, hfb⟩ := hg1
        have hmu := mup_same hD1.at_ hg2
        rw [hfb] at hmu
        have hm1 := hD1.at_.ld.1
        have hsp := spend_g _ n b _ hD1.at_ hD1.ok
        have hmm : (setF D name fun x => { x with data := x.data ++ data }).mb = D.mb := rfl
        rw [hmm] at hmu hm1
        simp only [XX, CC, YY, Nat.reduceAdd, Nat.reduceSub, Nat.reduceLeDiff, Nat.reduceLT, Nat.reduceEqDiff, reduceIte, ↓reduceIte, Nat.reduceBEq, show ((0 : Int) == 0) = true from rfl, Bool.not_true, gv_tf, eqp_f, l0, hw, dec_f c2, hadd, hst, hm1, hmu]
        refine Run.mono _ _ _ _ _ ?_ hsp
        rintro v t' ⟨rfl, h2⟩
        (try simp only [XX, CC, YY, Nat.reduceAdd, Nat.reduceSub, Nat.reduceLeDiff, Nat.reduceLT, Nat.reduceEqDiff, reduceIte, ↓reduceIte, Nat.reduceBEq])
        exact .inl ⟨by rw [hvC hval]; rfl, by rw [hvD hval]; exact hD1.trans h2⟩
    | none =>
      rw [hg] at hval hvD
      simp only at hval hvD
      have hmb : mapB t D.mb = some (D.fs.map entF, D.clock) := by unfold mapB; rw [hD.map]
      have hln : xtA t .lenm [.map D.mb] = some (.int .i64 D.fs.length, t) := by
        show (mapB t D.mb).map _ = _
        rw [hmb]; simp
      by_cases c2 : (D.fs.length : Int) ≥ 16
      · rw [if_pos (by omega)] at hval
        simp only [XX, CC, YY, Nat.reduceAdd, Nat.reduceSub, Nat.reduceLeDiff, Nat.reduceLT, Nat.reduceEqDiff, reduceIte, ↓reduceIte, Nat.reduceBEq, show ((62 : Int) == 0) = false from rfl, show ((62 : Int) == 62) = true from rfl, Bool.not_true, Bool.not_false, gv_tt, eqp_t, hm, hln, dec_t c2]
        exact .inl (same _ 63 hval (by decide) rfl)
      · rw [if_neg (by omega)] at hval
        have hb0 : boxA (some 2) (.agg [.str (bts []), .int .i64 0]) = some [.str (bts []), .int .i64 0] := rfl
        have hw : IntKind.i64.wrap (1048576 - ((bts []).size : Int)) = 1048576 := by
          rw [show (((bts []).size : Nat) : Int) = 0 from rfl, w64_in (by decide) (by decide)]; rfl
        have l0 : ldA (t ++ [Blk.cells true [.str (bts []), .int .i64 0]]) none (.ptr t.length 0) = some (.str (bts [])) := by rw [ld_own get_last]; rfl
        by_cases c3 : (data.size : Int) > 1048576
        · rw [if_pos c3] at hval
          simp only [XX, CC, YY, Nat.reduceAdd, Nat.reduceSub, Nat.reduceLeDiff, Nat.reduceLT, Nat.reduceEqDiff, reduceIte, ↓reduceIte, Nat.reduceBEq, show ((62 : Int) == 0) = false from rfl, show ((62 : Int) == 62) = true from rfl, Bool.not_true, Bool.not_false, gv_tt, eqp_t, hm, hln, dec_f c2, hb0, l0, hw, dec_t c3]
          refine ret_drop ⟨_, rfl⟩ rfl (same _ 63 hval (by decide) rfl)
        · rw [if_neg c3] at hval
          have hadd := add_s (a := bts []) (b := data) (by rw [show (bts []).size = 0 from rfl]; omega)
          have hlt := (List.getElem?_eq_some_iff.1 hD.cells).1
          have hx2 : Ext t (t ++ [.cells true [.str (bts [] ++ data), .int .i64 0]]) := ⟨_, rfl⟩
          have hm2 : ldA (t ++ [Blk.cells true [.str (bts [] ++ data), .int .i64 0]]) none (.ptr b 0) = some (.map D.mb) := ldA_ext hm _
          have hmu := mup_new (hD.ext hx2) hg t.length
          have hD2 := DStep.addF hD hO hnt hg (bts [] ++ data) (by rw [app_size, show (bts []).size = 0 from rfl]; omega) (by omega) _ rfl
          have hsp := spend_g _ n b _ hD2.at_ hD2.ok
          have hcF : cF ⟨name, bts [] ++ data, 0, t.length⟩ = [.str (bts [] ++ data), .int .i64 0] := rfl
          rw [hcF] at hsp hD2
          simp only [XX, CC, YY, Nat.reduceAdd, Nat.reduceSub, Nat.reduceLeDiff, Nat.reduceLT, Nat.reduceEqDiff, reduceIte, ↓reduceIte, Nat.reduceBEq, show ((62 : Int) == 0) = false from rfl, show ((62 : Int) == 62) = true from rfl, Bool.not_true, Bool.not_false, gv_tt, eqp_t, hm, hln, dec_f c2, hb0, l0, hw, dec_f c3, hadd, hm2, hmu]
          refine Run.mono _ _ _ _ _ ?_ hsp
          rintro v t' ⟨rfl, h2⟩
          (try simp only [XX, CC, YY, Nat.reduceAdd, Nat.reduceSub, Nat.reduceLeDiff, Nat.reduceLT, Nat.reduceEqDiff, reduceIte, ↓reduceIte, Nat.reduceBEq])
          exact .inl ⟨by rw [hvC hval]; rfl, by rw [hvD hval]; exact hD2.trans h2⟩
  · have c' : (e == 0) = false := by simp [c]
    have c2 : (e == 62) = false := by
      have : e ≠ 62 := by omega
      simp [this]
    rw [if_pos c] at hval ⊢
    simp only [XX, CC, YY, Nat.reduceAdd, Nat.reduceSub, Nat.reduceLeDiff, Nat.reduceLT, Nat.reduceEqDiff, reduceIte, ↓reduceIte, Nat.reduceBEq, c', Bool.not_false, gv_tt, c2]
    exact .inl (same _ e hval c rfl)

def syncV (D : Dsk) (name : ByteArray) : Dsk := if syncC D name ≠ 0 then D else if spendC D ≠ 0 then spendV D else setF (spendV D) name fun x => { x with safe := x.data.size }
theorem spendC_val (D : Dsk) : spendC D = 0 ∧ spendV D = spendD D ∨ spendC D = 60 ∧ spendV D = loseD D D.keep := by
  unfold spendC spendV
  split
  · exact .inr ⟨rfl, rfl⟩
  · exact .inl ⟨rfl, rfl⟩
set_option maxHeartbeats 2000000 in
theorem sync_g (t : St) (n b : Nat) (D : Dsk) (name : ByteArray) (hD : DAt t n b D) (hO : DOk D) (hs : name.size < 140737488355328) :
    Run T f_files_Disk_Sync [.ptr b 0, .str name] t fun v t' => v = .int .i64 (outC D (syncC D name)) ∧ DStep n b D (syncV D name) t t' := by
  refine run_body (F := r_files_Disk_Sync) (has rfl) (by simp [r_files_Disk_Sync]) ?_
  have same : ∀ (v : AV) (c : Int), syncC D name = c → c ≠ 0 → v = .int .i64 c → (v = .int .i64 (outC D (syncC D name)) ∧ DStep n b D (syncV D name) t t) := by
    rintro v c h1 h2 rfl
    exact ⟨by unfold outC; rw [h1, if_pos h2], by unfold syncV; rw [if_pos (by rw [h1]; exact h2)]; exact .refl hD hO⟩
  have hval : syncC D name = if chkV D [name] ≠ 0 then chkV D [name] else match getF D name with
    | some _ => 0
    | none => 62 := rfl
  have hvD : syncC D name = 0 → syncV D name = if spendC D ≠ 0 then spendV D else setF (spendV D) name fun x => { x with safe := x.data.size } := fun h => by unfold syncV; rw [if_neg (by rw [h]; simp)]
  have hvC : syncC D name = 0 → outC D (syncC D name) = spendC D := fun h => by unfold outC; rw [if_neg (by rw [h]; simp)]
  simp only [r_files_Disk_Sync, XX, CC, YY, Nat.reduceAdd, Nat.reduceSub, Nat.reduceLeDiff, Nat.reduceLT, Nat.reduceEqDiff, reduceIte, ↓reduceIte, Nat.reduceBEq]
  refine (find_r t n b D name hD hs).use ?_
  unfold findV
  generalize chkV D [name] = e at *
  generalize outC D (syncC D name) = O at *
  generalize syncC D name = C at *
  generalize syncV D name = D' at *
  have em : e = 0 ∨ ¬ e = 0 := Classical.em _
  rcases em with c | c
  · subst c
    rw [if_neg (by simp)] at hval ⊢
    cases hg : getF D name with
    | none =>
      rw [hg] at hval
      simp only [XX, CC, YY, Nat.reduceAdd, Nat.reduceSub, Nat.reduceLeDiff, Nat.reduceLT, Nat.reduceEqDiff, reduceIte, ↓reduceIte, Nat.reduceBEq, show ((62 : Int) == 0) = false from rfl, Bool.not_false]
      exact .inl (same _ 62 hval (by decide) rfl)
    | some f =>
      rw [hg] at hval
      simp only at hval
      obtain ⟨k, hk, hfn⟩ := getF_mem hg
      have hfd : FOk f.data f.safe := hO.files _ hk
      simp only [XX, CC, YY, Nat.reduceAdd, Nat.reduceSub, Nat.reduceLeDiff, Nat.reduceLT, Nat.reduceEqDiff, reduceIte, ↓reduceIte, Nat.reduceBEq, show ((0 : Int) == 0) = true from rfl, Bool.not_true]
      refine Run.mono _ _ _ _ _ ?_ (spend_g t n b D hD hO)
      rintro v t' ⟨rfl, hst⟩
      rcases spendC_val D with ⟨h1, h2⟩ | ⟨h1, h2⟩
      · rw [h2] at hst
        rw [h1]
        have hgs : getF (spendD D) name = some f := by rw [getF_spend]; exact hg
        have hfat := (hst.at_.file (f, k) hk).2
        have l0 : ldA t' none (.ptr f.fb 0) = some (.str f.data) := by rw [ld_own hfat]; rfl
        have hsto : stA t' none (.ptr f.fb 1) (.int .i64 f.data.size) = some (t'.set f.fb (.cells true (cF { f with safe := f.data.size }))) := by
          rw [st_one (by rfl), wr_own hfat, if_pos ⟨by simp [cF], by rfl⟩]; rfl
        have hD2 := DStep.setF hst.at_ hst.ok hgs (fun x => { x with safe := x.data.size }) (fun _ => rfl) (fun _ => rfl) (by unfold FOk at hfd ⊢; simp only; omega)
        simp only [XX, CC, YY, Nat.reduceAdd, Nat.reduceSub, Nat.reduceLeDiff, Nat.reduceLT, Nat.reduceEqDiff, reduceIte, ↓reduceIte, Nat.reduceBEq, show ((0 : Int) == 0) = true from rfl, Bool.not_true, l0, hsto]
        refine .inl ⟨by rw [hvC hval, h1], ?_⟩
        rw [hvD hval, h1, if_neg (by simp), h2]
        exact hst.trans hD2
      · rw [h1]
        simp only [XX, CC, YY, Nat.reduceAdd, Nat.reduceSub, Nat.reduceLeDiff, Nat.reduceLT, Nat.reduceEqDiff, reduceIte, ↓reduceIte, Nat.reduceBEq, show ((60 : Int) == 0) = false from rfl, Bool.not_false]
        refine .inl ⟨by rw [hvC hval, h1], ?_⟩
        rw [hvD hval, h1, if_pos (by decide)]
        exact hst
  · have c' : (e == 0) = false := by simp [c]
    rw [if_pos c] at hval ⊢
    simp only [XX, CC, YY, Nat.reduceAdd, Nat.reduceSub, Nat.reduceLeDiff, Nat.reduceLT, Nat.reduceEqDiff, reduceIte, ↓reduceIte, Nat.reduceBEq, c', Bool.not_false]
    exact .inl (same _ e hval c rfl)
end Go.Ev

/-! The disk's operations, wherever the power goes: Cut, Off, On, Arm. -/
namespace Go.Ev
set_option linter.unusedVariables false
set_option linter.unusedSimpArgs false
open Go.Ev.So Go.Proofs

def cutV' (D : Dsk) (name : ByteArray) (m : Int) : Dsk := if cutC D name m ≠ 0 then D else if spendC D ≠ 0 then spendV D else setF (spendV D) name fun x => { x with data := x.data.extract 0 m.toNat, safe := m }
set_option maxHeartbeats 2000000 in
theorem dcut_g (t : St) (n b : Nat) (D : Dsk) (name : ByteArray) (m : Int) (hD : DAt t n b D) (hO : DOk D) (hs : name.size < 140737488355328) :
    Run T f_files_Disk_Cut [.ptr b 0, .str name, .int .i64 m] t fun v t' => v = .int .i64 (outC D (cutC D name m)) ∧ DStep n b D (cutV' D name m) t t' := by
  refine run_body (F := r_files_Disk_Cut) (has rfl) (by simp [r_files_Disk_Cut]) ?_
  have same : ∀ (v : AV) (c : Int), cutC D name m = c → c ≠ 0 → v = .int .i64 c → (v = .int .i64 (outC D (cutC D name m)) ∧ DStep n b D (cutV' D name m) t t) := by
    rintro v c h1 h2 rfl
    exact ⟨by unfold outC; rw [h1, if_pos h2], by unfold cutV'; rw [if_pos (by rw [h1]; exact h2)]; exact .refl hD hO⟩
  have hval : cutC D name m = if chkV D [name] ≠ 0 then chkV D [name] else match getF D name with
    | some f => if m < 0 ∨ m > f.data.size then 1 else 0
    | none => 62 := rfl
  have hvD : cutC D name m = 0 → cutV' D name m = if spendC D ≠ 0 then spendV D else setF (spendV D) name fun x => { x with data := x.data.extract 0 m.toNat, safe := m } := fun h => by unfold cutV'; rw [if_neg (by rw [h]; simp)]
  have hvC : cutC D name m = 0 → outC D (cutC D name m) = spendC D := fun h => by unfold outC; rw [if_neg (by rw [h]; simp)]
  simp only [r_files_Disk_Cut, XX, CC, YY, Nat.reduceAdd, Nat.reduceSub, Nat.reduceLeDiff, Nat.reduceLT, Nat.reduceEqDiff, reduceIte, ↓reduceIte, Nat.reduceBEq]
  refine (find_r t n b D name hD hs).use ?_
  unfold findV
  generalize chkV D [name] = e at *
  generalize outC D (cutC D name m) = O at *
  generalize cutC D name m = C at *
  generalize cutV' D name m = D' at *
  have em : e = 0 ∨ ¬ e = 0 := Classical.em _
  rcases em with c | c
  · subst c
    rw [if_neg (by simp)] at hval ⊢
    cases hg : getF D name with
    | none =>
      rw [hg] at hval
      simp only [XX, CC, YY, Nat.reduceAdd, Nat.reduceSub, Nat.reduceLeDiff, Nat.reduceLT, Nat.reduceEqDiff, reduceIte, ↓reduceIte, Nat.reduceBEq, show ((62 : Int) == 0) = false from rfl, Bool.not_false]
      exact .inl (same _ 62 hval (by decide) rfl)
    | some f =>
      rw [hg] at hval
      simp only at hval
      obtain ⟨k, hk, hfn⟩ := getF_mem hg
      have hfd : FOk f.data f.safe := hO.files _ hk
      have l00 : ldA t none (.ptr f.fb 0) = some (.str f.data) := by rw [ld_own (hD.file _ hk).2]; rfl
      have em1 : m < 0 ∨ ¬ m < 0 := Classical.em _
      rcases em1 with c1 | c1
      · rw [if_pos (.inl c1)] at hval
        simp only [XX, CC, YY, Nat.reduceAdd, Nat.reduceSub, Nat.reduceLeDiff, Nat.reduceLT, Nat.reduceEqDiff, reduceIte, ↓reduceIte, Nat.reduceBEq, show ((0 : Int) == 0) = true from rfl, Bool.not_true, dec_t c1, gv_ft, gv_u]
        exact .inl (same _ 1 hval (by decide) rfl)
      have em2 : m > (f.data.size : Int) ∨ ¬ m > (f.data.size : Int) := Classical.em _
      rcases em2 with c2 | c2
      · rw [if_pos (.inr c2)] at hval
        simp only [XX, CC, YY, Nat.reduceAdd, Nat.reduceSub, Nat.reduceLeDiff, Nat.reduceLT, Nat.reduceEqDiff, reduceIte, ↓reduceIte, Nat.reduceBEq, show ((0 : Int) == 0) = true from rfl, Bool.not_true, dec_f c1, gv_ff, l00, dec_t c2]
        exact .inl (same _ 1 hval (by decide) rfl)
      rw [if_neg (by omega)] at hval
      simp only [XX, CC, YY, Nat.reduceAdd, Nat.reduceSub, Nat.reduceLeDiff, Nat.reduceLT, Nat.reduceEqDiff, reduceIte, ↓reduceIte, Nat.reduceBEq, show ((0 : Int) == 0) = true from rfl, Bool.not_true, dec_f c1, gv_ff, l00, dec_f c2]
      refine Run.mono _ _ _ _ _ ?_ (spend_g t n b D hD hO)
      rintro v t' ⟨rfl, hst⟩
      rcases spendC_val D with ⟨h1, h2⟩ | ⟨h1, h2⟩
      · rw [h2] at hst
        rw [h1]
        have hgs : getF (spendD D) name = some f := by rw [getF_spend]; exact hg
        have hfat := (hst.at_.file (f, k) hk).2
        have l0 : ldA t' none (.ptr f.fb 0) = some (.str f.data) := by rw [ld_own hfat]; rfl
        have hsl : slsA (.str f.data) none (some (.int .i64 m)) = some (.str (f.data.extract 0 m.toNat)) := by
          simp only [slsA, boundA]
          rw [if_pos (by omega)]
        have hsto : stA t' none (.ptr f.fb 0) (.str (f.data.extract 0 m.toNat)) = some (t'.set f.fb (.cells true (cF { f with data := f.data.extract 0 m.toNat }))) := by
          rw [st_one (by rfl), wr_own hfat, if_pos ⟨by simp [cF], by rfl⟩]; rfl
        have hkey : (t'.set f.fb (.cells true (cF { f with data := f.data.extract 0 m.toNat })))[f.fb]? = some (.cells true (cF { f with data := f.data.extract 0 m.toNat })) := key_set (List.getElem?_eq_some_iff.1 hfat).1
        have hsto2 : wrA (t'.set f.fb (.cells true (cF { f with data := f.data.extract 0 m.toNat }))) f.fb 1 [AV.int .i64 m] = some (t'.set f.fb (.cells true (cF { f with data := f.data.extract 0 m.toNat, safe := m }))) := by
          rw [wr_own hkey, if_pos ⟨by simp [cF], by rfl⟩, List.set_set]; rfl
        have hsz := extract_size (d := f.data) (n := m) (by omega) (by omega)
        have hD2 := DStep.setF hst.at_ hst.ok hgs (fun x => { x with data := x.data.extract 0 m.toNat, safe := m }) (fun _ => rfl) (fun _ => rfl) (by unfold FOk at hfd ⊢; simp only; omega)
        simp only [XX, CC, YY, Nat.reduceAdd, Nat.reduceSub, Nat.reduceLeDiff, Nat.reduceLT, Nat.reduceEqDiff, reduceIte, ↓reduceIte, Nat.reduceBEq, show ((0 : Int) == 0) = true from rfl, Bool.not_true, l0, hsl, hsto, hsto2]
        refine .inl ⟨by rw [hvC hval, h1], ?_⟩
        rw [hvD hval, h1, if_neg (by simp), h2]
        exact hst.trans hD2
      · rw [h1]
        simp only [XX, CC, YY, Nat.reduceAdd, Nat.reduceSub, Nat.reduceLeDiff, Nat.reduceLT, Nat.reduceEqDiff, reduceIte, ↓reduceIte, Nat.reduceBEq, show ((60 : Int) == 0) = false from rfl, Bool.not_false]
        refine .inl ⟨by rw [hvC hval, h1], ?_⟩
        rw [hvD hval, h1, if_pos (by decide)]
        exact hst
  · have c' : (e == 0) = false := by simp [c]
    rw [if_pos c] at hval ⊢
    simp only [XX, CC, YY, Nat.reduceAdd, Nat.reduceSub, Nat.reduceLeDiff, Nat.reduceLT, Nat.reduceEqDiff, reduceIte, ↓reduceIte, Nat.reduceBEq, c', Bool.not_false]
    exact .inl (same _ e hval c rfl)

def offV (D : Dsk) (keep : Int) : Dsk := if D.down then D else loseD D keep
theorem off_g (t : St) (n b : Nat) (D : Dsk) (keep : Int) (hD : DAt t n b D) (hO : DOk D) : Run T f_files_Disk_Off [.ptr b 0, .int .i64 keep] t fun v t' => v = .tup [] ∧ DStep n b D (offV D keep) t t' := by
  refine run_body (F := r_files_Disk_Off) (has rfl) (by simp [r_files_Disk_Off]) ?_
  have hd := hD.ld.2.1
  unfold offV
  cases c : D.down with
  | true =>
    rw [c] at hd
    simp only [r_files_Disk_Off, XX, CC, YY, Nat.reduceAdd, Nat.reduceSub, Nat.reduceLeDiff, Nat.reduceLT, Nat.reduceEqDiff, reduceIte, ↓reduceIte, Nat.reduceBEq, eqp_f, Bool.not_false, gv_tt, hd, Bool.not_true]
    exact .inl ⟨rfl, .refl hD hO⟩
  | false =>
    rw [c] at hd
    simp only [r_files_Disk_Off, XX, CC, YY, Nat.reduceAdd, Nat.reduceSub, Nat.reduceLeDiff, Nat.reduceLT, Nat.reduceEqDiff, reduceIte, ↓reduceIte, Nat.reduceBEq, eqp_f, Bool.not_false, gv_tt, hd]
    refine (lose_r t n b D keep hD hO).use ?_
    (try simp only [XX, CC, YY, Nat.reduceAdd, Nat.reduceSub, Nat.reduceLeDiff, Nat.reduceLT, Nat.reduceEqDiff, reduceIte, ↓reduceIte, Nat.reduceBEq])
    exact .inl ⟨rfl, lose_step hD hO keep⟩
theorem on_g (t : St) (n b : Nat) (D : Dsk) (hD : DAt t n b D) (hO : DOk D) : Run T f_files_Disk_On [.ptr b 0] t fun v t' => v = .tup [] ∧ DStep n b D (onD D) t t' :=
  (on_r t n b D hD).use ⟨rfl, DStep.setD hD hO rfl rfl rfl⟩
theorem armD_same (D : Dsk) (k keep : Int) : (armD D k keep).mb = D.mb ∧ (armD D k keep).clock = D.clock ∧ (armD D k keep).fs = D.fs := by
  unfold armD; split <;> exact ⟨rfl, rfl, rfl⟩
theorem arm_g (t : St) (n b : Nat) (D : Dsk) (k keep : Int) (hD : DAt t n b D) (hO : DOk D) : Run T f_files_Disk_Arm [.ptr b 0, .int .i64 k, .int .i64 keep] t fun v t' => v = .tup [] ∧ DStep n b D (armD D k keep) t t' := by
  refine Run.mono _ _ _ _ _ ?_ (arm_r t n b D k keep hD)
  rintro v t' ⟨rfl, rfl⟩
  obtain ⟨h1, h2, h3⟩ := armD_same D k keep
  exact ⟨rfl, DStep.setD hD hO h1 h2 h3⟩

/-- The blocks of a disk are as they were. -/
theorem lose_fbs (D : Dsk) (keep : Int) : (loseD D keep).fs.map (·.1.fb) = D.fs.map (·.1.fb) := by
  show (D.fs.map fun f => (loseF keep f.1, f.2)).map (·.1.fb) = _
  rw [List.map_map]; rfl
theorem spend_fbs (D : Dsk) : (spendV D).mb = D.mb ∧ (spendV D).fs.map (·.1.fb) = D.fs.map (·.1.fb) := by
  unfold spendV; split
  · exact ⟨rfl, lose_fbs D D.keep⟩
  · exact ⟨rfl, rfl⟩
theorem cut_foot (D : Dsk) (name : ByteArray) (m : Int) (b i : Nat) : DFoot b (cutV' D name m) i ↔ DFoot b D i := by
  obtain ⟨h1, h2⟩ := spend_fbs D
  refine DFoot.same (D := D) ?_ ?_ i
  · unfold cutV'; split
    · rfl
    · split
      · exact h1
      · exact h1
  · unfold cutV'; split
    · rfl
    · split
      · exact h2
      · exact (setF_fbs (spendV D) name (fun x => { x with data := x.data.extract 0 m.toNat, safe := m }) fun _ => rfl).trans h2
end Go.Ev

/-! The disk: Names. -/
namespace Go.Ev
set_option linter.unusedVariables false
set_option linter.unusedSimpArgs false
open Go.Ev.So Go.Proofs

theorem keys_r {T : Nat → Option RF} [Has T] (t : St) (mb : Nat) : RunD T f_maps_Keys_file [.map mb] t (.fn 49 [.ptr t.length 0]) (t ++ [.cells true [.map mb]]) := by
  refine run_body (F := r_maps_Keys_file) (has rfl) (by simp [r_maps_Keys_file]) ?_
  simp only [r_maps_Keys_file, XX, CC, YY, Nat.reduceAdd, Nat.reduceSub, Nat.reduceLeDiff, Nat.reduceLT, Nat.reduceEqDiff, reduceIte, ↓reduceIte, Nat.reduceBEq]
  exact .inl ⟨rfl, rfl⟩
theorem keys_names : ∀ fs : List (Fil × Nat), keysOf (fs.map entF) = fs.map (·.1.name)
  | [] => rfl
  | f :: fs => by
    show f.1.name :: keysOf (fs.map entF) = _
    rw [keys_names fs]; rfl
theorem namesnil_r (t : St) : RunD T f_files_Disk_Names [.nilp] t .nils t := by
  refine run_body (F := r_files_Disk_Names) (has rfl) (by simp [r_files_Disk_Names]) ?_
  simp only [r_files_Disk_Names, XX, CC, YY, Nat.reduceAdd, Nat.reduceSub, Nat.reduceLeDiff, Nat.reduceLT, Nat.reduceEqDiff, reduceIte, ↓reduceIte, Nat.reduceBEq, eqp_t]
  exact .inl ⟨rfl, rfl⟩
theorem names_r (t : St) (n b : Nat) (D : Dsk) (hD : DAt t n b D) (hO : DOk D) (hs : ∀ f ∈ D.fs, f.1.name.size ≤ 32) (l : List ByteArray) (hp : l.Perm (D.fs.map (·.1.name))) (hr : Ris l) (v : AV) (t' : St) (hm : Made t l v t') :
    RunD T f_files_Disk_Names [.ptr b 0] t v t' := by
  have hk : KeyA (t ++ [.cells true [.map D.mb]]) t.length D.mb (D.fs.map entF) D.clock := by
    refine ⟨get_last, ?_, ?_, ?_, ?_, ?_, ?_⟩
    · rw [List.getElem?_append_left (List.getElem?_eq_some_iff.1 hD.map).1]; exact hD.map
    · intro e he
      obtain ⟨f, hf, rfl⟩ := List.mem_map.1 he
      exact ⟨f.1.name, rfl, hs f hf⟩
    · intro e he
      obtain ⟨f, hf, rfl⟩ := List.mem_map.1 he
      exact ⟨f.1.fb, rfl⟩
    · rw [List.map_map]; exact hO.stamps
    · intro e he
      obtain ⟨f, hf, rfl⟩ := List.mem_map.1 he
      exact hO.clock f hf
    · rw [List.length_map]; have := hO.few; omega
  refine run_body (F := r_files_Disk_Names) (has rfl) (by simp [r_files_Disk_Names]) ?_
  have l0 := hD.ld.1
  simp only [r_files_Disk_Names, XX, CC, YY, Nat.reduceAdd, Nat.reduceSub, Nat.reduceLeDiff, Nat.reduceLT, Nat.reduceEqDiff, reduceIte, ↓reduceIte, Nat.reduceBEq, eqp_f, l0]
  refine (keys_r _ _).use ?_
  try simp only [XX, CC, YY, Nat.reduceAdd, Nat.reduceSub, Nat.reduceLeDiff, Nat.reduceLT, Nat.reduceEqDiff, reduceIte, ↓reduceIte, Nat.reduceBEq]
  rcases hm with ⟨rfl, rfl, rfl⟩ | ⟨hne, rfl, rfl⟩
  · refine (sorted_r _ _ _ _ _ [] _ _ hk (by rw [keys_names]; exact hp) hr (.inl ⟨rfl, rfl, rfl⟩)).use ?_
    try simp only [XX, CC, YY, Nat.reduceAdd, Nat.reduceSub, Nat.reduceLeDiff, Nat.reduceLT, Nat.reduceEqDiff, reduceIte, ↓reduceIte, Nat.reduceBEq]
    exact ret_drop ⟨_, rfl⟩ rfl ⟨rfl, rfl⟩
  · refine (sorted_r _ _ _ _ _ l _ _ hk (by rw [keys_names]; exact hp) hr (.inr ⟨hne, rfl, rfl⟩)).use ?_
    simp only [XX, CC, YY, Nat.reduceAdd, Nat.reduceSub, Nat.reduceLeDiff, Nat.reduceLT, Nat.reduceEqDiff, reduceIte, ↓reduceIte, Nat.reduceBEq]
    refine ret_one (r := .sl t.length 0 1 l.length none) (j := t.length + 1) ⟨_, rfl⟩ (by omega) (by simp) ?_ (by simp [AV.under]) (unders_flat cS_un _) ⟨rfl, rfl⟩
    simp [AV.ren]
end Go.Ev

/-! The disk: Delete. -/
namespace Go.Ev
set_option linter.unusedVariables false
set_option linter.unusedSimpArgs false
open Go.Ev.So Go.Proofs

/-- a file dropped -/
def dropF (D : Dsk) (name : ByteArray) : Dsk := { D with fs := D.fs.filter fun f => !decide (name = f.1.name) }
theorem erase_filter {name : ByteArray} : ∀ {fs : List (Fil × Nat)} {i : Nat} {f : Fil × Nat}, (fs.map (·.1.name)).Nodup → fs[i]? = some f → f.1.name = name → fs.eraseIdx i = fs.filter fun f => !decide (name = f.1.name)
  | [], i, f, _, h, _ => by simp at h
  | x :: fs, 0, f, hn, h, he => by
    cases h
    rw [List.map_cons, List.nodup_cons] at hn
    rw [List.eraseIdx_cons_zero, List.filter_cons, if_neg (by simp [he])]
    symm
    rw [List.filter_eq_self]
    intro y hy
    simp only [Bool.not_eq_true', decide_eq_false_iff_not]
    intro e
    exact hn.1 (by rw [he, e]; exact List.mem_map_of_mem hy)
  | x :: fs, i + 1, f, hn, h, he => by
    rw [List.map_cons, List.nodup_cons] at hn
    have h' : fs[i]? = some f := h
    rw [List.eraseIdx_cons_succ, List.filter_cons, if_pos, erase_filter hn.2 h' he]
    simp only [Bool.not_eq_true', decide_eq_false_iff_not]
    intro e
    exact hn.1 (by rw [← e, ← he]; exact List.mem_map_of_mem (List.mem_of_getElem? h'))
theorem map_erase {α β : Type} (g : α → β) : ∀ (l : List α) (i : Nat), (l.map g).eraseIdx i = (l.eraseIdx i).map g
  | [], i => by simp
  | x :: l, 0 => rfl
  | x :: l, i + 1 => by rw [List.map_cons, List.eraseIdx_cons_succ, List.eraseIdx_cons_succ, List.map_cons, map_erase g l i]
section
variable {t : St} {n b : Nat} {D : Dsk}
theorem dropF_mem {name : ByteArray} {f : Fil × Nat} (h : f ∈ (dropF D name).fs) : f ∈ D.fs := (List.mem_filter.1 h).1
theorem dropF_sub (name : ByteArray) : (dropF D name).fs.Sublist D.fs := List.filter_sublist
theorem dropF_ok (ho : DOk D) (name : ByteArray) : DOk (dropF D name) :=
  ⟨fun f hf => ho.files f (dropF_mem hf), Nat.le_trans (dropF_sub name).length_le ho.few, fun f hf => ho.clock f (dropF_mem hf), ho.stamps.sublist ((dropF_sub name).map _)⟩
theorem DStep.drop (h : DAt t n b D) (ho : DOk D) (name : ByteArray) : DStep n b D (dropF D name) t (t.set D.mb (.map ((dropF D name).fs.map entF) D.clock)) := by
  have ha := h.apart
  simp only [List.nodup_cons, List.mem_cons, not_or, List.mem_map, not_exists, not_and] at ha
  have hml := (List.getElem?_eq_some_iff.1 h.map).1
  refine ⟨⟨h.low, ?_, h.mlow, key_set hml, fun f hf => ⟨(h.file f (dropF_mem hf)).1, ?_⟩, ?_, h.names.sublist ((dropF_sub name).map _)⟩, dropF_ok ho name, by simp, fun i hi hn => ?_, fun i hi => ?_⟩
  · rw [List.getElem?_set_ne (fun e => ha.1.1 e.symm)]; exact h.cells
  · rw [List.getElem?_set_ne (fun e => ha.2.1 f (dropF_mem hf) e.symm)]; exact (h.file f (dropF_mem hf)).2
  · exact h.apart.sublist ((((dropF_sub name).map _).cons_cons _).cons_cons _)
  · exact List.getElem?_set_ne (fun e => hn (.inr (.inl e.symm)))
  · rcases hi with rfl | rfl | ⟨f, hf, rfl⟩
    · exact .inl (.inl rfl)
    · exact .inl (.inr (.inl rfl))
    · exact .inl (.inr (.inr ⟨f, dropF_mem hf, rfl⟩))
theorem del_at (h : DAt t n b D) {name : ByteArray} {f : Fil} (hg : getF D name = some f) : xtA t (.del .s) [.map D.mb, .str name] = some (.tup [], t.set D.mb (.map ((dropF D name).fs.map entF) D.clock)) := by
  obtain ⟨r, h1, h2⟩ := find_ent name D.fs
  have hm : mapB t D.mb = some (D.fs.map entF, D.clock) := by unfold mapB; rw [h.map]
  show delA t .s (.map D.mb) (.str name) = _
  unfold delA
  simp only [hm, h1]
  unfold getF at hg
  cases r with
  | none => simp only at h2; rw [h2] at hg; cases hg
  | some x =>
    obtain ⟨i, v⟩ := x
    obtain ⟨fk, a1, a2, a3⟩ := h2
    have hn : fk.1.name = name := by have := List.find?_some a1; simp at this; exact this.symm
    simp only
    rw [map_erase, erase_filter h.names a2 hn]; rfl
end
def delC (D : Dsk) (name : ByteArray) : Int := if chkV D [name] ≠ 0 then chkV D [name] else match getF D name with
  | some _ => 0
  | none => 62
def delV (D : Dsk) (name : ByteArray) : Dsk := if delC D name ≠ 0 then D else if spendC D ≠ 0 then spendV D else dropF (spendV D) name
set_option maxHeartbeats 2000000 in
theorem ddel_g (t : St) (n b : Nat) (D : Dsk) (name : ByteArray) (hD : DAt t n b D) (hO : DOk D) (hs : name.size < 140737488355328) :
    Run T f_files_Disk_Delete [.ptr b 0, .str name] t fun v t' => v = .int .i64 (outC D (delC D name)) ∧ DStep n b D (delV D name) t t' := by
  refine run_body (F := r_files_Disk_Delete) (has rfl) (by simp [r_files_Disk_Delete]) ?_
  have same : ∀ (v : AV) (c : Int), delC D name = c → c ≠ 0 → v = .int .i64 c → (v = .int .i64 (outC D (delC D name)) ∧ DStep n b D (delV D name) t t) := by
    rintro v c h1 h2 rfl
    exact ⟨by unfold outC; rw [h1, if_pos h2], by unfold delV; rw [if_pos (by rw [h1]; exact h2)]; exact .refl hD hO⟩
  have hval : delC D name = if chkV D [name] ≠ 0 then chkV D [name] else match getF D name with
    | some _ => 0
    | none => 62 := rfl
  have hvD : delC D name = 0 → delV D name = if spendC D ≠ 0 then spendV D else dropF (spendV D) name := fun h => by unfold delV; rw [if_neg (by rw [h]; simp)]
  have hvC : delC D name = 0 → outC D (delC D name) = spendC D := fun h => by unfold outC; rw [if_neg (by rw [h]; simp)]
  simp only [r_files_Disk_Delete, XX, CC, YY, Nat.reduceAdd, Nat.reduceSub, Nat.reduceLeDiff, Nat.reduceLT, Nat.reduceEqDiff, reduceIte, ↓reduceIte, Nat.reduceBEq]
  refine (find_r t n b D name hD hs).use ?_
  unfold findV
  generalize chkV D [name] = e at *
  generalize outC D (delC D name) = O at *
  generalize delC D name = C at *
  generalize delV D name = D' at *
  have em : e = 0 ∨ ¬ e = 0 := Classical.em _
  rcases em with c | c
  · subst c
    rw [if_neg (by simp)] at hval ⊢
    cases hg : getF D name with
    | none =>
      rw [hg] at hval
      simp only [XX, CC, YY, Nat.reduceAdd, Nat.reduceSub, Nat.reduceLeDiff, Nat.reduceLT, Nat.reduceEqDiff, reduceIte, ↓reduceIte, Nat.reduceBEq, show ((62 : Int) == 0) = false from rfl, Bool.not_false]
      exact .inl (same _ 62 hval (by decide) rfl)
    | some f =>
      rw [hg] at hval
      simp only at hval
      simp only [XX, CC, YY, Nat.reduceAdd, Nat.reduceSub, Nat.reduceLeDiff, Nat.reduceLT, Nat.reduceEqDiff, reduceIte, ↓reduceIte, Nat.reduceBEq, show ((0 : Int) == 0) = true from rfl, Bool.not_true]
      refine Run.mono _ _ _ _ _ ?_ (spend_g t n b D hD hO)
      rintro v t' ⟨rfl, hst⟩
      rcases spendC_val D with ⟨h1, h2⟩ | ⟨h1, h2⟩
      · rw [h2] at hst
        rw [h1]
        have hgs : getF (spendD D) name = some f := by rw [getF_spend]; exact hg
        have l0 := hst.at_.ld.1
        have hdel := del_at hst.at_ hgs
        simp only [XX, CC, YY, Nat.reduceAdd, Nat.reduceSub, Nat.reduceLeDiff, Nat.reduceLT, Nat.reduceEqDiff, reduceIte, ↓reduceIte, Nat.reduceBEq, show ((0 : Int) == 0) = true from rfl, Bool.not_true, l0, hdel]
        refine .inl ⟨by rw [hvC hval, h1], ?_⟩
        rw [hvD hval, h1, if_neg (by simp), h2]
        exact hst.trans (DStep.drop hst.at_ hst.ok name)
      · rw [h1]
        simp only [XX, CC, YY, Nat.reduceAdd, Nat.reduceSub, Nat.reduceLeDiff, Nat.reduceLT, Nat.reduceEqDiff, reduceIte, ↓reduceIte, Nat.reduceBEq, show ((60 : Int) == 0) = false from rfl, Bool.not_false]
        refine .inl ⟨by rw [hvC hval, h1], ?_⟩
        rw [hvD hval, h1, if_pos (by decide)]
        exact hst
  · have c' : (e == 0) = false := by simp [c]
    rw [if_pos c] at hval ⊢
    simp only [XX, CC, YY, Nat.reduceAdd, Nat.reduceSub, Nat.reduceLeDiff, Nat.reduceLT, Nat.reduceEqDiff, reduceIte, ↓reduceIte, Nat.reduceBEq, c', Bool.not_false]
    exact .inl (same _ e hval c rfl)
end Go.Ev

/-! The disk: Safe, and a file moved. -/
namespace Go.Ev
set_option linter.unusedVariables false
set_option linter.unusedSimpArgs false
open Go.Ev.So Go.Proofs

def safeV (D : Dsk) (name : ByteArray) : Int := match getF D name with
  | some f => f.safe
  | none => 0
theorem safenil_r (t : St) (v : AV) : RunD T f_files_Disk_Safe [.nilp, v] t (.int .i64 0) t := by
  refine run_body (F := r_files_Disk_Safe) (has rfl) (by simp [r_files_Disk_Safe]) ?_
  simp only [r_files_Disk_Safe, XX, CC, YY, Nat.reduceAdd, Nat.reduceSub, Nat.reduceLeDiff, Nat.reduceLT, Nat.reduceEqDiff, reduceIte, ↓reduceIte, Nat.reduceBEq, eqp_t, gv_tf, gv_ft, gv_ff, gv_u]
  exact .inl ⟨rfl, rfl⟩
theorem safe_r (t : St) (n b : Nat) (D : Dsk) (name : ByteArray) (hD : DAt t n b D) : RunD T f_files_Disk_Safe [.ptr b 0, .str name] t (.int .i64 (safeV D name)) t := by
  refine run_body (F := r_files_Disk_Safe) (has rfl) (by simp [r_files_Disk_Safe]) ?_
  have l0 := hD.ld.1
  have hl := look_r hD name
  unfold safeV
  cases hg : getF D name with
  | none =>
    rw [hg] at hl
    simp only [ptrF] at hl
    simp only [r_files_Disk_Safe, XX, CC, YY, Nat.reduceAdd, Nat.reduceSub, Nat.reduceLeDiff, Nat.reduceLT, Nat.reduceEqDiff, reduceIte, ↓reduceIte, Nat.reduceBEq, eqp_f, gv_tf, gv_ft, gv_ff, gv_u, l0, hl, eqp_t]
    exact .inl ⟨rfl, rfl⟩
  | some f =>
    rw [hg] at hl
    simp only [ptrF] at hl
    obtain ⟨k, hk, _⟩ := getF_mem hg
    have l1 : ldA t none (.ptr f.fb 1) = some (.int .i64 f.safe) := by rw [ld_own (hD.file _ hk).2]; rfl
    simp only [r_files_Disk_Safe, XX, CC, YY, Nat.reduceAdd, Nat.reduceSub, Nat.reduceLeDiff, Nat.reduceLT, Nat.reduceEqDiff, reduceIte, ↓reduceIte, Nat.reduceBEq, eqp_f, gv_tf, gv_ft, gv_ff, gv_u, l0, hl, l1]
    exact .inl ⟨rfl, rfl⟩
end Go.Ev

/-! The disk: a file given a name. -/
namespace Go.Ev
set_option linter.unusedVariables false
set_option linter.unusedSimpArgs false
open Go.Ev.So Go.Proofs

/-- A file given the name. -/
def moveF (D : Dsk) (name : ByteArray) (f : Fil) : Dsk := match getF D name with
  | some _ => setF D name fun _ => { f with name := name }
  | none => { D with clock := D.clock + 1, fs := D.fs ++ [({ f with name := name }, D.clock)] }
section
variable {t : St} {n b : Nat} {D : Dsk}
theorem mup_other (h : DAt t n b D) {name : ByteArray} {g : Fil} (hg : getF D name = some g) (f : Fil) :
    xtA t (.mup .s) [.map D.mb, .str name, .ptr f.fb 0] = some (.undef, t.set D.mb (.map ((moveF D name f).fs.map entF) (moveF D name f).clock)) := by
  obtain ⟨r, h1, h2⟩ := find_ent name D.fs
  have hm : mapB t D.mb = some (D.fs.map entF, D.clock) := by unfold mapB; rw [h.map]
  show mupA t .s (.map D.mb) (.str name) (.ptr f.fb 0) = _
  unfold mupA moveF
  rw [hg]
  simp only [hm, h1]
  unfold getF at hg
  cases r with
  | none => simp only at h2; rw [h2] at hg; cases hg
  | some x =>
    obtain ⟨i, v⟩ := x
    obtain ⟨fk, a1, a2, a3⟩ := h2
    have hn : fk.1.name = name := by have := List.find?_some a1; simp at this; exact this.symm
    simp only
    have e : putM (D.fs.map entF) i (.str name) (.ptr f.fb 0) = (setF D name fun _ => { f with name := name }).fs.map entF := by
      unfold putM
      rw [List.getElem?_map, a2]
      show (D.fs.map entF).set i (.str name, .ptr f.fb 0, fk.2) = (D.fs.map (updF name _)).map entF
      apply List.ext_getElem?
      intro j
      rw [List.getElem?_set, List.getElem?_map, List.getElem?_map, List.getElem?_map]
      by_cases c : i = j
      · subst c
        rw [if_pos rfl, if_pos (by rw [List.length_map]; exact (List.getElem?_eq_some_iff.1 a2).1), a2]
        show _ = some (entF (updF name _ fk))
        unfold updF
        rw [if_pos hn.symm]; rfl
      · rw [if_neg c]
        cases hj : D.fs[j]? with
        | none => rfl
        | some y =>
          show some (entF y) = some (entF (updF name _ y))
          unfold updF
          rw [if_neg]
          intro e
          have hnd := h.names
          unfold List.Nodup at hnd
          rw [List.pairwise_map, List.pairwise_iff_getElem] at hnd
          obtain ⟨hi, ei⟩ := List.getElem?_eq_some_iff.1 a2
          obtain ⟨hj', ej⟩ := List.getElem?_eq_some_iff.1 hj
          rcases Nat.lt_or_gt_of_ne c with d | d
          · exact hnd i j hi hj' d (by rw [ei, ej, hn, e])
          · exact hnd j i hj' hi d (by rw [ei, ej, hn, e])
    rw [e]; rfl
theorem mup_any (h : DAt t n b D) (name : ByteArray) (f : Fil) :
    xtA t (.mup .s) [.map D.mb, .str name, .ptr f.fb 0] = some (.undef, t.set D.mb (.map ((moveF D name f).fs.map entF) (moveF D name f).clock)) := by
  cases hg : getF D name with
  | some g => exact mup_other h hg f
  | none =>
    rw [mup_new h hg]
    unfold moveF
    rw [hg]
    simp only [List.map_append, List.map_cons, List.map_nil]
    rfl
theorem moveF_mb (name : ByteArray) (f : Fil) : (moveF D name f).mb = D.mb := by unfold moveF; split <;> rfl
theorem moveF_mem {name : ByteArray} {f : Fil} {x : Fil × Nat} (hx : x ∈ (moveF D name f).fs) : (x ∈ D.fs ∧ x.1.name ≠ name) ∨ x.1 = { f with name := name } := by
  unfold moveF at hx
  split at hx
  · obtain ⟨y, hy, rfl⟩ := List.mem_map.1 hx
    unfold updF
    split
    · exact .inr rfl
    · rename_i c; exact .inl ⟨hy, fun e => c e.symm⟩
  · rename_i hg
    rcases List.mem_append.1 hx with k | k
    · exact .inl ⟨k, getF_none hg x k⟩
    · simp only [List.mem_singleton] at k; subst k; exact .inr rfl
theorem moveF_names (hn : (D.fs.map (·.1.name)).Nodup) (name : ByteArray) (f : Fil) : ((moveF D name f).fs.map (·.1.name)).Nodup := by
  unfold moveF
  split
  · show ((D.fs.map (updF name _)).map (·.1.name)).Nodup
    rw [List.map_map, List.map_congr_left (g := (·.1.name)) fun y _ => by
      simp only [Function.comp]; unfold updF; split
      · rename_i c; exact c
      · rfl]
    exact hn
  · rename_i hg
    show ((D.fs ++ [(({ f with name := name } : Fil), D.clock)]).map (·.1.name)).Nodup
    rw [List.map_append, List.nodup_append]
    refine ⟨hn, by simp, ?_⟩
    intro i hi j hj
    simp only [List.map_cons, List.map_nil, List.mem_singleton] at hj
    subst hj
    obtain ⟨x, hx, rfl⟩ := List.mem_map.1 hi
    exact getF_none hg x hx
theorem moveF_fbs (hn : (D.fs.map (·.1.name)).Nodup) (hf : (D.fs.map (·.1.fb)).Nodup) (name : ByteArray) (f : Fil) (hfb : ∀ x ∈ D.fs, x.1.fb ≠ f.fb) : ((moveF D name f).fs.map (·.1.fb)).Nodup := by
  unfold moveF
  split
  · show ((D.fs.map (updF name _)).map (·.1.fb)).Nodup
    unfold List.Nodup at *
    rw [List.pairwise_map, List.pairwise_map]
    rw [List.pairwise_map] at hn hf
    refine List.Pairwise.imp_of_mem ?_ (hn.and hf)
    rintro x y hx hy ⟨h1, h2⟩
    unfold updF
    split <;> split
    · rename_i c1 c2; exact absurd (c1.symm.trans c2) h1
    · exact fun e => hfb y hy e.symm
    · exact hfb x hx
    · exact h2
  · show ((D.fs ++ [(({ f with name := name } : Fil), D.clock)]).map (·.1.fb)).Nodup
    rw [List.map_append, List.nodup_append]
    refine ⟨hf, by simp, ?_⟩
    intro i hi j hj
    simp only [List.map_cons, List.map_nil, List.mem_singleton] at hj
    subst hj
    obtain ⟨x, hx, rfl⟩ := List.mem_map.1 hi
    exact hfb x hx
theorem moveF_ok (ho : DOk D) (name : ByteArray) (f : Fil) (hf : FOk f.data f.safe) (hl : D.fs.length < 16) : DOk (moveF D name f) := by
  refine ⟨fun x hx => ?_, ?_, ?_, ?_⟩
  · rcases moveF_mem hx with ⟨h, _⟩ | h
    · exact ho.files x h
    · rw [h]; exact hf
  · unfold moveF
    split
    · show (D.fs.map _).length ≤ 16
      rw [List.length_map]; omega
    · show (D.fs ++ _).length ≤ 16
      simp; omega
  · unfold moveF
    split
    · intro x hx
      obtain ⟨y, hy, rfl⟩ := List.mem_map.1 hx
      have : (updF name (fun _ => { f with name := name }) y).2 = y.2 := by unfold updF; split <;> rfl
      rw [this]; exact ho.clock y hy
    · intro x hx
      rcases List.mem_append.1 hx with k | k
      · have := ho.clock x k
        show x.2 < D.clock + 1
        omega
      · simp only [List.mem_singleton] at k; subst k
        show D.clock < D.clock + 1
        omega
  · unfold moveF
    split
    · show ((D.fs.map (updF name _)).map (·.2)).Nodup
      rw [List.map_map, List.map_congr_left (g := (·.2)) fun y _ => by simp only [Function.comp]; unfold updF; split <;> rfl]
      exact ho.stamps
    · show ((D.fs ++ [(({ f with name := name } : Fil), D.clock)]).map (·.2)).Nodup
      rw [List.map_append, List.nodup_append]
      refine ⟨ho.stamps, by simp, ?_⟩
      intro i hi j hj
      simp only [List.map_cons, List.map_nil, List.mem_singleton] at hj
      subst hj
      obtain ⟨x, hx, rfl⟩ := List.mem_map.1 hi
      have := ho.clock x hx
      omega
theorem moveF_at (h : DAt t n b D) (name : ByteArray) (f : Fil) (hb : n ≤ f.fb) (hc : t[f.fb]? = some (.cells true (cF f))) (h1 : f.fb ≠ b) (h2 : f.fb ≠ D.mb) (h3 : ∀ x ∈ D.fs, x.1.fb ≠ f.fb) :
    DAt (t.set D.mb (.map ((moveF D name f).fs.map entF) (moveF D name f).clock)) n b (moveF D name f) := by
  have ha := h.apart
  simp only [List.nodup_cons, List.mem_cons, not_or, List.mem_map, not_exists, not_and] at ha
  have hml := (List.getElem?_eq_some_iff.1 h.map).1
  refine ⟨h.low, ?_, by rw [moveF_mb]; exact h.mlow, by rw [moveF_mb]; exact key_set hml, fun x hx => ?_, ?_, moveF_names h.names name f⟩
  · rw [List.getElem?_set_ne (fun e => ha.1.1 e.symm), h.cells]
    unfold moveF; split <;> rfl
  · rcases moveF_mem hx with ⟨k, _⟩ | k
    · exact ⟨(h.file x k).1, by rw [List.getElem?_set_ne (fun e => ha.2.1 x k e.symm)]; exact (h.file x k).2⟩
    · rw [k]
      exact ⟨hb, by rw [List.getElem?_set_ne (fun e => h2 e.symm)]; exact hc⟩
  · rw [moveF_mb]
    simp only [List.nodup_cons, List.mem_cons, not_or, List.mem_map, not_exists, not_and]
    refine ⟨⟨ha.1.1, fun x hx => ?_⟩, fun x hx => ?_, moveF_fbs h.names ha.2.2 name f h3⟩
    · rcases moveF_mem hx with ⟨k, _⟩ | k
      · exact ha.1.2 x k
      · rw [k]; exact h1
    · rcases moveF_mem hx with ⟨k, _⟩ | k
      · exact ha.2.1 x k
      · rw [k]; exact h2
end
end Go.Ev

/-! The disk: Rename. -/
namespace Go.Ev
set_option linter.unusedVariables false
set_option linter.unusedSimpArgs false
open Go.Ev.So Go.Proofs

theorem chkV_head {D : Dsk} {a b : ByteArray} (h : chkV D [a, b] = 0) : chkV D [a] = 0 := by
  unfold chkV at *
  split at h
  · cases h
  · rename_i hd
    rw [if_neg hd]
    split at h
    · rename_i ha
      simp only [List.all_cons, Bool.and_eq_true] at ha
      rw [if_pos (by simp [ha.1])]
    · cases h
def renC (D : Dsk) (a b : ByteArray) : Int := if chkV D [a, b] ≠ 0 then chkV D [a, b] else match getF D a with
  | some _ => 0
  | none => 62
def renT (D : Dsk) (a b : ByteArray) : Dsk := match getF D a with
  | some f => moveF (dropF D a) b f
  | none => D
def renV (D : Dsk) (a b : ByteArray) : Dsk := if renC D a b ≠ 0 then D else if spendC D ≠ 0 then spendV D else renT (spendV D) a b
section
variable {t t' : St} {n b : Nat} {D D' : Dsk}
theorem DStep.of_ext {x : List Blk} (h : DAt t n b D) (k : DStep n b D D' (t ++ x) t') : DStep n b D D' t t' := by
  obtain ⟨h1, h2, h3, h4, h5⟩ := k
  rw [List.length_append] at h3
  refine ⟨h1, h2, by omega, fun i hi hn => ?_, fun i hi => ?_⟩
  · rw [h4 i (by rw [List.length_append]; omega) hn, List.getElem?_append_left hi]
  · rcases h5 i hi with k | k
    · exact .inl k
    · rw [List.length_append] at k; exact .inr (by omega)
theorem DStep.ren (h : DAt t n b D) (ho : DOk D) {a : ByteArray} (c : ByteArray) {f : Fil} (hg : getF D a = some f) :
    ∃ t1 t2, xtA t (.del .s) [.map D.mb, .str a] = some (.tup [], t1) ∧ ldA t1 none (.ptr b 0) = some (.map D.mb) ∧ xtA t1 (.mup .s) [.map D.mb, .str c, .ptr f.fb 0] = some (.undef, t2) ∧ DStep n b D (renT D a c) t t2 := by
  obtain ⟨k, hk, hfn⟩ := getF_mem hg
  have hs1 := DStep.drop h ho a
  have ha := h.apart
  simp only [List.nodup_cons, List.mem_cons, not_or, List.mem_map, not_exists, not_and] at ha
  refine ⟨_, _, del_at h hg, hs1.at_.ld.1, mup_any hs1.at_ c f, ?_⟩
  have hout : ∀ x ∈ (dropF D a).fs, x.1.fb ≠ f.fb := fun x hx e => by
    have := nodup_fb ha.2.2 (dropF_mem hx) hk e
    subst this
    have := (List.mem_filter.1 hx).2
    simp [hfn] at this
  have hlt : (dropF D a).fs.length < 16 := by
    have h1 : (dropF D a).fs.length < D.fs.length := by
      unfold dropF
      refine Nat.lt_of_le_of_ne (List.length_filter_le _ _) fun e => ?_
      have := List.length_filter_eq_length_iff.1 e _ hk
      simp [hfn] at this
    have := ho.few
    omega
  have hfa := (h.file _ hk).2
  have hmf : D.mb ≠ f.fb := fun e => ha.2.1 _ hk e.symm
  have h2 := moveF_at hs1.at_ c f (h.file _ hk).1 (by rw [List.getElem?_set_ne hmf]; exact hfa) (ha.1.2 _ hk) (ha.2.1 _ hk) hout
  have hml := (List.getElem?_eq_some_iff.1 h.map).1
  unfold renT
  rw [hg]
  refine ⟨h2, moveF_ok hs1.ok c f (ho.files _ hk) hlt, by simp, fun i hi hn => ?_, fun i hi => ?_⟩
  · have hne : D.mb ≠ i := fun e => hn (.inr (.inl e.symm))
    show ((t.set D.mb _).set D.mb _)[i]? = _
    rw [List.getElem?_set_ne hne, List.getElem?_set_ne hne]
  · rcases hi with rfl | rfl | ⟨x, hx, rfl⟩
    · exact .inl (.inl rfl)
    · exact .inl (.inr (.inl (moveF_mb c f)))
    · rcases moveF_mem hx with ⟨q, _⟩ | q
      · exact .inl (.inr (.inr ⟨x, dropF_mem q, rfl⟩))
      · exact .inl (.inr (.inr ⟨_, hk, by rw [q]⟩))
end
set_option maxHeartbeats 2000000 in
theorem dren_g (t : St) (n b : Nat) (D : Dsk) (a c : ByteArray) (hD : DAt t n b D) (hO : DOk D) (hs : a.size < 140737488355328) (hs2 : c.size < 140737488355328) :
    Run T f_files_Disk_Rename [.ptr b 0, .str a, .str c] t fun v t' => v = .int .i64 (outC D (renC D a c)) ∧ DStep n b D (renV D a c) t t' := by
  refine run_body (F := r_files_Disk_Rename) (has rfl) (by simp [r_files_Disk_Rename]) ?_
  have x1 : Ext t (t ++ [.cells true [.str a, .str c]]) := ⟨_, rfl⟩
  have hD1 := hD.ext x1
  have hc := check_r (T := T) (t ++ [.cells true [.str a, .str c]]) n b D (.sl t.length 0 1 2 (some 2)) [a, c] hD1 (rd_lit (l := [a, c]) (by simp [cS]) cS_len rfl) (by simp) (by intro y hy; simp at hy; rcases hy with rfl | rfl; exact hs; exact hs2)
  have same : ∀ (v : AV) (e : Int), renC D a c = e → e ≠ 0 → v = .int .i64 e → (v = .int .i64 (outC D (renC D a c)) ∧ DStep n b D (renV D a c) t (t ++ [.cells true [.str a, .str c]])) := by
    rintro v e h1 h2 rfl
    exact ⟨by unfold outC; rw [h1, if_pos h2], by unfold renV; rw [if_pos (by rw [h1]; exact h2)]; exact DStep.of_ext hD (.refl hD1 hO)⟩
  have hval : renC D a c = if chkV D [a, c] ≠ 0 then chkV D [a, c] else match getF D a with
    | some _ => 0
    | none => 62 := rfl
  have hvD : renC D a c = 0 → renV D a c = if spendC D ≠ 0 then spendV D else renT (spendV D) a c := fun h => by unfold renV; rw [if_neg (by rw [h]; simp)]
  have hvC : renC D a c = 0 → outC D (renC D a c) = spendC D := fun h => by unfold outC; rw [if_neg (by rw [h]; simp)]
  have hhd : chkV D [a, c] = 0 → chkV D [a] = 0 := chkV_head
  have hf := find_r (T := T) _ n b D a hD1 hs
  unfold findV at hf
  simp only [r_files_Disk_Rename, XX, CC, YY, Nat.reduceAdd, Nat.reduceSub, Nat.reduceLeDiff, Nat.reduceLT, Nat.reduceEqDiff, reduceIte, ↓reduceIte, Nat.reduceBEq]
  refine hc.use ?_
  generalize chkV D [a, c] = e at *
  generalize outC D (renC D a c) = O at *
  generalize renC D a c = C at *
  generalize renV D a c = D' at *
  have em : e = 0 ∨ ¬ e = 0 := Classical.em _
  rcases em with c0 | c0
  · subst c0
    rw [if_neg (by simp)] at hval
    rw [hhd rfl, if_neg (by simp)] at hf
    simp only [XX, CC, YY, Nat.reduceAdd, Nat.reduceSub, Nat.reduceLeDiff, Nat.reduceLT, Nat.reduceEqDiff, reduceIte, ↓reduceIte, Nat.reduceBEq, show ((0 : Int) == 0) = true from rfl, Bool.not_true]
    refine hf.use ?_
    cases hg : getF D a with
    | none =>
      rw [hg] at hval
      simp only [XX, CC, YY, Nat.reduceAdd, Nat.reduceSub, Nat.reduceLeDiff, Nat.reduceLT, Nat.reduceEqDiff, reduceIte, ↓reduceIte, Nat.reduceBEq, show ((62 : Int) == 0) = false from rfl, Bool.not_false]
      exact .inl (same _ 62 hval (by decide) rfl)
    | some f =>
      rw [hg] at hval
      simp only at hval
      simp only [XX, CC, YY, Nat.reduceAdd, Nat.reduceSub, Nat.reduceLeDiff, Nat.reduceLT, Nat.reduceEqDiff, reduceIte, ↓reduceIte, Nat.reduceBEq, show ((0 : Int) == 0) = true from rfl, Bool.not_true]
      refine Run.mono _ _ _ _ _ ?_ (spend_g _ n b D hD1 hO)
      rintro v t' ⟨rfl, hst⟩
      rcases spendC_val D with ⟨h1, h2⟩ | ⟨h1, h2⟩
      · rw [h2] at hst
        rw [h1]
        have hgs : getF (spendD D) a = some f := by rw [getF_spend]; exact hg
        have l0 := hst.at_.ld.1
        obtain ⟨t1, t2, k1, k2, k3, k4⟩ := DStep.ren hst.at_ hst.ok c hgs
        simp only [XX, CC, YY, Nat.reduceAdd, Nat.reduceSub, Nat.reduceLeDiff, Nat.reduceLT, Nat.reduceEqDiff, reduceIte, ↓reduceIte, Nat.reduceBEq, show ((0 : Int) == 0) = true from rfl, Bool.not_true, l0, k1, k2, k3]
        refine .inl ⟨by rw [hvC hval, h1], ?_⟩
        rw [hvD hval, h1, if_neg (by simp), h2]
        exact DStep.of_ext hD (hst.trans k4)
      · rw [h1]
        simp only [XX, CC, YY, Nat.reduceAdd, Nat.reduceSub, Nat.reduceLeDiff, Nat.reduceLT, Nat.reduceEqDiff, reduceIte, ↓reduceIte, Nat.reduceBEq, show ((60 : Int) == 0) = false from rfl, Bool.not_false]
        refine .inl ⟨by rw [hvC hval, h1], ?_⟩
        rw [hvD hval, h1, if_pos (by decide)]
        exact DStep.of_ext hD hst
  · have c' : (e == 0) = false := by simp [c0]
    rw [if_pos c0] at hval
    simp only [XX, CC, YY, Nat.reduceAdd, Nat.reduceSub, Nat.reduceLeDiff, Nat.reduceLT, Nat.reduceEqDiff, reduceIte, ↓reduceIte, Nat.reduceBEq, c', Bool.not_false]
    exact .inl (same _ e hval c0 rfl)
end Go.Ev

/-! What a disk holds, as a list; what each operation makes of it. -/
namespace Go.Ev
set_option linter.unusedVariables false
set_option linter.unusedSimpArgs false
open Go.Ev.So Go.Proofs

/-- A file: its name, its bytes, how many are safe. -/
abbrev Tri := ByteArray × ByteArray × Int
def tri (f : Fil × Nat) : Tri := (f.1.name, f.1.data, f.1.safe)
def triF (f : Fil) : Tri := (f.name, f.data, f.safe)
/-- what a disk holds -/
def con (D : Dsk) : List Tri := D.fs.map tri
def getK (C : List Tri) (a : ByteArray) : Option Tri := C.find? fun f => decide (a = f.1)
theorem getK_con (D : Dsk) (a : ByteArray) : getK (con D) a = (getF D a).map triF := by
  unfold getK con getF
  rw [List.find?_map, Option.map_map]
  rfl
def chkK (dn : Bool) (ns : List ByteArray) : Int := if dn then 60 else if ns.all nameB then 0 else 61
def appK (dn : Bool) (C : List Tri) (a x : ByteArray) : Int := if chkK dn [a] ≠ 0 then chkK dn [a] else match getK C a with
  | some f => if (x.size : Int) > 1048576 - f.2.1.size then 63 else 0
  | none => if C.length ≥ 16 then 63 else if (x.size : Int) > 1048576 then 63 else 0
def hasK (dn : Bool) (C : List Tri) (ns : List ByteArray) (a : ByteArray) : Int := if chkK dn ns ≠ 0 then chkK dn ns else match getK C a with
  | some _ => 0
  | none => 62
def cutK (dn : Bool) (C : List Tri) (a : ByteArray) (m : Int) : Int := if chkK dn [a] ≠ 0 then chkK dn [a] else match getK C a with
  | some f => if m < 0 ∨ m > f.2.1.size then 1 else 0
  | none => 62
def updK (a : ByteArray) (g : Tri → Tri) (f : Tri) : Tri := if a = f.1 then g f else f
def appL (C : List Tri) (a x : ByteArray) : List Tri := match getK C a with
  | some _ => C.map (updK a fun f => (f.1, f.2.1 ++ x, f.2.2))
  | none => C ++ [(a, bts [] ++ x, 0)]
def loseK (keep : Int) (f : Tri) : Tri := (f.1, f.2.1.extract 0 (keptF keep f.2.1 f.2.2).toNat, keptF keep f.2.1 f.2.2)
def dropK (C : List Tri) (a : ByteArray) : List Tri := C.filter fun f => !decide (a = f.1)
def putL (C : List Tri) (c : ByteArray) (f : Tri) : List Tri := match getK C c with
  | some _ => C.map (updK c fun _ => (c, f.2.1, f.2.2))
  | none => C ++ [(c, f.2.1, f.2.2)]
def renL (C : List Tri) (a c : ByteArray) : List Tri := match getK C a with
  | some f => putL (dropK C a) c f
  | none => C
theorem con_len (D : Dsk) : (con D).length = D.fs.length := List.length_map ..
section
variable {D : Dsk}
theorem appK_con (a x : ByteArray) : appC D a x = appK D.down (con D) a x := by
  unfold appC appK
  rw [getK_con, con_len]
  cases getF D a <;> rfl
theorem syncK_con (a : ByteArray) : syncC D a = hasK D.down (con D) [a] a := by
  unfold syncC hasK
  rw [getK_con]
  cases getF D a <;> rfl
theorem delK_con (a : ByteArray) : delC D a = hasK D.down (con D) [a] a := by
  unfold delC hasK
  rw [getK_con]
  cases getF D a <;> rfl
theorem renK_con (a c : ByteArray) : renC D a c = hasK D.down (con D) [a, c] a := by
  unfold renC hasK
  rw [getK_con]
  cases getF D a <;> rfl
theorem cutK_con (a : ByteArray) (m : Int) : cutC D a m = cutK D.down (con D) a m := by
  unfold cutC cutK
  rw [getK_con]
  cases getF D a <;> rfl
theorem con_lose (keep : Int) : con (loseD D keep) = (con D).map (loseK keep) := by
  show (D.fs.map fun f => (loseF keep f.1, f.2)).map tri = (D.fs.map tri).map _
  rw [List.map_map, List.map_map]; rfl
theorem con_set (a : ByteArray) (g : Fil → Fil) (g' : Tri → Tri) (h : ∀ f, triF (g f) = g' (triF f)) : con (setF D a g) = (con D).map (updK a g') := by
  show (D.fs.map (updF a g)).map tri = (D.fs.map tri).map _
  rw [List.map_map, List.map_map]
  apply List.map_congr_left
  rintro ⟨f, k⟩ _
  simp only [Function.comp, updF, updK]
  by_cases c : a = f.name
  · rw [if_pos c, if_pos (show a = (tri (f, k)).1 from c)]; exact h f
  · rw [if_neg c, if_neg (show ¬ a = (tri (f, k)).1 from c)]
theorem con_app (a x : ByteArray) (fb : Nat) : con (appM D a x fb) = appL (con D) a x := by
  unfold appM appL
  rw [getK_con]
  cases getF D a with
  | some f => exact con_set a _ _ fun _ => rfl
  | none =>
    show (D.fs ++ [((⟨a, bts [] ++ x, 0, fb⟩ : Fil), D.clock)]).map tri = _
    rw [List.map_append]; rfl
theorem con_drop (a : ByteArray) : con (dropF D a) = dropK (con D) a := by
  show (D.fs.filter _).map tri = (D.fs.map tri).filter _
  rw [List.filter_map]; rfl
theorem con_move (c : ByteArray) (f : Fil) : con (moveF D c f) = putL (con D) c (triF f) := by
  unfold moveF putL
  rw [getK_con]
  cases getF D c with
  | some g => exact con_set c _ _ fun _ => rfl
  | none =>
    show (D.fs ++ [(({ f with name := c } : Fil), D.clock)]).map tri = _
    rw [List.map_append]; rfl
theorem con_ren (a c : ByteArray) : con (renT D a c) = renL (con D) a c := by
  unfold renT renL
  rw [getK_con]
  cases getF D a with
  | some f =>
    show con (moveF (dropF D a) c f) = putL (dropK (con D) a) c (triF f)
    rw [con_move, con_drop]
  | none => rfl
end

theorem kS_inj {a b : ByteArray} (ha : a.size ≤ 32) (hb : b.size ≤ 32) (h : kS a = kS b) : a = b := by
  have h1 : a.toList.length ≤ 32 := nm_len ⟨a, ha⟩
  have h2 : b.toList.length ≤ 32 := nm_len ⟨b, hb⟩
  have e := keyN_inj 32 _ _ h1 h2 h
  have e2 : a.data.toList = b.data.toList := by rw [ByteArray.toList_eq, ByteArray.toList_eq] at e; exact e
  cases a; cases b
  simp only at e2
  congr
  exact Array.ext' e2
/-! ### any operation -/
/-- An operation: 1 Append, 2 Sync, 3 Cut, 4 Rename, any other Delete. -/
def opC (D : Dsk) (k : Int) (a x : ByteArray) (m : Int) : Int := if k = 1 then appC D a x else if k = 2 then syncC D a else if k = 3 then cutC D a m else if k = 4 then renC D a x else delC D a
def opV (D : Dsk) (k : Int) (a x : ByteArray) (m : Int) (fb : Nat) : Dsk := if k = 1 then appV D a x fb else if k = 2 then syncV D a else if k = 3 then cutV' D a m else if k = 4 then renV D a x else delV D a
def opK (dn : Bool) (C : List Tri) (k : Int) (a x : ByteArray) (m : Int) : Int := if k = 1 then appK dn C a x else if k = 2 then hasK dn C [a] a else if k = 3 then cutK dn C a m else if k = 4 then hasK dn C [a, x] a else hasK dn C [a] a
def opL (C : List Tri) (k : Int) (a x : ByteArray) (m : Int) : List Tri := if k = 1 then appL C a x else if k = 2 then C.map (updK a fun f => (f.1, f.2.1, f.2.1.size)) else if k = 3 then C.map (updK a fun f => (f.1, f.2.1.extract 0 m.toNat, m)) else if k = 4 then renL C a x else dropK C a
/-- what lies there ahead of a loss of power at the operation -/
def preL (C : List Tri) (k : Int) (a x : ByteArray) : List Tri := if k = 1 then appL C a x else C
theorem opK_con (D : Dsk) (k : Int) (a x : ByteArray) (m : Int) : opC D k a x m = opK D.down (con D) k a x m := by
  unfold opC opK
  rw [appK_con, syncK_con, cutK_con, renK_con, delK_con]
/-- A disk told by what it holds and its fields. -/
structure Vw (D : Dsk) (dn ar : Bool) (left keep steps : Int) (C : List Tri) : Prop where
  down : D.down = dn
  armed : D.armed = ar
  left : D.left = left
  keep : D.keep = keep
  steps : D.steps = steps
  con : con D = C
theorem Vw.of (D : Dsk) : Vw D D.down D.armed D.left D.keep D.steps (Go.Ev.con D) := ⟨rfl, rfl, rfl, rfl, rfl, rfl⟩
theorem op_bad {D : Dsk} {k : Int} {a x : ByteArray} {m : Int} (h : opC D k a x m ≠ 0) (fb : Nat) : opV D k a x m fb = D ∧ outC D (opC D k a x m) = opC D k a x m := by
  refine ⟨?_, by unfold outC; rw [if_pos h]⟩
  unfold opC at h
  unfold opV
  split
  · rename_i c; rw [if_pos c] at h; unfold appV; rw [if_pos h]
  rename_i c; rw [if_neg c] at h
  split
  · rename_i c; rw [if_pos c] at h; unfold syncV; rw [if_pos h]
  rename_i c; rw [if_neg c] at h
  split
  · rename_i c; rw [if_pos c] at h; unfold cutV'; rw [if_pos h]
  rename_i c; rw [if_neg c] at h
  split
  · rename_i c; rw [if_pos c] at h; unfold renV; rw [if_pos h]
  rename_i c; rw [if_neg c] at h
  unfold delV; rw [if_pos h]
theorem spendC_now {D : Dsk} (h : ¬ gone D) : spendC D = 0 ∧ spendV D = spendD D := ⟨by unfold spendC; rw [if_neg h], by unfold spendV; rw [if_neg h]⟩
theorem spendC_gone {D : Dsk} (h : gone D) : spendC D = 60 ∧ spendV D = loseD D D.keep := ⟨by unfold spendC; rw [if_pos h], by unfold spendV; rw [if_pos h]⟩
theorem appM_same (D : Dsk) (a x : ByteArray) (fb : Nat) : (appM D a x fb).down = D.down ∧ (appM D a x fb).armed = D.armed ∧ (appM D a x fb).left = D.left ∧ (appM D a x fb).keep = D.keep ∧ (appM D a x fb).steps = D.steps := by
  unfold appM
  cases getF D a <;> exact ⟨rfl, rfl, rfl, rfl, rfl⟩
theorem appM_gone (D : Dsk) (a x : ByteArray) (fb : Nat) : gone (appM D a x fb) ↔ gone D := by
  obtain ⟨_, h1, h2, _⟩ := appM_same D a x fb
  unfold gone; rw [h1, h2]
theorem op_gone {D : Dsk} {k : Int} {a x : ByteArray} {m : Int} (h : opC D k a x m = 0) (hg : gone D) (fb : Nat) : outC D (opC D k a x m) = 60 ∧ Vw (opV D k a x m fb) true false D.left D.keep D.steps ((preL (con D) k a x).map (loseK D.keep)) := by
  obtain ⟨g1, g2⟩ := spendC_gone hg
  have hne : spendC D ≠ 0 := by rw [g1]; decide
  refine ⟨by unfold outC; rw [h]; simp [g1], ?_⟩
  unfold opC at h
  unfold opV preL
  split
  · rename_i c; rw [if_pos c] at h
    unfold appV
    rw [if_neg (by rw [h]; simp)]
    have hg2 := (appM_gone D a x fb).2 hg
    obtain ⟨m1, m2, m3, m4, m5⟩ := appM_same D a x fb
    rw [(spendC_gone hg2).2]
    exact ⟨rfl, rfl, m3, m4, m5, by rw [con_lose, con_app, m4]⟩
  rename_i c; rw [if_neg c] at h
  have hD : Vw (spendV D) true false D.left D.keep D.steps ((con D).map (loseK D.keep)) := by
    rw [g2]; exact ⟨rfl, rfl, rfl, rfl, rfl, con_lose _⟩
  split
  · rename_i c; rw [if_pos c] at h; unfold syncV; rw [if_neg (by rw [h]; simp), if_pos hne]; exact hD
  rename_i c; rw [if_neg c] at h
  split
  · rename_i c; rw [if_pos c] at h; unfold cutV'; rw [if_neg (by rw [h]; simp), if_pos hne]; exact hD
  rename_i c; rw [if_neg c] at h
  split
  · rename_i c; rw [if_pos c] at h; unfold renV; rw [if_neg (by rw [h]; simp), if_pos hne]; exact hD
  rename_i c; rw [if_neg c] at h
  unfold delV; rw [if_neg (by rw [h]; simp), if_pos hne]; exact hD
theorem renT_same (D : Dsk) (a c : ByteArray) : (renT D a c).down = D.down ∧ (renT D a c).armed = D.armed ∧ (renT D a c).left = D.left ∧ (renT D a c).keep = D.keep ∧ (renT D a c).steps = D.steps := by
  unfold renT
  cases getF D a with
  | none => exact ⟨rfl, rfl, rfl, rfl, rfl⟩
  | some f =>
    show (moveF (dropF D a) c f).down = _ ∧ _
    unfold moveF
    split <;> exact ⟨rfl, rfl, rfl, rfl, rfl⟩
theorem op_done {D : Dsk} {k : Int} {a x : ByteArray} {m : Int} (h : opC D k a x m = 0) (hg : ¬ gone D) (fb : Nat) : outC D (opC D k a x m) = 0 ∧ Vw (opV D k a x m fb) D.down D.armed (IntKind.i64.wrap (D.left - 1)) D.keep (IntKind.i64.wrap (D.steps + 1)) (opL (con D) k a x m) := by
  obtain ⟨g1, g2⟩ := spendC_now hg
  have hne : ¬ spendC D ≠ 0 := by rw [g1]; simp
  refine ⟨by unfold outC; rw [h]; simp [g1], ?_⟩
  unfold opC at h
  unfold opV opL
  split
  · rename_i c; rw [if_pos c] at h
    unfold appV
    rw [if_neg (by rw [h]; simp)]
    have hg2 := fun z => hg ((appM_gone D a x fb).1 z)
    obtain ⟨m1, m2, m3, m4, m5⟩ := appM_same D a x fb
    rw [(spendC_now hg2).2]
    exact ⟨m1, m2, by show IntKind.i64.wrap ((appM D a x fb).left - 1) = _; rw [m3], m4, by show IntKind.i64.wrap ((appM D a x fb).steps + 1) = _; rw [m5], con_app _ _ _⟩
  rename_i c; rw [if_neg c] at h
  split
  · rename_i c; rw [if_pos c] at h; unfold syncV; rw [if_neg (by rw [h]; simp), if_neg hne, g2]
    exact ⟨rfl, rfl, rfl, rfl, rfl, con_set (D := spendD D) a _ _ fun _ => rfl⟩
  rename_i c; rw [if_neg c] at h
  split
  · rename_i c; rw [if_pos c] at h; unfold cutV'; rw [if_neg (by rw [h]; simp), if_neg hne, g2]
    exact ⟨rfl, rfl, rfl, rfl, rfl, con_set (D := spendD D) a _ _ fun _ => rfl⟩
  rename_i c; rw [if_neg c] at h
  split
  · rename_i c; rw [if_pos c] at h; unfold renV; rw [if_neg (by rw [h]; simp), if_neg hne, g2]
    obtain ⟨m1, m2, m3, m4, m5⟩ := renT_same (spendD D) a x
    exact ⟨m1, m2, m3, m4, m5, con_ren (D := spendD D) a x⟩
  rename_i c; rw [if_neg c] at h
  unfold delV; rw [if_neg (by rw [h]; simp), if_neg hne, g2]
  exact ⟨rfl, rfl, rfl, rfl, rfl, con_drop (D := spendD D) a⟩
end Go.Ev

/-! The law's comparison of names. -/
namespace Go.Ev
set_option linter.unusedVariables false
set_option linter.unusedSimpArgs false
open Go.Ev.So Go.Proofs
variable {T : Nat → Option RF} [Has T]

theorem names06_r (s : St) (v1 v2 : AV) (a b : List ByteArray) (ha : a.length < 1000000000) (hb : b.length < 1000000000) (h1 : Rd 1 cS s v1 a) (h2 : Rd 1 cS s v2 b) : RunD T f_w06_names [v1, v2] s (.bool (decide (a = b))) s := by
  refine run_body (F := r_w06_names) (has rfl) (by simp [r_w06_names]) ?_
  by_cases hab : a.length = b.length
  · have e0 : ((a.length : Int) == (b.length : Int)) = true := by simp [hab]
    simp only [r_w06_names, XX, CC, YY, Nat.reduceAdd, Nat.reduceSub, Nat.reduceLeDiff, Nat.reduceLT, Nat.reduceEqDiff, reduceIte, ↓reduceIte, Nat.reduceBEq, h1.len, h2.len, e0, Bool.not_true]
    refine awp_rounds (fun d e t => t = s ∧ ∃ i : Nat, i + d = a.length ∧ e.get 0 = v1 ∧ e.get 1 = v2 ∧ e.get 5 = .int .i64 i ∧ a.take i = b.take i) a.length ?_ ?_
    · refine ⟨rfl, 0, by omega, ?_, ?_, ?_, rfl⟩ <;> (try simp only [XX, CC, YY, Nat.reduceAdd, Nat.reduceSub, Nat.reduceLeDiff, Nat.reduceLT, Nat.reduceEqDiff, reduceIte, ↓reduceIte, Nat.reduceBEq, h1.len, h2.len]) <;> rfl
    rintro J d e t hJ ⟨rfl, i, hi, g0, g1, g5, he⟩
    simp only [XX, CC, YY, Nat.reduceAdd, Nat.reduceSub, Nat.reduceLeDiff, Nat.reduceLT, Nat.reduceEqDiff, reduceIte, ↓reduceIte, Nat.reduceBEq, g0, g1, g5, h1.len]
    by_cases h : i < a.length
    · have hp : a[i]? = some (a[i]'h) := List.getElem?_eq_getElem _
      have hq : b[i]? = some (b[i]'(by omega)) := List.getElem?_eq_getElem _
      generalize a[i]'h = p at hp
      generalize b[i]'(by omega) = q at hq
      obtain ⟨b1, o1, j1, j2, _⟩ := rdS h1 hp
      obtain ⟨b2, o2, k1, k2, _⟩ := rdS h2 hq
      have em : p = q ∨ ¬ p = q := Classical.em _
      rcases em with c | c
      · simp only [dec_t (show (i : Int) < a.length by omega), XX, CC, YY, Nat.reduceAdd, Nat.reduceSub, Nat.reduceLeDiff, Nat.reduceLT, Nat.reduceEqDiff, reduceIte, ↓reduceIte, Nat.reduceBEq]
        refine drw_in [] rfl ?_
        simp only [List.append_nil, DD, CC, YY, Nat.reduceAdd, Nat.reduceSub, Nat.reduceLeDiff, Nat.reduceLT, Nat.reduceEqDiff, reduceIte, ↓reduceIte, Nat.reduceBEq, g0, g1, g5, j1, j2, k1, k2, eq_S, dec_t c, Bool.not_true]
        refine hJ (d - 1) _ _ (by omega) ⟨rfl, i + 1, by omega, ?_, ?_, ?_, by rw [take_snocS hp, take_snocS hq, he, c]⟩ <;> (try simp only [XX, CC, YY, Nat.reduceAdd, Nat.reduceSub, Nat.reduceLeDiff, Nat.reduceLT, Nat.reduceEqDiff, reduceIte, ↓reduceIte, Nat.reduceBEq, g0, g1, g5])
        rw [w64_nat (by omega)]
      · have hne : ¬ a = b := fun e => by rw [e] at hp; rw [hp] at hq; exact c (by simpa using hq)
        simp only [dec_t (show (i : Int) < a.length by omega), XX, CC, YY, Nat.reduceAdd, Nat.reduceSub, Nat.reduceLeDiff, Nat.reduceLT, Nat.reduceEqDiff, reduceIte, ↓reduceIte, Nat.reduceBEq]
        refine drw_in [] rfl ?_
        simp only [List.append_nil, DD, CC, YY, Nat.reduceAdd, Nat.reduceSub, Nat.reduceLeDiff, Nat.reduceLT, Nat.reduceEqDiff, reduceIte, ↓reduceIte, Nat.reduceBEq, g0, g1, g5, j1, j2, k1, k2, eq_S, dec_f c, Bool.not_false]
        exact .inl ⟨by rw [dec_f hne], rfl⟩
    · rw [List.take_of_length_le (by omega), List.take_of_length_le (by omega)] at he
      simp only [dec_f (show ¬ (i : Int) < a.length by omega), XX, CC, YY, Nat.reduceAdd, Nat.reduceSub, Nat.reduceLeDiff, Nat.reduceLT, Nat.reduceEqDiff, reduceIte, ↓reduceIte, Nat.reduceBEq]
      exact .inl ⟨by rw [dec_t he], rfl⟩
  · have e0 : ((a.length : Int) == (b.length : Int)) = false := by simp; omega
    simp only [r_w06_names, XX, CC, YY, Nat.reduceAdd, Nat.reduceSub, Nat.reduceLeDiff, Nat.reduceLT, Nat.reduceEqDiff, reduceIte, ↓reduceIte, Nat.reduceBEq, h1.len, h2.len, e0, Bool.not_false]
    exact .inl ⟨by rw [dec_f (fun e => hab (by rw [e]))], rfl⟩
end Go.Ev

/-! A disk in the store; the program's calls over it. -/
namespace Go.Ev
set_option linter.unusedVariables false
set_option linter.unusedSimpArgs false
open Go.Ev.So Go.Proofs

/-- Blocks A become blocks A'; the others stay. -/
structure Gs (A A' : Nat → Prop) (t t' : St) : Prop where
  len : t.length ≤ t'.length
  same : ∀ i, i < t.length → ¬ A i → t'[i]? = t[i]?
  foot : ∀ i, A' i → A i ∨ t.length ≤ i
/-- A disk lies at b, above s. -/
structure WD (s : St) (n b : Nat) (D : Dsk) (t : St) : Prop where
  at_ : DAt t n b D
  ok : DOk D
  nm : ∀ f ∈ con D, nameB f.1 = true
  nt : n ≤ t.length
  foot : ∀ i, DFoot b D i → s.length ≤ i
  len : s.length ≤ t.length
  same : ∀ i, i < s.length → t[i]? = s[i]?
section
variable {s t t' : St} {n b : Nat} {D D' : Dsk} {A A' : Nat → Prop}
theorem Gs.refl {A : Nat → Prop} : Gs A A t t := ⟨Nat.le_refl _, fun _ _ _ => rfl, fun _ x => .inl x⟩
theorem WD.ext (h : WD s n b D t) : Ext s t := by
  refine ⟨t.drop s.length, ?_⟩
  have : t.take s.length = s := by
    apply List.ext_getElem?
    intro i
    by_cases c : i < s.length
    · rw [List.getElem?_take_of_lt c, h.same i c]
    · rw [List.getElem?_eq_none (by simp; omega), List.getElem?_eq_none (by omega)]
  conv => lhs; rw [← List.take_append_drop s.length t]
  rw [this]
theorem DStep.wd (h : WD s n b D t) (g : DStep n b D D' t t') (hn : ∀ f ∈ con D', nameB f.1 = true) : WD s n b D' t' ∧ Gs (DFoot b D) (DFoot b D') t t' := by
  have h1 := h.len
  have h2 := g.len
  have h3 := h.nt
  refine ⟨⟨g.at_, g.ok, hn, by omega, fun i hi => ?_, by omega, fun i hi => ?_⟩, ⟨g.len, g.same, g.foot⟩⟩
  · rcases g.foot i hi with x | x
    · exact h.foot i x
    · omega
  · rw [g.same i (by omega) (fun x => by have := h.foot i x; omega)]
    exact h.same i hi
/-- What happens elsewhere. -/
theorem WD.other (h : WD s n b D t) (g : Gs A A' t t') (ha : ∀ i, DFoot b D i → ¬ A i) (hb : ∀ i, A i → s.length ≤ i) : WD s n b D t' := by
  have h1 := h.len
  have h2 := g.len
  have h3 := h.nt
  refine ⟨h.at_.other fun i hi => g.same i (hi.lt h.at_) (ha i hi), h.ok, h.nm, by omega, h.foot, by omega, fun i hi => ?_⟩
  rw [g.same i (by omega) (fun x => by have := hb i x; omega)]
  exact h.same i hi
theorem WD.app (h : WD s n b D t) (r : St) : WD s n b D (t ++ r) :=
  h.other (A := fun _ => False) (A' := fun _ => False) ⟨by simp, fun i hi _ => List.getElem?_append_left hi, fun _ x => x.elim⟩ (fun _ _ x => x) (fun _ x => x.elim)
theorem WD.few (h : WD s n b D t) : (con D).length ≤ 16 := by rw [con_len]; exact h.ok.few
theorem nameB_size {a : ByteArray} (h : nameB a = true) : a.size ≤ 32 := by
  unfold nameB at h
  simp only [Bool.and_eq_true, decide_eq_true_eq] at h
  exact h.1.2
theorem WD.short (h : WD s n b D t) : ∀ f ∈ D.fs, f.1.name.size ≤ 32 := fun f hf => nameB_size (h.nm (tri f) (List.mem_map_of_mem hf))
theorem WD.dist (h : WD s n b D t) : ((con D).map (·.1)).Nodup := by
  have := h.at_.names
  unfold con
  rw [List.map_map]
  exact this
/-! ### names are kept -/
theorem chk_nm {dn : Bool} {ns : List ByteArray} {a : ByteArray} (h : chkK dn ns = 0) (ha : a ∈ ns) : nameB a = true := by
  unfold chkK at h
  split at h
  · cases h
  · split at h
    · rename_i c; exact List.all_eq_true.1 c a ha
    · cases h
theorem upd_nm {C : List Tri} (h : ∀ f ∈ C, nameB f.1 = true) {a : ByteArray} {g : Tri → Tri} (hg : ∀ f, nameB f.1 = true → a = f.1 → nameB (g f).1 = true) : ∀ f ∈ C.map (updK a g), nameB f.1 = true := by
  intro f hf
  obtain ⟨x, hx, rfl⟩ := List.mem_map.1 hf
  unfold updK
  split
  · rename_i c; exact hg x (h x hx) c
  · exact h x hx
theorem appL_nm {C : List Tri} (h : ∀ f ∈ C, nameB f.1 = true) {a x : ByteArray} (ha : nameB a = true) : ∀ f ∈ appL C a x, nameB f.1 = true := by
  unfold appL
  cases getK C a with
  | some g => exact upd_nm h fun f hf _ => hf
  | none =>
    intro f hf
    rcases List.mem_append.1 hf with k | k
    · exact h f k
    · simp only [List.mem_singleton] at k; rw [k]; exact ha
theorem lose_nm {C : List Tri} (h : ∀ f ∈ C, nameB f.1 = true) (keep : Int) : ∀ f ∈ C.map (loseK keep), nameB f.1 = true := by
  intro f hf
  obtain ⟨x, hx, rfl⟩ := List.mem_map.1 hf
  exact h x hx
theorem drop_nm {C : List Tri} (h : ∀ f ∈ C, nameB f.1 = true) (a : ByteArray) : ∀ f ∈ dropK C a, nameB f.1 = true := fun f hf => h f (List.mem_filter.1 hf).1
theorem put_nm {C : List Tri} (h : ∀ f ∈ C, nameB f.1 = true) {c : ByteArray} (hc : nameB c = true) (g : Tri) : ∀ f ∈ putL C c g, nameB f.1 = true := by
  unfold putL
  cases getK C c with
  | some g' => exact upd_nm h fun f hf _ => hc
  | none =>
    intro f hf
    rcases List.mem_append.1 hf with k | k
    · exact h f k
    · simp only [List.mem_singleton] at k; rw [k]; exact hc
theorem opL_nm {dn : Bool} {C : List Tri} (h : ∀ f ∈ C, nameB f.1 = true) {k : Int} {a x : ByteArray} {m : Int} (hc : opK dn C k a x m = 0) : (∀ f ∈ opL C k a x m, nameB f.1 = true) ∧ ∀ f ∈ preL C k a x, nameB f.1 = true := by
  have ch : ∀ {ns : List ByteArray} {r : Int}, (if chkK dn ns ≠ 0 then chkK dn ns else r) = 0 → chkK dn ns = 0 := by
    intro ns r hr
    by_cases c : chkK dn ns = 0
    · exact c
    · rw [if_pos c] at hr; exact hr
  unfold opK at hc
  unfold opL preL
  by_cases c1 : k = 1
  · rw [if_pos c1] at hc; rw [if_pos c1, if_pos c1]
    have ha : nameB a = true := chk_nm (ch hc) (List.mem_singleton.2 rfl)
    exact ⟨appL_nm h ha, appL_nm h ha⟩
  rw [if_neg c1] at hc; rw [if_neg c1, if_neg c1]
  refine ⟨?_, h⟩
  by_cases c2 : k = 2
  · rw [if_pos c2]; exact upd_nm h fun f hf _ => hf
  rw [if_neg c2] at hc; rw [if_neg c2]
  by_cases c3 : k = 3
  · rw [if_pos c3]; exact upd_nm h fun f hf _ => hf
  rw [if_neg c3] at hc; rw [if_neg c3]
  by_cases c4 : k = 4
  · rw [if_pos c4] at hc ⊢
    have hx : nameB x = true := chk_nm (ch hc) (by simp)
    unfold renL
    cases getK C a with
    | some f => exact put_nm (drop_nm h a) hx f
    | none => exact h
  · rw [if_neg c4]; exact drop_nm h a
/-! ### the calls -/
theorem op_nm (h : WD s n b D t) (k : Int) (a x : ByteArray) (m : Int) (fb : Nat) : ∀ f ∈ con (opV D k a x m fb), nameB f.1 = true := by
  by_cases c : opC D k a x m = 0
  · have c' := c
    rw [opK_con] at c'
    obtain ⟨h1, h2⟩ := opL_nm h.nm c'
    by_cases g : gone D
    · rw [(op_gone c g fb).2.con]; exact lose_nm h2 _
    · rw [(op_done c g fb).2.con]; exact h1
  · rw [(op_bad c fb).1]; exact h.nm
theorem op_w1 (h : WD s n b D t) (a x : ByteArray) (ha : a.size < 140737488355328) (hx : x.size < 140737488355328) :
    Run T f_files_Disk_Append [.ptr b 0, .str a, .str x] t fun v t' => v = .int .i64 (outC D (opC D 1 a x 0)) ∧ WD s n b (opV D 1 a x 0 t.length) t' ∧ Gs (DFoot b D) (DFoot b (opV D 1 a x 0 t.length)) t t' := by
  refine Run.mono _ _ _ _ _ ?_ (append_g t n b D a x h.at_ h.ok h.nt ha hx)
  rintro v t' ⟨rfl, g⟩
  exact ⟨rfl, DStep.wd h (D' := opV D 1 a x 0 t.length) g (op_nm h 1 a x 0 _)⟩
theorem op_w2 (h : WD s n b D t) (a x : ByteArray) (m : Int) (fb : Nat) (ha : a.size < 140737488355328) :
    Run T f_files_Disk_Sync [.ptr b 0, .str a] t fun v t' => v = .int .i64 (outC D (opC D 2 a x m)) ∧ WD s n b (opV D 2 a x m fb) t' ∧ Gs (DFoot b D) (DFoot b (opV D 2 a x m fb)) t t' := by
  refine Run.mono _ _ _ _ _ ?_ (sync_g t n b D a h.at_ h.ok ha)
  rintro v t' ⟨rfl, g⟩
  exact ⟨rfl, DStep.wd h (D' := opV D 2 a x m fb) g (op_nm h 2 a x m fb)⟩
theorem op_w3 (h : WD s n b D t) (a x : ByteArray) (m : Int) (fb : Nat) (ha : a.size < 140737488355328) :
    Run T f_files_Disk_Cut [.ptr b 0, .str a, .int .i64 m] t fun v t' => v = .int .i64 (outC D (opC D 3 a x m)) ∧ WD s n b (opV D 3 a x m fb) t' ∧ Gs (DFoot b D) (DFoot b (opV D 3 a x m fb)) t t' := by
  refine Run.mono _ _ _ _ _ ?_ (dcut_g t n b D a m h.at_ h.ok ha)
  rintro v t' ⟨rfl, g⟩
  exact ⟨rfl, DStep.wd h (D' := opV D 3 a x m fb) g (op_nm h 3 a x m fb)⟩
theorem op_w4 (h : WD s n b D t) (a x : ByteArray) (m : Int) (fb : Nat) (ha : a.size < 140737488355328) (hx : x.size < 140737488355328) :
    Run T f_files_Disk_Rename [.ptr b 0, .str a, .str x] t fun v t' => v = .int .i64 (outC D (opC D 4 a x m)) ∧ WD s n b (opV D 4 a x m fb) t' ∧ Gs (DFoot b D) (DFoot b (opV D 4 a x m fb)) t t' := by
  refine Run.mono _ _ _ _ _ ?_ (dren_g t n b D a x h.at_ h.ok ha hx)
  rintro v t' ⟨rfl, g⟩
  exact ⟨rfl, DStep.wd h (D' := opV D 4 a x m fb) g (op_nm h 4 a x m fb)⟩
theorem op_w5 (h : WD s n b D t) {k : Int} (hk : k ≠ 1 ∧ k ≠ 2 ∧ k ≠ 3 ∧ k ≠ 4) (a x : ByteArray) (m : Int) (fb : Nat) (ha : a.size < 140737488355328) :
    Run T f_files_Disk_Delete [.ptr b 0, .str a] t fun v t' => v = .int .i64 (outC D (opC D k a x m)) ∧ WD s n b (opV D k a x m fb) t' ∧ Gs (DFoot b D) (DFoot b (opV D k a x m fb)) t t' := by
  have e1 : opC D k a x m = delC D a := by unfold opC; rw [if_neg hk.1, if_neg hk.2.1, if_neg hk.2.2.1, if_neg hk.2.2.2]
  have e2 : opV D k a x m fb = delV D a := by unfold opV; rw [if_neg hk.1, if_neg hk.2.1, if_neg hk.2.2.1, if_neg hk.2.2.2]
  refine Run.mono _ _ _ _ _ ?_ (ddel_g t n b D a h.at_ h.ok ha)
  rintro v t' ⟨rfl, g⟩
  refine ⟨by rw [e1], ?_⟩
  have hn := op_nm h k a x m fb
  rw [e2] at hn ⊢
  exact DStep.wd h g hn
theorem off_w (h : WD s n b D t) (keep : Int) : Run T f_files_Disk_Off [.ptr b 0, .int .i64 keep] t fun v t' => v = .tup [] ∧ WD s n b (offV D keep) t' ∧ Gs (DFoot b D) (DFoot b (offV D keep)) t t' := by
  refine Run.mono _ _ _ _ _ ?_ (off_g t n b D keep h.at_ h.ok)
  rintro v t' ⟨rfl, g⟩
  refine ⟨rfl, DStep.wd h g ?_⟩
  unfold offV
  split
  · exact h.nm
  · rw [con_lose]; exact lose_nm h.nm keep
theorem on_w (h : WD s n b D t) : Run T f_files_Disk_On [.ptr b 0] t fun v t' => v = .tup [] ∧ WD s n b (onD D) t' ∧ Gs (DFoot b D) (DFoot b (onD D)) t t' := by
  refine Run.mono _ _ _ _ _ ?_ (on_g t n b D h.at_ h.ok)
  rintro v t' ⟨rfl, g⟩
  exact ⟨rfl, DStep.wd h g h.nm⟩
theorem arm_w (h : WD s n b D t) (j keep : Int) : Run T f_files_Disk_Arm [.ptr b 0, .int .i64 j, .int .i64 keep] t fun v t' => v = .tup [] ∧ WD s n b (armD D j keep) t' ∧ Gs (DFoot b D) (DFoot b (armD D j keep)) t t' := by
  refine Run.mono _ _ _ _ _ ?_ (arm_g t n b D j keep h.at_ h.ok)
  rintro v t' ⟨rfl, g⟩
  refine ⟨rfl, DStep.wd h g ?_⟩
  unfold con
  rw [(armD_same D j keep).2.2]
  exact h.nm
theorem read_w (h : WD s n b D t) (a : ByteArray) (ha : a.size < 140737488355328) : RunD T f_files_Disk_Read [.ptr b 0, .str a] t (.tup [.str (readV D a).1, .int .i64 (readV D a).2]) t := read_r (T := T) t n b D a h.at_ ha
theorem safe_w (h : WD s n b D t) (a : ByteArray) : RunD T f_files_Disk_Safe [.ptr b 0, .str a] t (.int .i64 (safeV D a)) t := safe_r t n b D a h.at_
theorem steps_w (h : WD s n b D t) : RunD T f_files_Disk_Steps [.ptr b 0] t (.int .i64 D.steps) t := steps_r (T := T) t n b D h.at_
theorem down_w (h : WD s n b D t) : RunD T f_files_Disk_Down [.ptr b 0] t (.bool D.down) t := down_r (T := T) t n b D h.at_
/-- names, ascending -/
theorem ris_ex (l : List ByteArray) (hn : l.Nodup) (hs : ∀ x ∈ l, x.size ≤ 32) : ∃ m : List ByteArray, m.Perm l ∧ Ris m := by
  refine ⟨l.mergeSort fun a b => decide (kS a ≤ kS b), List.mergeSort_perm .., ?_⟩
  have h1 := List.pairwise_mergeSort (le := fun a b : ByteArray => decide (kS a ≤ kS b)) (by intro a b c; simp; omega) (by intro a b; simp; omega) l
  have h2 : (l.mergeSort fun a b => decide (kS a ≤ kS b)).Nodup := (List.mergeSort_perm ..).nodup_iff.2 hn
  have hm : ∀ x ∈ l.mergeSort (fun a b => decide (kS a ≤ kS b)), x.size ≤ 32 := fun x hx => hs x ((List.mergeSort_perm ..).mem_iff.1 hx)
  generalize l.mergeSort (fun a b => decide (kS a ≤ kS b)) = m at *
  refine List.Pairwise.imp_of_mem ?_ (h1.and h2)
  rintro a b ha hb ⟨h3, h4⟩
  simp only [decide_eq_true_eq] at h3
  exact Nat.lt_of_le_of_ne h3 fun e => h4 (kS_inj (hm a ha) (hm b hb) e)
theorem names_w (h : WD s n b D t) (l : List ByteArray) (hp : l.Perm ((con D).map (·.1))) (hr : Ris l) (v : AV) (t' : St) (hm : Made t l v t') : RunD T f_files_Disk_Names [.ptr b 0] t v t' := by
  refine names_r t n b D h.at_ h.ok h.short l ?_ hr v t' hm
  unfold con at hp
  rw [List.map_map] at hp
  exact hp
end
/-- what is made: a block, or nothing -/
def madeV (t : St) (l : List ByteArray) : AV := if l = [] then .nils else .sl t.length 0 1 l.length none
def madeT (t : St) (l : List ByteArray) : St := if l = [] then t else t ++ [.cells true (l.flatMap cS)]
theorem made_is (t : St) (l : List ByteArray) : Made t l (madeV t l) (madeT t l) := by
  unfold madeV madeT
  by_cases c : l = []
  · rw [if_pos c, if_pos c]; exact .inl ⟨c, rfl, rfl⟩
  · rw [if_neg c, if_neg c]; exact .inr ⟨c, rfl, rfl⟩
theorem Made.rd {t t' : St} {l : List ByteArray} {v : AV} (h : Made t l v t') : Rd 1 cS t' v l := by
  rcases h with ⟨rfl, rfl, rfl⟩ | ⟨_, rfl, rfl⟩
  · exact Rd.nil
  · exact rd_lit get_last cS_len rfl
theorem madeT_ext (t : St) (l : List ByteArray) : Ext t (madeT t l) := by
  unfold madeT; split
  · exact .refl t
  · exact ⟨_, rfl⟩
theorem WD.ext2 {s t t' : St} {n b : Nat} {D : Dsk} (h : WD s n b D t) (x : Ext t t') : WD s n b D t' := by
  obtain ⟨r, rfl⟩ := x; exact h.app r
theorem new_w (s t : St) (hx : Ext s t) : WD s t.length (t.length + 1) (newD t.length) (t ++ [.map [] 0, .cells true (cD (newD t.length))]) := by
  have hl := hx.len
  refine ⟨new_at t, ⟨fun f h => by simp [newD] at h, by simp [newD], fun f h => by simp [newD] at h, by simp [newD]⟩, fun f hf => by simp [con, newD] at hf, by simp, fun i hi => ?_, by simp; omega, fun i hi => ?_⟩
  · rcases hi with rfl | rfl | ⟨f, hf, _⟩
    · omega
    · exact hl
    · simp [newD] at hf
  · rw [List.getElem?_append_left (by omega), hx.get hi]
end Go.Ev

/-! The law's awake. -/
namespace Go.Ev
set_option linter.unusedVariables false
set_option linter.unusedSimpArgs false
open Go.Ev.So Go.Proofs

def readK (dn : Bool) (C : List Tri) (a : ByteArray) : ByteArray × Int := if chkK dn [a] ≠ 0 then (bts [], chkK dn [a]) else match getK C a with
  | some f => (f.2.1, 0)
  | none => (bts [], 62)
def safeK (C : List Tri) (a : ByteArray) : Int := match getK C a with
  | some f => f.2.2
  | none => 0
section
variable {D : Dsk} {dn ar : Bool} {left keep steps : Int} {C : List Tri}
theorem Vw.done (V : Vw D dn ar left keep steps C) {k : Int} {a x : ByteArray} {m : Int} (hc : opK dn C k a x m = 0) (hg : ar = false ∨ left ≠ 0) (fb : Nat) :
    outC D (opC D k a x m) = 0 ∧ Vw (opV D k a x m fb) dn ar (IntKind.i64.wrap (left - 1)) keep (IntKind.i64.wrap (steps + 1)) (opL C k a x m) := by
  obtain ⟨rfl, rfl, rfl, rfl, rfl, rfl⟩ := V
  refine op_done (by rw [opK_con]; exact hc) (fun g => ?_) fb
  rcases hg with h | h
  · rw [g.1] at h; cases h
  · exact h g.2
theorem Vw.bad (V : Vw D dn ar left keep steps C) {k : Int} {a x : ByteArray} {m : Int} {c : Int} (hc : opK dn C k a x m = c) (h0 : c ≠ 0) (fb : Nat) :
    outC D (opC D k a x m) = c ∧ opV D k a x m fb = D := by
  obtain ⟨rfl, rfl, rfl, rfl, rfl, rfl⟩ := V
  have h : opC D k a x m = c := by rw [opK_con]; exact hc
  obtain ⟨h1, h2⟩ := op_bad (by rw [h]; exact h0) fb
  exact ⟨by rw [h2, h], h1⟩
theorem Vw.off (V : Vw D false ar left keep steps C) (k : Int) : Vw (offV D k) true false left keep steps (C.map (loseK k)) := by
  obtain ⟨h, rfl, rfl, rfl, rfl, rfl⟩ := V
  have e : offV D k = loseD D k := by unfold offV; rw [h]; rfl
  rw [e]
  exact ⟨rfl, rfl, rfl, rfl, rfl, con_lose k⟩
theorem Vw.on (V : Vw D dn ar left keep steps C) : Vw (onD D) false false left keep steps C := by
  obtain ⟨rfl, rfl, rfl, rfl, rfl, rfl⟩ := V
  exact ⟨rfl, rfl, rfl, rfl, rfl, rfl⟩
theorem Vw.read (V : Vw D dn ar left keep steps C) (a : ByteArray) : readV D a = readK dn C a := by
  obtain ⟨rfl, rfl, rfl, rfl, rfl, rfl⟩ := V
  unfold readV readK
  rw [getK_con]
  cases getF D a <;> rfl
theorem Vw.safe (V : Vw D dn ar left keep steps C) (a : ByteArray) : safeV D a = safeK C a := by
  obtain ⟨rfl, rfl, rfl, rfl, rfl, rfl⟩ := V
  unfold safeV safeK
  rw [getK_con]
  cases getF D a <;> rfl
theorem newD_Vw (mb : Nat) : Vw (newD mb) false false 0 0 0 [] := ⟨rfl, rfl, rfl, rfl, rfl, rfl⟩
end
def fLog : ByteArray := bts [108, 111, 103]
set_option maxHeartbeats 4000000 in
theorem awake06_r (s : St) : RunD T f_w06_awake [] s (.bool true) s := by
  refine run_body (F := r_w06_awake) (has rfl) (by simp [r_w06_awake]) ?_
  have e1 : bts [108, 111, 103] = fLog := rfl
  have hz : fLog.size < 140737488355328 := of_decide_eq_true (by kernel_rfl)
  have h3 : (bts [97, 98, 99]).size < 140737488355328 := of_decide_eq_true (by kernel_rfl)
  have h2 : (bts [100, 101]).size < 140737488355328 := of_decide_eq_true (by kernel_rfl)
  have hL : (bts [76, 111, 103]).size < 140737488355328 := of_decide_eq_true (by kernel_rfl)
  have h0 : (bts []).size < 140737488355328 := of_decide_eq_true (by kernel_rfl)
  have z0 : ((0 : Int) == 0) = true := rfl
  have z60 : ((60 : Int) == 60) = true := rfl
  have z61 : ((61 : Int) == 61) = true := rfl
  have z4 : ((4 : Int) == 4) = true := rfl
  have z3 : ((3 : Int) == 3) = true := rfl
  simp only [r_w06_awake, XX, CC, YY, Nat.reduceAdd, Nat.reduceSub, Nat.reduceLeDiff, Nat.reduceLT, Nat.reduceEqDiff, reduceIte, ↓reduceIte, Nat.reduceBEq, e1]
  refine Run.mono _ _ _ _ _ ?_ (new_r s)
  rintro v t1 ⟨rfl, rfl⟩
  have w := new_w s s (Ext.refl s)
  have V := newD_Vw s.length
  generalize s ++ [Blk.map [] 0, .cells true (cD (newD s.length))] = t at *
  generalize newD s.length = D at *
  generalize s.length + 1 = b at *
  simp only [XX, CC, YY, Nat.reduceAdd, Nat.reduceSub, Nat.reduceLeDiff, Nat.reduceLT, Nat.reduceEqDiff, reduceIte, ↓reduceIte, Nat.reduceBEq, eqp_f]
  refine Run.mono _ _ _ _ _ ?_ (op_w1 w fLog (bts [97, 98, 99]) hz h3)
  rintro v t1 ⟨rfl, w1, _⟩
  obtain ⟨c1, V1⟩ := V.done (k := 1) (a := fLog) (x := bts [97, 98, 99]) (m := 0) (by kernel_rfl) (.inl rfl) t.length
  rw [c1]
  clear w V
  generalize opV D 1 fLog (bts [97, 98, 99]) 0 t.length = D1 at *
  (try simp only [XX, CC, YY, Nat.reduceAdd, Nat.reduceSub, Nat.reduceLeDiff, Nat.reduceLT, Nat.reduceEqDiff, reduceIte, ↓reduceIte, Nat.reduceBEq])
  refine Run.mono _ _ _ _ _ ?_ (op_w2 w1 fLog (bts []) 0 0 hz)
  rintro v t2 ⟨rfl, w2, _⟩
  obtain ⟨c2, V2⟩ := V1.done (k := 2) (a := fLog) (x := bts []) (m := 0) (by kernel_rfl) (.inl rfl) 0
  rw [c2]
  clear w1 V1
  generalize opV D1 2 fLog (bts []) 0 0 = D2 at *
  (try simp only [XX, CC, YY, Nat.reduceAdd, Nat.reduceSub, Nat.reduceLeDiff, Nat.reduceLT, Nat.reduceEqDiff, reduceIte, ↓reduceIte, Nat.reduceBEq])
  refine Run.mono _ _ _ _ _ ?_ (op_w1 w2 fLog (bts [100, 101]) hz h2)
  rintro v t3 ⟨rfl, w3, _⟩
  obtain ⟨c3, V3⟩ := V2.done (k := 1) (a := fLog) (x := bts [100, 101]) (m := 0) (by kernel_rfl) (.inl rfl) t2.length
  rw [c3]
  clear w2 V2
  generalize opV D2 1 fLog (bts [100, 101]) 0 t2.length = D3 at *
  (try simp only [XX, CC, YY, Nat.reduceAdd, Nat.reduceSub, Nat.reduceLeDiff, Nat.reduceLT, Nat.reduceEqDiff, reduceIte, ↓reduceIte, Nat.reduceBEq])
  refine Run.mono _ _ _ _ _ ?_ (off_w w3 1)
  rintro v t4 ⟨rfl, w4, _⟩
  have V4 := V3.off 1
  clear w3 V3
  generalize offV D3 1 = D4 at *
  have r4 := V4.read fLog
  rw [show readK true _ fLog = (bts [], 60) by kernel_rfl] at r4
  (try simp only [XX, CC, YY, Nat.reduceAdd, Nat.reduceSub, Nat.reduceLeDiff, Nat.reduceLT, Nat.reduceEqDiff, reduceIte, ↓reduceIte, Nat.reduceBEq])
  refine (read_w w4 fLog hz).use ?_
  rw [r4]
  (try simp only [XX, CC, YY, Nat.reduceAdd, Nat.reduceSub, Nat.reduceLeDiff, Nat.reduceLT, Nat.reduceEqDiff, reduceIte, ↓reduceIte, Nat.reduceBEq])
  refine Run.mono _ _ _ _ _ ?_ (on_w w4)
  rintro v t5 ⟨rfl, w5, _⟩
  have V5 := V4.on
  clear w4 V4 r4
  generalize onD D4 = D5 at *
  have r5 := V5.read fLog
  rw [show readK false _ fLog = (bts [97, 98, 99, 100], 0) by kernel_rfl] at r5
  (try simp only [XX, CC, YY, Nat.reduceAdd, Nat.reduceSub, Nat.reduceLeDiff, Nat.reduceLT, Nat.reduceEqDiff, reduceIte, ↓reduceIte, Nat.reduceBEq])
  refine (read_w w5 fLog hz).use ?_
  rw [r5]
  have q5 : eqA .s (.str (bts [97, 98, 99, 100])) (.str (bts [97, 98, 99, 100])) = some true := by rw [eq_S, dec_t rfl]
  simp only [XX, CC, YY, Nat.reduceAdd, Nat.reduceSub, Nat.reduceLeDiff, Nat.reduceLT, Nat.reduceEqDiff, reduceIte, ↓reduceIte, Nat.reduceBEq, z0, z60, q5]
  have s5 := V5.safe fLog
  rw [show safeK _ fLog = 4 by kernel_rfl] at s5
  refine (safe_w w5 fLog).use ?_
  rw [s5]
  simp only [XX, CC, YY, Nat.reduceAdd, Nat.reduceSub, Nat.reduceLeDiff, Nat.reduceLT, Nat.reduceEqDiff, reduceIte, ↓reduceIte, Nat.reduceBEq, z4]
  refine (steps_w w5).use ?_
  rw [V5.steps, show IntKind.i64.wrap (IntKind.i64.wrap (IntKind.i64.wrap (0 + 1) + 1) + 1) = 3 by kernel_rfl]
  simp only [XX, CC, YY, Nat.reduceAdd, Nat.reduceSub, Nat.reduceLeDiff, Nat.reduceLT, Nat.reduceEqDiff, reduceIte, ↓reduceIte, Nat.reduceBEq, z3]
  have hc : (con D5).map (·.1) = [fLog] := by rw [V5.con]; kernel_rfl
  refine (names_w w5 [fLog] (by rw [hc]) (by simp [Ris]) (.sl t5.length 0 1 1 none) (t5 ++ [.cells true [.str fLog]]) (.inr ⟨by simp, rfl, by simp [cS]⟩)).use ?_
  have w6 := w5.app [.cells true [.str fLog]]
  have rd6 : Rd 1 cS (t5 ++ [.cells true [.str fLog]]) (.sl t5.length 0 1 1 none) [fLog] := rd_lit (by rw [get_last]; rfl) cS_len rfl
  generalize t5 ++ [.cells true [.str fLog]] = t6 at *
  have hf : fillA (List.replicate 1 [AV.str (bts [])]).flatten [(0, 1, .str fLog)] = some [.str fLog] := rfl
  (try simp only [XX, CC, YY, Nat.reduceAdd, Nat.reduceSub, Nat.reduceLeDiff, Nat.reduceLT, Nat.reduceEqDiff, reduceIte, ↓reduceIte, Nat.reduceBEq, hf])
  refine (names06_r (T := T) (t6 ++ [.cells true [.str fLog]]) _ (.sl t6.length 0 1 1 (some 1)) [fLog] [fLog] (by simp) (by simp) (rd6.ext ⟨_, rfl⟩) (rd_lit (l := [fLog]) (by rw [get_last]; rfl) cS_len rfl)).use ?_
  rw [dec_t rfl]
  have w7 := w6.app [.cells true [.str fLog]]
  (try simp only [XX, CC, YY, Nat.reduceAdd, Nat.reduceSub, Nat.reduceLeDiff, Nat.reduceLT, Nat.reduceEqDiff, reduceIte, ↓reduceIte, Nat.reduceBEq])
  refine (down_w w7).use ?_
  rw [V5.down]
  simp only [XX, CC, YY, Nat.reduceAdd, Nat.reduceSub, Nat.reduceLeDiff, Nat.reduceLT, Nat.reduceEqDiff, reduceIte, ↓reduceIte, Nat.reduceBEq, Bool.not_false]
  refine Run.mono _ _ _ _ _ ?_ (op_w1 w7 (bts [76, 111, 103]) (bts []) hL h0)
  rintro v t8 ⟨rfl, w8, _⟩
  obtain ⟨c8, _⟩ := V5.bad (k := 1) (a := bts [76, 111, 103]) (x := bts []) (m := 0) (c := 61) (by kernel_rfl) (by decide) (t6 ++ [Blk.cells true [.str fLog]]).length
  rw [c8]
  simp only [XX, CC, YY, Nat.reduceAdd, Nat.reduceSub, Nat.reduceLeDiff, Nat.reduceLT, Nat.reduceEqDiff, reduceIte, ↓reduceIte, Nat.reduceBEq, z61]
  exact ret_drop w8.ext rfl ⟨rfl, rfl⟩
end Go.Ev

/-! FilesNames: its run. -/
namespace Go.Ev
set_option linter.unusedVariables false
set_option linter.unusedSimpArgs false
open Go.Ev.So Go.Proofs

def RC.fst : RC → RC
  | .seq a _ => a
  | c => c
def RC.snd : RC → RC
  | .seq _ b => b
  | c => c
def RC.inn : RC → RC
  | .block _ c => c
  | .loop c => c
  | c => c
theorem nil_app (x : ByteArray) : bts [] ++ x = x := by
  apply ByteArray.ext
  rw [ByteArray.data_append]
  exact Array.empty_append
theorem app_first (x y : ByteArray) : (x ++ y).extract 0 x.size = x := by
  apply ByteArray.ext
  rw [ByteArray.data_extract, ByteArray.data_append, Array.extract_append]
  simp
theorem ext_self (x : ByteArray) (n : Nat) (h : x.size ≤ n) : x.extract 0 n = x := by
  apply ByteArray.ext
  rw [ByteArray.data_extract]
  have : x.size = x.data.size := rfl
  rw [Array.extract_eq_self_iff.2 (.inr ⟨rfl, by omega⟩)]
theorem chk_t {a : ByteArray} (h : nameB a = true) : chkK false [a] = 0 := by unfold chkK; simp [h]
theorem chk_f {a : ByteArray} (h : nameB a = false) : chkK false [a] = 61 := by unfold chkK; simp [h]
theorem chk_tt {a c : ByteArray} (h : nameB a = true) (h2 : nameB c = true) : chkK false [a, c] = 0 := by unfold chkK; simp [h, h2]
theorem chk_tf {a c : ByteArray} (h : nameB a = true) (h2 : nameB c = false) : chkK false [a, c] = 61 := by unfold chkK; simp [h, h2]
theorem getK_1 (a : ByteArray) (d : ByteArray) (n : Int) : getK [(a, d, n)] a = some (a, d, n) := by simp [getK]
theorem getK_0 (a : ByteArray) : getK [] a = none := rfl
theorem getK_n {a c : ByteArray} (h : a ≠ c) (d : ByteArray) (n : Int) : getK [(a, d, n)] c = none := by simp [getK, Ne.symm h]
theorem app_new {a x : ByteArray} (h : nameB a = true) (hx : x.size ≤ 1048576) : opK false [] 1 a x 0 = 0 ∧ opL [] 1 a x 0 = [(a, x, 0)] := by
  refine ⟨?_, ?_⟩
  · show appK false [] a x = 0
    unfold appK
    rw [chk_t h, getK_0]
    simp only [List.length_nil]
    rw [if_neg (by decide), if_neg (by decide), if_neg (by omega)]
  · show appL [] a x = _
    unfold appL
    rw [getK_0, nil_app]; rfl
theorem app_one {a d x : ByteArray} {n : Int} (h : nameB a = true) (hx : d.size + x.size ≤ 1048576) : opK false [(a, d, n)] 1 a x 0 = 0 ∧ opL [(a, d, n)] 1 a x 0 = [(a, d ++ x, n)] := by
  refine ⟨?_, ?_⟩
  · show appK false _ a x = 0
    unfold appK
    rw [chk_t h, getK_1]
    simp only
    rw [if_neg (by decide), if_neg (by omega)]
  · show appL _ a x = _
    unfold appL
    rw [getK_1]
    simp [updK]
theorem app_two {a c d x : ByteArray} {n : Int} (hne : a ≠ c) (h : nameB c = true) (hx : x.size ≤ 1048576) : opK false [(a, d, n)] 1 c x 0 = 0 ∧ opL [(a, d, n)] 1 c x 0 = [(a, d, n), (c, x, 0)] := by
  refine ⟨?_, ?_⟩
  · show appK false _ c x = 0
    unfold appK
    rw [chk_t h, getK_n hne]
    simp only [List.length_cons, List.length_nil]
    rw [if_neg (by decide), if_neg (by decide), if_neg (by omega)]
  · show appL _ c x = _
    unfold appL
    rw [getK_n hne, nil_app]; rfl
theorem app_bad {C : List Tri} {c x : ByteArray} (h : nameB c = false) : opK false C 1 c x 0 = 61 := by
  show appK false _ c x = 61
  unfold appK
  rw [chk_f h, if_pos (by decide)]
theorem syn_one {a d x : ByteArray} {n m : Int} (h : nameB a = true) : opK false [(a, d, n)] 2 a x m = 0 ∧ opL [(a, d, n)] 2 a x m = [(a, d, (d.size : Int))] := by
  refine ⟨?_, ?_⟩
  · show hasK false _ [a] a = 0
    unfold hasK
    rw [chk_t h, getK_1]; simp
  · show List.map _ _ = _
    simp [updK]
theorem ren_same {a d : ByteArray} {n m : Int} (h : nameB a = true) : opK false [(a, d, n)] 4 a a m = 0 ∧ opL [(a, d, n)] 4 a a m = [(a, d, n)] := by
  refine ⟨?_, ?_⟩
  · show hasK false _ [a, a] a = 0
    unfold hasK
    rw [chk_tt h h, getK_1]; simp
  · show renL _ a a = _
    unfold renL dropK
    rw [getK_1]
    simp [putL, getK]
theorem ren_two {a c d d' : ByteArray} {n n' m : Int} (hne : a ≠ c) (h : nameB a = true) (h2 : nameB c = true) : opK false [(a, d, n), (c, d', n')] 4 a c m = 0 ∧ opL [(a, d, n), (c, d', n')] 4 a c m = [(c, d, n)] := by
  have g : getK [(a, d, n), (c, d', n')] a = some (a, d, n) := by simp [getK]
  refine ⟨?_, ?_⟩
  · show hasK false _ [a, c] a = 0
    unfold hasK
    rw [chk_tt h h2, g]; simp
  · show renL _ a c = _
    unfold renL dropK
    rw [g]
    simp [putL, getK, updK, hne]
theorem ren_bad {C : List Tri} {a c : ByteArray} {m : Int} (h : nameB a = true) (h2 : nameB c = false) : opK false C 4 a c m = 61 := by
  show hasK false _ [a, c] a = 61
  unfold hasK
  rw [chk_tf h h2, if_pos (by decide)]
theorem del_one {a d x : ByteArray} {n m : Int} (h : nameB a = true) : opK false [(a, d, n)] 5 a x m = 0 ∧ opL [(a, d, n)] 5 a x m = [] := by
  refine ⟨?_, ?_⟩
  · show hasK false _ [a] a = 0
    unfold hasK
    rw [chk_t h, getK_1]; simp
  · show dropK _ a = _
    simp [dropK]
theorem del_none {a x : ByteArray} {m : Int} (h : nameB a = true) : opK false [] 5 a x m = 62 := by
  rw [show opK false [] 5 a x m = hasK false [] [a] a from rfl]
  unfold hasK
  rw [chk_t h, getK_0]; simp
theorem read_one {a d : ByteArray} {n : Int} (h : nameB a = true) : readK false [(a, d, n)] a = (d, 0) := by
  unfold readK
  rw [chk_t h, getK_1]; simp
theorem read_none {a : ByteArray} (h : nameB a = true) : readK false [] a = (bts [], 62) := by
  unfold readK
  rw [chk_t h, getK_0]; simp
theorem safe_one (a d : ByteArray) (n : Int) : safeK [(a, d, n)] a = n := by
  unfold safeK
  rw [getK_1]
theorem lose_0 (a d y : ByteArray) : [(a, d ++ y, (d.size : Int))].map (loseK 0) = [(a, d, (d.size : Int))] := by
  have : loseK 0 (a, d ++ y, (d.size : Int)) = (a, d, (d.size : Int)) := by
    unfold loseK keptF
    simp only
    rw [if_neg (by decide), Int.toNat_natCast, app_first]
  rw [List.map_cons, this]; rfl
noncomputable def nmT : RC := r_w06_FilesNames.body.snd.snd.snd.snd.snd.snd.snd.snd.snd
section
variable {s t : St} {n b : Nat} {D : Dsk} {ar : Bool} {left keep steps : Int}
/-- The names of a disk with one file, and their comparison. -/
theorem names_one (h : WD s n b D t) {a : ByteArray} (hc : (con D).map (·.1) = [a]) : RunD T f_files_Disk_Names [.ptr b 0] t (.sl t.length 0 1 1 none) (t ++ [.cells true [.str a]]) ∧ WD s n b D (t ++ [.cells true [.str a]]) ∧
    RunD T f_w06_names [.sl t.length 0 1 1 none, .sl (t ++ [Blk.cells true [.str a]]).length 0 1 1 (some 1)] (t ++ [.cells true [.str a]] ++ [.cells true [.str a]]) (.bool true) (t ++ [.cells true [.str a]] ++ [.cells true [.str a]]) ∧
    WD s n b D (t ++ [.cells true [.str a]] ++ [.cells true [.str a]]) := by
  refine ⟨names_w h [a] (by rw [hc]) (by simp [Ris]) _ _ (.inr ⟨by simp, rfl, by simp [cS]⟩), h.app _, ?_, (h.app _).app _⟩
  have rd : Rd 1 cS (t ++ [.cells true [.str a]]) (.sl t.length 0 1 1 none) [a] := rd_lit (by rw [get_last]; rfl) cS_len rfl
  have := names06_r (T := T) (t ++ [.cells true [.str a]] ++ [.cells true [.str a]]) _ (.sl (t ++ [Blk.cells true [.str a]]).length 0 1 1 (some 1)) [a] [a] (by simp) (by simp) (rd.ext ⟨_, rfl⟩) (rd_lit (l := [a]) (by rw [get_last]; rfl) cS_len rfl)
  rw [dec_t rfl] at this
  exact this
theorem names_none (h : WD s n b D t) (hc : con D = []) : RunD T f_files_Disk_Names [.ptr b 0] t .nils t :=
  names_w h [] (by rw [hc]; rfl) (by simp [Ris]) _ _ (.inl ⟨rfl, rfl, rfl⟩)
theorem eq_s (x : ByteArray) : eqA .s (.str x) (.str x) = some true := by rw [eq_S, dec_t rfl]
set_option maxHeartbeats 4000000 in
theorem nmT_r (h : WD s n b D t) {a c data y : ByteArray} {C : List Tri} {k : Int} (V : Vw D false false left keep steps C) (hr : opK false C 4 a c 0 = 0) (hl : opL C 4 a c 0 = [(c, data ++ y, (data.size : Int))]) (hc : nameB c = true) (ha : a.size < 140737488355328) (hcs : c.size < 140737488355328)
    {e : Env} (g0 : e.get 0 = .str a) (g1 : e.get 1 = .str c) (g2 : e.get 2 = .str data) (g7 : e.get 7 = .ptr b 0) (g8 : e.get 8 = .str (data ++ y)) : awp (Run T) nmT (endK [.tmp 6] s fun r _ => r = .bool true) e t := by
  have z0 : ((0 : Int) == 0) = true := rfl
  have z62 : ((62 : Int) == 62) = true := rfl
  have zs : ((data.size : Int) == (data.size : Int)) = true := by simp
  have hf : fillA (List.replicate 1 [AV.str (bts [])]).flatten [(0, 1, .str c)] = some [.str c] := rfl
  have qw := eq_s (data ++ y)
  have qd := eq_s data
  simp only [nmT, RC.snd, r_w06_FilesNames, XX, CC, YY, Nat.reduceAdd, Nat.reduceSub, Nat.reduceLeDiff, Nat.reduceLT, Nat.reduceEqDiff, reduceIte, ↓reduceIte, Nat.reduceBEq, g0, g1, g7]
  refine Run.mono _ _ _ _ _ ?_ (op_w4 h a c 0 0 ha hcs)
  rintro v t1 ⟨rfl, w1, _⟩
  obtain ⟨c1, V1⟩ := V.done hr (.inl rfl) 0
  rw [hl] at V1
  rw [c1]
  clear h V hr hl
  generalize opV D 4 a c 0 0 = D1 at *
  simp only [XX, CC, YY, Nat.reduceAdd, Nat.reduceSub, Nat.reduceLeDiff, Nat.reduceLT, Nat.reduceEqDiff, reduceIte, ↓reduceIte, Nat.reduceBEq, z0, g1, g7, Bool.not_true]
  have s1 := V1.safe c
  rw [safe_one] at s1
  refine (safe_w w1 c).use ?_
  rw [s1]
  simp only [XX, CC, YY, Nat.reduceAdd, Nat.reduceSub, Nat.reduceLeDiff, Nat.reduceLT, Nat.reduceEqDiff, reduceIte, ↓reduceIte, Nat.reduceBEq, g1, g2, g7, zs, Bool.not_true]
  obtain ⟨n1, w2, n2, w3⟩ := names_one w1 (a := c) (by rw [V1.con]; rfl)
  refine n1.use ?_
  generalize t1 ++ [Blk.cells true [AV.str c]] = t2 at *
  (try simp only [XX, CC, YY, Nat.reduceAdd, Nat.reduceSub, Nat.reduceLeDiff, Nat.reduceLT, Nat.reduceEqDiff, reduceIte, ↓reduceIte, Nat.reduceBEq, g1, hf])
  refine n2.use ?_
  generalize t2 ++ [Blk.cells true [AV.str c]] = t3 at *
  simp only [XX, CC, YY, Nat.reduceAdd, Nat.reduceSub, Nat.reduceLeDiff, Nat.reduceLT, Nat.reduceEqDiff, reduceIte, ↓reduceIte, Nat.reduceBEq, g1, g7, Bool.not_true]
  have r3 := V1.read c
  rw [read_one hc] at r3
  refine (read_w w3 c hcs).use ?_
  rw [r3]
  simp only [XX, CC, YY, Nat.reduceAdd, Nat.reduceSub, Nat.reduceLeDiff, Nat.reduceLT, Nat.reduceEqDiff, reduceIte, ↓reduceIte, Nat.reduceBEq, z0, g8, qw, g7, Bool.not_true]
  refine Run.mono _ _ _ _ _ ?_ (off_w w3 0)
  rintro v t4 ⟨rfl, w4, _⟩
  have V4 := V1.off 0
  rw [lose_0] at V4
  clear w1 w2 w3 V1 r3 s1 n1 n2
  generalize offV D1 0 = D4 at *
  (try simp only [XX, CC, YY, Nat.reduceAdd, Nat.reduceSub, Nat.reduceLeDiff, Nat.reduceLT, Nat.reduceEqDiff, reduceIte, ↓reduceIte, Nat.reduceBEq, g7])
  refine Run.mono _ _ _ _ _ ?_ (on_w w4)
  rintro v t5 ⟨rfl, w5, _⟩
  have V5 := V4.on
  clear w4 V4
  generalize onD D4 = D5 at *
  have r5 := V5.read c
  rw [read_one hc] at r5
  simp only [XX, CC, YY, Nat.reduceAdd, Nat.reduceSub, Nat.reduceLeDiff, Nat.reduceLT, Nat.reduceEqDiff, reduceIte, ↓reduceIte, Nat.reduceBEq, g1, g7]
  refine (read_w w5 c hcs).use ?_
  rw [r5]
  simp only [XX, CC, YY, Nat.reduceAdd, Nat.reduceSub, Nat.reduceLeDiff, Nat.reduceLT, Nat.reduceEqDiff, reduceIte, ↓reduceIte, Nat.reduceBEq, z0, g2, g7, qd, Bool.not_true]
  obtain ⟨n1, w6, n2, w7⟩ := names_one w5 (a := c) (by rw [V5.con]; rfl)
  refine n1.use ?_
  generalize t5 ++ [Blk.cells true [AV.str c]] = t6 at *
  (try simp only [XX, CC, YY, Nat.reduceAdd, Nat.reduceSub, Nat.reduceLeDiff, Nat.reduceLT, Nat.reduceEqDiff, reduceIte, ↓reduceIte, Nat.reduceBEq, g1, hf])
  refine n2.use ?_
  generalize t6 ++ [Blk.cells true [AV.str c]] = t7 at *
  simp only [XX, CC, YY, Nat.reduceAdd, Nat.reduceSub, Nat.reduceLeDiff, Nat.reduceLT, Nat.reduceEqDiff, reduceIte, ↓reduceIte, Nat.reduceBEq, g1, g7, Bool.not_true]
  refine Run.mono _ _ _ _ _ ?_ (op_w5 w7 (k := 5) (by decide) c (bts []) 0 0 hcs)
  rintro v t8 ⟨rfl, w8, _⟩
  obtain ⟨hd1, hd2⟩ := del_one (x := bts []) (n := (data.size : Int)) (m := 0) (d := data) hc
  obtain ⟨c8, V8⟩ := V5.done hd1 (.inl rfl) 0
  rw [hd2] at V8
  rw [c8]
  clear w5 w6 w7 V5 r5 n1 n2
  generalize opV D5 5 c (bts []) 0 0 = D8 at *
  simp only [XX, CC, YY, Nat.reduceAdd, Nat.reduceSub, Nat.reduceLeDiff, Nat.reduceLT, Nat.reduceEqDiff, reduceIte, ↓reduceIte, Nat.reduceBEq, z0, g1, g7, Bool.not_true]
  refine Run.mono _ _ _ _ _ ?_ (op_w5 w8 (k := 5) (by decide) c (bts []) 0 0 hcs)
  rintro v t9 ⟨rfl, w9, _⟩
  obtain ⟨c9, c9'⟩ := V8.bad (del_none (x := bts []) (m := 0) hc) (by decide) 0
  rw [c9]
  rw [c9'] at w9
  simp only [XX, CC, YY, Nat.reduceAdd, Nat.reduceSub, Nat.reduceLeDiff, Nat.reduceLT, Nat.reduceEqDiff, reduceIte, ↓reduceIte, Nat.reduceBEq, z62, g7, Bool.not_true]
  refine Run.mono _ _ _ _ _ ?_ (off_w w9 9)
  rintro v t10 ⟨rfl, w10, _⟩
  have V10 := V8.off 9
  rw [List.map_nil] at V10
  clear w8 w9 V8
  generalize offV D8 9 = D10 at *
  (try simp only [XX, CC, YY, Nat.reduceAdd, Nat.reduceSub, Nat.reduceLeDiff, Nat.reduceLT, Nat.reduceEqDiff, reduceIte, ↓reduceIte, Nat.reduceBEq, g7])
  refine Run.mono _ _ _ _ _ ?_ (on_w w10)
  rintro v t11 ⟨rfl, w11, _⟩
  have V11 := V10.on
  clear w10 V10
  generalize onD D10 = D11 at *
  have r11 := V11.read c
  rw [read_none hc] at r11
  simp only [XX, CC, YY, Nat.reduceAdd, Nat.reduceSub, Nat.reduceLeDiff, Nat.reduceLT, Nat.reduceEqDiff, reduceIte, ↓reduceIte, Nat.reduceBEq, g1, g7]
  refine (read_w w11 c hcs).use ?_
  rw [r11]
  simp only [XX, CC, YY, Nat.reduceAdd, Nat.reduceSub, Nat.reduceLeDiff, Nat.reduceLT, Nat.reduceEqDiff, reduceIte, ↓reduceIte, Nat.reduceBEq, z62, g7]
  refine (names_none w11 V11.con).use ?_
  simp only [XX, CC, YY, Nat.reduceAdd, Nat.reduceSub, Nat.reduceLeDiff, Nat.reduceLT, Nat.reduceEqDiff, reduceIte, ↓reduceIte, Nat.reduceBEq, show lenlA .nils = some (.int .i64 0) from rfl, z0]
  exact .inl rfl
end
set_option maxHeartbeats 4000000 in
theorem names_run (s : St) (a c data : ByteArray) (ha : a.size < 140737488355328) (hc : c.size < 140737488355328) (hd : data.size < 140737488355328) :
    Run T f_w06_FilesNames [.str a, .str c, .str data] s fun r _ => r = .bool true := by
  refine run_body (F := r_w06_FilesNames) (has rfl) (by simp [r_w06_FilesNames]) ?_
  have htail := @nmT_r s
  obtain ⟨TAIL, hT⟩ : ∃ c, c = nmT := ⟨_, rfl⟩
  obtain ⟨B, hB⟩ : ∃ c, c = r_w06_FilesNames.body := ⟨_, rfl⟩
  have hbody : r_w06_FilesNames.body = .seq B.fst (.seq B.snd.fst (.seq B.snd.snd.fst (.seq B.snd.snd.snd.fst (.seq B.snd.snd.snd.snd.fst (.seq B.snd.snd.snd.snd.snd.fst (.seq B.snd.snd.snd.snd.snd.snd.fst (.seq B.snd.snd.snd.snd.snd.snd.snd.fst (.seq B.snd.snd.snd.snd.snd.snd.snd.snd.fst TAIL)))))))) := by rw [hB, hT]; rfl
  rw [← hT] at htail
  rw [hbody, hB]
  clear hT hbody hB
  have z0 : ((0 : Int) == 0) = true := rfl
  have z61 : ((61 : Int) == 61) = true := rfl
  have z061 : ((0 : Int) == 61) = false := rfl
  have z610 : ((61 : Int) == 0) = false := rfl
  have hz4 : (bts [116, 97, 105, 108]).size < 140737488355328 := of_decide_eq_true (by kernel_rfl)
  have hz5 : (bts [111, 116, 104, 101, 114]).size < 140737488355328 := of_decide_eq_true (by kernel_rfl)
  have e4 : (bts [116, 97, 105, 108]).size = 4 := rfl
  have e5 : (bts [111, 116, 104, 101, 114]).size = 5 := rfl
  obtain ⟨TL, hTL⟩ : ∃ x, bts [116, 97, 105, 108] = x := ⟨_, rfl⟩
  obtain ⟨OT, hOT⟩ : ∃ x, bts [111, 116, 104, 101, 114] = x := ⟨_, rfl⟩
  rw [hTL] at hz4 e4
  rw [hOT] at hz5 e5
  simp only [r_w06_FilesNames, RC.fst, RC.snd, XX, CC, YY, Nat.reduceAdd, Nat.reduceSub, Nat.reduceLeDiff, Nat.reduceLT, Nat.reduceEqDiff, reduceIte, ↓reduceIte, Nat.reduceBEq, hTL, hOT]
  refine (awake06_r s).use ?_
  have em : (data.size : Int) > 65536 ∨ ¬ (data.size : Int) > 65536 := Classical.em _
  rcases em with cd | cd
  · simp only [XX, CC, YY, Nat.reduceAdd, Nat.reduceSub, Nat.reduceLeDiff, Nat.reduceLT, Nat.reduceEqDiff, reduceIte, ↓reduceIte, Nat.reduceBEq, Bool.not_true, dec_t cd]
    refine (awake06_r s).use ?_
    (try simp only [XX, CC, YY, Nat.reduceAdd, Nat.reduceSub, Nat.reduceLeDiff, Nat.reduceLT, Nat.reduceEqDiff, reduceIte, ↓reduceIte, Nat.reduceBEq])
    exact .inl rfl
  simp only [XX, CC, YY, Nat.reduceAdd, Nat.reduceSub, Nat.reduceLeDiff, Nat.reduceLT, Nat.reduceEqDiff, reduceIte, ↓reduceIte, Nat.reduceBEq, Bool.not_true, dec_f cd]
  refine Run.mono _ _ _ _ _ ?_ (new_r s)
  rintro v t1 ⟨rfl, rfl⟩
  have w := new_w s s (Ext.refl s)
  have V := newD_Vw s.length
  generalize s ++ [Blk.map [] 0, .cells true (cD (newD s.length))] = t at *
  generalize newD s.length = D at *
  generalize s.length + 1 = b at *
  (try simp only [XX, CC, YY, Nat.reduceAdd, Nat.reduceSub, Nat.reduceLeDiff, Nat.reduceLT, Nat.reduceEqDiff, reduceIte, ↓reduceIte, Nat.reduceBEq])
  refine Run.mono _ _ _ _ _ ?_ (op_w1 w a data ha hd)
  rintro v t1 ⟨rfl, w1, _⟩
  cases na : nameB a with
  | false =>
    obtain ⟨c1, c1'⟩ := V.bad (app_bad (x := data) na) (by decide) t.length
    rw [c1]
    rw [c1'] at w1
    simp only [XX, CC, YY, Nat.reduceAdd, Nat.reduceSub, Nat.reduceLeDiff, Nat.reduceLT, Nat.reduceEqDiff, reduceIte, ↓reduceIte, Nat.reduceBEq, z610, Bool.not_false]
    refine Run.mono _ _ _ _ _ ?_ (op_w1 w1 a data ha hd)
    rintro v t2 ⟨rfl, w2, _⟩
    obtain ⟨c2, c2'⟩ := V.bad (app_bad (x := data) na) (by decide) t1.length
    rw [c2]
    rw [c2'] at w2
    simp only [XX, CC, YY, Nat.reduceAdd, Nat.reduceSub, Nat.reduceLeDiff, Nat.reduceLT, Nat.reduceEqDiff, reduceIte, ↓reduceIte, Nat.reduceBEq, z61]
    refine (names_none w2 V.con).use ?_
    simp only [XX, CC, YY, Nat.reduceAdd, Nat.reduceSub, Nat.reduceLeDiff, Nat.reduceLT, Nat.reduceEqDiff, reduceIte, ↓reduceIte, Nat.reduceBEq, show lenlA .nils = some (.int .i64 0) from rfl, z0]
    exact .inl rfl
  | true =>
    obtain ⟨o1, o2⟩ := app_new (a := a) (x := data) na (by omega)
    obtain ⟨c1, V1⟩ := V.done o1 (.inl rfl) t.length
    rw [o2] at V1
    rw [c1]
    clear w V o1 o2
    generalize opV D 1 a data 0 t.length = D1 at *
    simp only [XX, CC, YY, Nat.reduceAdd, Nat.reduceSub, Nat.reduceLeDiff, Nat.reduceLT, Nat.reduceEqDiff, reduceIte, ↓reduceIte, Nat.reduceBEq, z0, Bool.not_true]
    refine Run.mono _ _ _ _ _ ?_ (op_w2 w1 a (bts []) 0 0 ha)
    rintro v t2 ⟨rfl, w2, _⟩
    obtain ⟨o1, o2⟩ := syn_one (a := a) (d := data) (x := bts []) (n := 0) (m := 0) na
    obtain ⟨c2, V2⟩ := V1.done o1 (.inl rfl) 0
    rw [o2] at V2
    rw [c2]
    clear w1 V1 o1 o2
    generalize opV D1 2 a (bts []) 0 0 = D2 at *
    (try simp only [XX, CC, YY, Nat.reduceAdd, Nat.reduceSub, Nat.reduceLeDiff, Nat.reduceLT, Nat.reduceEqDiff, reduceIte, ↓reduceIte, Nat.reduceBEq])
    refine Run.mono _ _ _ _ _ ?_ (op_w1 w2 a TL ha hz4)
    rintro v t3 ⟨rfl, w3, _⟩
    obtain ⟨o1, o2⟩ := app_one (a := a) (d := data) (x := TL) (n := data.size) na (by omega)
    obtain ⟨c3, V3⟩ := V2.done o1 (.inl rfl) t2.length
    rw [o2] at V3
    rw [c3]
    clear w2 V2 o1 o2
    generalize opV D2 1 a TL 0 t2.length = D3 at *
    (try simp only [XX, CC, YY, Nat.reduceAdd, Nat.reduceSub, Nat.reduceLeDiff, Nat.reduceLT, Nat.reduceEqDiff, reduceIte, ↓reduceIte, Nat.reduceBEq])
    refine Run.mono _ _ _ _ _ ?_ (op_w1 w3 c OT hc hz5)
    rintro v t4 ⟨rfl, w4, _⟩
    have hadd := add_s (a := data) (b := TL) (by omega)
    cases nc : nameB c with
    | false =>
      obtain ⟨c4, c4'⟩ := V3.bad (app_bad (x := OT) nc) (by decide) t3.length
      rw [c4]
      rw [c4'] at w4
      simp only [XX, CC, YY, Nat.reduceAdd, Nat.reduceSub, Nat.reduceLeDiff, Nat.reduceLT, Nat.reduceEqDiff, reduceIte, ↓reduceIte, Nat.reduceBEq, z61]
      refine Run.mono _ _ _ _ _ ?_ (op_w4 w4 a c 0 0 ha hc)
      rintro v t5 ⟨rfl, w5, _⟩
      obtain ⟨c5, c5'⟩ := V3.bad (ren_bad (m := 0) na nc) (by decide) 0
      rw [c5]
      rw [c5'] at w5
      simp only [XX, CC, YY, Nat.reduceAdd, Nat.reduceSub, Nat.reduceLeDiff, Nat.reduceLT, Nat.reduceEqDiff, reduceIte, ↓reduceIte, Nat.reduceBEq, z61]
      obtain ⟨n1, w6, n2, w7⟩ := names_one w5 (a := a) (by rw [V3.con]; rfl)
      refine n1.use ?_
      generalize t5 ++ [Blk.cells true [AV.str a]] = t6 at *
      have hf : fillA (List.replicate 1 [AV.str (bts [])]).flatten [(0, 1, .str a)] = some [.str a] := rfl
      (try simp only [XX, CC, YY, Nat.reduceAdd, Nat.reduceSub, Nat.reduceLeDiff, Nat.reduceLT, Nat.reduceEqDiff, reduceIte, ↓reduceIte, Nat.reduceBEq, hf])
      refine n2.use ?_
      (try simp only [XX, CC, YY, Nat.reduceAdd, Nat.reduceSub, Nat.reduceLeDiff, Nat.reduceLT, Nat.reduceEqDiff, reduceIte, ↓reduceIte, Nat.reduceBEq])
      exact .inl rfl
    | true =>
      have em2 : a = c ∨ ¬ a = c := Classical.em _
      rcases em2 with cc | cc
      · subst cc
        obtain ⟨o1, o2⟩ := app_one (a := a) (d := data ++ TL) (x := OT) (n := data.size) na (by rw [app_size]; omega)
        obtain ⟨c4, V4⟩ := V3.done o1 (.inl rfl) t3.length
        rw [o2] at V4
        rw [c4]
        generalize opV D3 1 a OT 0 t3.length = D4 at *
        have hadd2 := add_s (a := data ++ TL) (b := OT) (by rw [app_size]; omega)
        simp only [XX, CC, YY, Nat.reduceAdd, Nat.reduceSub, Nat.reduceLeDiff, Nat.reduceLT, Nat.reduceEqDiff, reduceIte, ↓reduceIte, Nat.reduceBEq, z061, hadd, eq_s a, hadd2]
        obtain ⟨o3, o4⟩ := ren_same (a := a) (d := data ++ TL ++ OT) (n := data.size) (m := 0) na
        rw [ByteArray.append_assoc] at o3 o4 V4 ⊢
        exact htail (k := 0) w4 V4 o3 o4 na ha ha (by simp only [XX, CC, YY, Nat.reduceAdd, Nat.reduceSub, Nat.reduceLeDiff, Nat.reduceLT, Nat.reduceEqDiff, reduceIte, ↓reduceIte, Nat.reduceBEq]) (by simp only [XX, CC, YY, Nat.reduceAdd, Nat.reduceSub, Nat.reduceLeDiff, Nat.reduceLT, Nat.reduceEqDiff, reduceIte, ↓reduceIte, Nat.reduceBEq]) (by simp only [XX, CC, YY, Nat.reduceAdd, Nat.reduceSub, Nat.reduceLeDiff, Nat.reduceLT, Nat.reduceEqDiff, reduceIte, ↓reduceIte, Nat.reduceBEq]) (by simp only [XX, CC, YY, Nat.reduceAdd, Nat.reduceSub, Nat.reduceLeDiff, Nat.reduceLT, Nat.reduceEqDiff, reduceIte, ↓reduceIte, Nat.reduceBEq]) (by simp only [XX, CC, YY, Nat.reduceAdd, Nat.reduceSub, Nat.reduceLeDiff, Nat.reduceLT, Nat.reduceEqDiff, reduceIte, ↓reduceIte, Nat.reduceBEq])
      · obtain ⟨o1, o2⟩ := app_two (a := a) (c := c) (d := data ++ TL) (x := OT) (n := data.size) cc nc (by omega)
        obtain ⟨c4, V4⟩ := V3.done o1 (.inl rfl) t3.length
        rw [o2] at V4
        rw [c4]
        generalize opV D3 1 c OT 0 t3.length = D4 at *
        have qac : eqA .s (.str a) (.str c) = some false := by rw [eq_S, dec_f cc]
        simp only [XX, CC, YY, Nat.reduceAdd, Nat.reduceSub, Nat.reduceLeDiff, Nat.reduceLT, Nat.reduceEqDiff, reduceIte, ↓reduceIte, Nat.reduceBEq, z061, hadd, qac]
        obtain ⟨o3, o4⟩ := ren_two (d := data ++ TL) (n := data.size) (d' := OT) (n' := 0) (m := 0) cc na nc
        exact htail (k := 0) w4 V4 o3 o4 nc ha hc (by simp only [XX, CC, YY, Nat.reduceAdd, Nat.reduceSub, Nat.reduceLeDiff, Nat.reduceLT, Nat.reduceEqDiff, reduceIte, ↓reduceIte, Nat.reduceBEq]) (by simp only [XX, CC, YY, Nat.reduceAdd, Nat.reduceSub, Nat.reduceLeDiff, Nat.reduceLT, Nat.reduceEqDiff, reduceIte, ↓reduceIte, Nat.reduceBEq]) (by simp only [XX, CC, YY, Nat.reduceAdd, Nat.reduceSub, Nat.reduceLeDiff, Nat.reduceLT, Nat.reduceEqDiff, reduceIte, ↓reduceIte, Nat.reduceBEq]) (by simp only [XX, CC, YY, Nat.reduceAdd, Nat.reduceSub, Nat.reduceLeDiff, Nat.reduceLT, Nat.reduceEqDiff, reduceIte, ↓reduceIte, Nat.reduceBEq]) (by simp only [XX, CC, YY, Nat.reduceAdd, Nat.reduceSub, Nat.reduceLeDiff, Nat.reduceLT, Nat.reduceEqDiff, reduceIte, ↓reduceIte, Nat.reduceBEq])
end Go.Ev

/-! FilesKeep: its run. -/
namespace Go.Ev
set_option linter.unusedVariables false
set_option linter.unusedSimpArgs false
open Go.Ev.So Go.Proofs

/-- A piece: bytes, and whether a Sync follows. -/
def cPc (q : ByteArray × Bool) : List AV := [.str q.1, .bool q.2]
theorem cPc_len (q : ByteArray × Bool) : (cPc q).length = 2 := id rfl
theorem rdPc {t : St} {v : AV} {l : List (ByteArray × Bool)} (hv : Rd 2 cPc t v l) {i : Nat} {q : ByteArray × Bool} (hi : l[i]? = some q) :
    ∃ b o, (∀ k : IntKind, ixaA 2 v (.int k (i : Int)) = some (.ptr b o)) ∧ ldA t none (.ptr b o) = some (.str q.1) ∧ ldA t none (.ptr b (o + 1)) = some (.bool q.2) := by
  obtain ⟨b, o, h1, h2⟩ := hv.get cPc_len hi
  exact ⟨b, o, h1, h2 none 0 (.str q.1) rfl, h2 none 1 (.bool q.2) rfl⟩
noncomputable def kpL : RC := r_w06_FilesKeep.body.snd.snd.snd.snd.snd.fst.snd.inn.inn
noncomputable def kpE : RC := r_w06_FilesKeep.body.snd.snd.snd.snd.snd.snd
noncomputable def kpB : RC := kpL.snd.fst.inn
noncomputable def kpT : RC := kpB.snd.snd.snd.snd
theorem fLog_nm : nameB fLog = true := by kernel_rfl
theorem fLog_sz : fLog.size < 140737488355328 := of_decide_eq_true (by kernel_rfl)
/-- What the disk holds behind i pieces. -/
def KS (i : Nat) (all : ByteArray) (safe : Int) (C : List Tri) : Prop := (i = 0 ∧ C = [] ∧ all = bts [] ∧ safe = 0) ∨ (0 < i ∧ C = [(fLog, all, safe)])
theorem KS.app {i : Nat} {all : ByteArray} {safe : Int} {C : List Tri} (h : KS i all safe C) {x : ByteArray} (hx : all.size + x.size ≤ 1048576) : opK false C 1 fLog x 0 = 0 ∧ opL C 1 fLog x 0 = [(fLog, all ++ x, safe)] := by
  rcases h with ⟨_, rfl, rfl, rfl⟩ | ⟨_, rfl⟩
  · have := app_new (a := fLog) (x := x) fLog_nm (by omega)
    rw [nil_app]; exact this
  · exact app_one fLog_nm hx
structure KI (s : St) (n b : Nat) (v0 : AV) (keep : Int) (i : Nat) (e : Env) (t : St) (D : Dsk) (all : ByteArray) (safe : Int) : Prop where
  w : WD s n b D t
  v : ∃ C left kp steps, Vw D false false left kp steps C ∧ KS i all safe C
  sz : all.size ≤ 1048576
  g0 : e.get 0 = v0
  g1 : e.get 1 = .int .i64 keep
  g5 : e.get 5 = .ptr b 0
  g6 : e.get 6 = .str all
  g7 : e.get 7 = .int .i64 safe
  g8 : e.get 8 = .int .i64 (i : Int)
section
variable {s t : St} {n b : Nat} {D : Dsk} {left kp steps : Int}
set_option maxHeartbeats 1000000 in
theorem kpT_r (w : WD s n b D t) {all : ByteArray} {safe : Int} (V : Vw D false false left kp steps [(fLog, all, safe)]) {e : Env} (g5 : e.get 5 = .ptr b 0) (g6 : e.get 6 = .str all) (g7 : e.get 7 = .int .i64 safe) {Q : XE → Env → St → Prop}
    (hq : ∀ e', e'.get 0 = e.get 0 → e'.get 1 = e.get 1 → e'.get 5 = e.get 5 → e'.get 6 = e.get 6 → e'.get 7 = e.get 7 → e'.get 8 = e.get 8 → Q .nrm e' t) : awp (Run T) kpT Q e t := by
  have e1 : bts [108, 111, 103] = fLog := rfl
  have z0 : ((0 : Int) == 0) = true := rfl
  have r1 := V.read fLog
  rw [read_one fLog_nm] at r1
  have s1 := V.safe fLog
  rw [safe_one] at s1
  have qa := eq_s all
  have qs : (safe == safe) = true := by simp
  simp only [kpT, kpB, kpL, RC.snd, RC.fst, RC.inn, r_w06_FilesKeep, XX, CC, YY, Nat.reduceAdd, Nat.reduceSub, Nat.reduceLeDiff, Nat.reduceLT, Nat.reduceEqDiff, reduceIte, ↓reduceIte, Nat.reduceBEq, g5, e1]
  refine (read_w w fLog fLog_sz).use ?_
  rw [r1]
  simp only [XX, CC, YY, Nat.reduceAdd, Nat.reduceSub, Nat.reduceLeDiff, Nat.reduceLT, Nat.reduceEqDiff, reduceIte, ↓reduceIte, Nat.reduceBEq, z0, g6, g5, qa, Bool.not_true]
  refine (safe_w w fLog).use ?_
  rw [s1]
  simp only [XX, CC, YY, Nat.reduceAdd, Nat.reduceSub, Nat.reduceLeDiff, Nat.reduceLT, Nat.reduceEqDiff, reduceIte, ↓reduceIte, Nat.reduceBEq, g7, qs, Bool.not_true]
  refine hq _ ?_ ?_ ?_ ?_ ?_ ?_ <;> simp only [XX, CC, YY, Nat.reduceAdd, Nat.reduceSub, Nat.reduceLeDiff, Nat.reduceLT, Nat.reduceEqDiff, reduceIte, ↓reduceIte, Nat.reduceBEq]
set_option maxHeartbeats 4000000 in
theorem keep_round (s : St) (v0 : AV) (l : List (ByteArray × Bool)) (keep : Int) (hl : l.length ≤ 140737488351232) (hq : ∀ q ∈ l, q.1.size < 140737488355328) (hv : Rd 2 cPc s v0 l) (n b : Nat) (Q : XE → Env → St → Prop)
    (hret : ∀ e t, e.get 4 = .bool true → Q .ret e t)
    (hend : ∀ e t i D all safe, (l.length = 0 ∨ 0 < i) → (l.length = 0 → i = 0) → KI s n b v0 keep i e t D all safe → Q (.exit 0) e t)
    (J : Env → St → Prop) (d : Nat) (e : Env) (t : St) (hJ : ∀ d' e' t', d' < d → (∃ i D all safe, i + d' = l.length ∧ KI s n b v0 keep i e' t' D all safe) → J e' t')
    (i : Nat) (D : Dsk) (all : ByteArray) (safe : Int) (hid : i + d = l.length) (h : KI s n b v0 keep i e t D all safe) :
    awp (Run T) kpL (loopK J Q) e t := by
  obtain ⟨w, ⟨C, left, kp, steps, V, ks⟩, sz, g0, g1, g5, g6, g7, g8⟩ := id h
  have e1 : bts [108, 111, 103] = fLog := rfl
  have z0 : ((0 : Int) == 0) = true := rfl
  have lV : lenlA v0 = some (.int .i64 (l.length : Int)) := hv.len
  have hT2 := @kpT_r s
  obtain ⟨TEST, hT⟩ : ∃ c, c = kpT := ⟨_, rfl⟩
  have hbody : kpL = .seq kpL.fst (.seq (.block 1 (.seq kpB.fst (.seq kpB.snd.fst (.seq kpB.snd.snd.fst (.seq kpB.snd.snd.snd.fst TEST))))) kpL.snd.snd) := by rw [hT]; rfl
  rw [← hT] at hT2
  rw [hbody]
  clear hT hbody
  have em : i < l.length ∨ ¬ i < l.length := Classical.em _
  rcases em with c1 | c1
  rotate_left
  · simp only [kpB, kpL, RC.snd, RC.fst, RC.inn, r_w06_FilesKeep, XX, CC, YY, Nat.reduceAdd, Nat.reduceSub, Nat.reduceLeDiff, Nat.reduceLT, Nat.reduceEqDiff, reduceIte, ↓reduceIte, Nat.reduceBEq, g8, g0, lV, dec_f (show ¬ (i : Int) < (l.length : Int) by omega)]
    refine hend _ _ i D all safe (by omega) (by omega) ⟨w, ⟨C, left, kp, steps, V, ks⟩, sz, ?_, ?_, ?_, ?_, ?_, ?_⟩ <;> simp only [XX, CC, YY, Nat.reduceAdd, Nat.reduceSub, Nat.reduceLeDiff, Nat.reduceLT, Nat.reduceEqDiff, reduceIte, ↓reduceIte, Nat.reduceBEq, g0, g1, g5, g6, g7, g8]
  have em2 : i < 300 ∨ ¬ i < 300 := Classical.em _
  rcases em2 with c2 | c2
  rotate_left
  · simp only [kpB, kpL, RC.snd, RC.fst, RC.inn, r_w06_FilesKeep, XX, CC, YY, Nat.reduceAdd, Nat.reduceSub, Nat.reduceLeDiff, Nat.reduceLT, Nat.reduceEqDiff, reduceIte, ↓reduceIte, Nat.reduceBEq, g8, g0, lV, dec_t (show (i : Int) < (l.length : Int) by omega), dec_f (show ¬ (i : Int) < 300 by omega)]
    refine hend _ _ i D all safe (by omega) (by omega) ⟨w, ⟨C, left, kp, steps, V, ks⟩, sz, ?_, ?_, ?_, ?_, ?_, ?_⟩ <;> simp only [XX, CC, YY, Nat.reduceAdd, Nat.reduceSub, Nat.reduceLeDiff, Nat.reduceLT, Nat.reduceEqDiff, reduceIte, ↓reduceIte, Nat.reduceBEq, g0, g1, g5, g6, g7, g8]
  have d1 := dec_t (show (i : Int) < (l.length : Int) by omega)
  have d2 := dec_t (show (i : Int) < 300 by omega)
  have hp : l[i]? = some (l[i]'c1) := List.getElem?_eq_getElem _
  generalize l[i]'c1 = q at hp
  have hqs := hq q (List.mem_of_getElem? hp)
  obtain ⟨b0, o0, j1, j2, j3⟩ := rdPc hv hp
  have k2 := w.ext.ld j2
  have w1 : IntKind.i64.wrap (1048576 - (all.size : Int)) = 1048576 - (all.size : Int) := w64_in (by omega) (by omega)
  have w3 : IntKind.i64.wrap ((i : Int) + 1) = ((i + 1 : Nat) : Int) := w64_nat (by omega)
  have em3 : (q.1.size : Int) > 1048576 - (all.size : Int) ∨ ¬ (q.1.size : Int) > 1048576 - (all.size : Int) := Classical.em _
  rcases em3 with c3 | c3
  · simp only [kpB, kpL, RC.snd, RC.fst, RC.inn, r_w06_FilesKeep, XX, CC, YY, Nat.reduceAdd, Nat.reduceSub, Nat.reduceLeDiff, Nat.reduceLT, Nat.reduceEqDiff, reduceIte, ↓reduceIte, Nat.reduceBEq, g8, g0, lV, d1, d2, j1, Nat.add_zero, k2, g6, w1, dec_t c3]
    exact hret _ _ (by simp only [XX, CC, YY, Nat.reduceAdd, Nat.reduceSub, Nat.reduceLeDiff, Nat.reduceLT, Nat.reduceEqDiff, reduceIte, ↓reduceIte, Nat.reduceBEq])
  have hadd := add_s (a := all) (b := q.1) (by omega)
  simp only [kpB, kpL, RC.snd, RC.fst, RC.inn, r_w06_FilesKeep, XX, CC, YY, Nat.reduceAdd, Nat.reduceSub, Nat.reduceLeDiff, Nat.reduceLT, Nat.reduceEqDiff, reduceIte, ↓reduceIte, Nat.reduceBEq, g8, g0, lV, d1, d2, j1, Nat.add_zero, k2, g6, w1, dec_f c3, g5, e1]
  refine Run.mono _ _ _ _ _ ?_ (op_w1 w fLog q.1 fLog_sz hqs)
  rintro v t1 ⟨rfl, w2, _⟩
  obtain ⟨o1, o2⟩ := ks.app (x := q.1) (by omega)
  obtain ⟨c4, V2⟩ := V.done o1 (.inl rfl) t.length
  rw [o2] at V2
  rw [c4]
  generalize opV D 1 fLog q.1 0 t.length = D1 at *
  have k2' := w2.ext.ld j2
  have k3' := w2.ext.ld j3
  have hsz : (all ++ q.1).size ≤ 1048576 := by rw [app_size]; omega
  cases cq : q.2 with
  | false =>
    rw [cq] at k3'
    simp only [XX, CC, YY, Nat.reduceAdd, Nat.reduceSub, Nat.reduceLeDiff, Nat.reduceLT, Nat.reduceEqDiff, reduceIte, ↓reduceIte, Nat.reduceBEq, z0, g8, g0, j1, Nat.add_zero, k2', k3', g6, hadd, Bool.not_true]
    refine hT2 w2 V2 (by simp only [XX, CC, YY, Nat.reduceAdd, Nat.reduceSub, Nat.reduceLeDiff, Nat.reduceLT, Nat.reduceEqDiff, reduceIte, ↓reduceIte, Nat.reduceBEq, g5]) (by simp only [XX, CC, YY, Nat.reduceAdd, Nat.reduceSub, Nat.reduceLeDiff, Nat.reduceLT, Nat.reduceEqDiff, reduceIte, ↓reduceIte, Nat.reduceBEq]) (by simp only [XX, CC, YY, Nat.reduceAdd, Nat.reduceSub, Nat.reduceLeDiff, Nat.reduceLT, Nat.reduceEqDiff, reduceIte, ↓reduceIte, Nat.reduceBEq, g7]) fun e' h0 h1 h5 h6 h7 h8 => ?_
    simp only [XX, CC, YY, Nat.reduceAdd, Nat.reduceSub, Nat.reduceLeDiff, Nat.reduceLT, Nat.reduceEqDiff, reduceIte, ↓reduceIte, Nat.reduceBEq] at h0 h1 h5 h6 h7 h8
    simp only [XX, CC, YY, Nat.reduceAdd, Nat.reduceSub, Nat.reduceLeDiff, Nat.reduceLT, Nat.reduceEqDiff, reduceIte, ↓reduceIte, Nat.reduceBEq, h8, g8, w3]
    refine hJ (d - 1) _ _ (by omega) ⟨i + 1, D1, all ++ q.1, safe, by omega, ⟨w2, ⟨_, _, _, _, V2, .inr ⟨by omega, rfl⟩⟩, hsz, ?_, ?_, ?_, ?_, ?_, ?_⟩⟩ <;> simp only [XX, CC, YY, Nat.reduceAdd, Nat.reduceSub, Nat.reduceLeDiff, Nat.reduceLT, Nat.reduceEqDiff, reduceIte, ↓reduceIte, Nat.reduceBEq, h0, h1, h5, h6, h7, g0, g1, g5, g7]
  | true =>
    rw [cq] at k3'
    simp only [XX, CC, YY, Nat.reduceAdd, Nat.reduceSub, Nat.reduceLeDiff, Nat.reduceLT, Nat.reduceEqDiff, reduceIte, ↓reduceIte, Nat.reduceBEq, z0, g8, g0, g5, j1, Nat.add_zero, k2', k3', g6, hadd, Bool.not_true]
    refine Run.mono _ _ _ _ _ ?_ (op_w2 w2 fLog (bts []) 0 0 fLog_sz)
    rintro v t2 ⟨rfl, w4, _⟩
    obtain ⟨o3, o4⟩ := syn_one (a := fLog) (d := all ++ q.1) (x := bts []) (n := safe) (m := 0) fLog_nm
    obtain ⟨c5, V4⟩ := V2.done o3 (.inl rfl) 0
    rw [o4] at V4
    rw [c5]
    generalize opV D1 2 fLog (bts []) 0 0 = D2 at *
    simp only [XX, CC, YY, Nat.reduceAdd, Nat.reduceSub, Nat.reduceLeDiff, Nat.reduceLT, Nat.reduceEqDiff, reduceIte, ↓reduceIte, Nat.reduceBEq, z0, Bool.not_true]
    refine hT2 w4 V4 (by simp only [XX, CC, YY, Nat.reduceAdd, Nat.reduceSub, Nat.reduceLeDiff, Nat.reduceLT, Nat.reduceEqDiff, reduceIte, ↓reduceIte, Nat.reduceBEq, g5]) (by simp only [XX, CC, YY, Nat.reduceAdd, Nat.reduceSub, Nat.reduceLeDiff, Nat.reduceLT, Nat.reduceEqDiff, reduceIte, ↓reduceIte, Nat.reduceBEq]) (by simp only [XX, CC, YY, Nat.reduceAdd, Nat.reduceSub, Nat.reduceLeDiff, Nat.reduceLT, Nat.reduceEqDiff, reduceIte, ↓reduceIte, Nat.reduceBEq]) fun e' h0 h1 h5 h6 h7 h8 => ?_
    simp only [XX, CC, YY, Nat.reduceAdd, Nat.reduceSub, Nat.reduceLeDiff, Nat.reduceLT, Nat.reduceEqDiff, reduceIte, ↓reduceIte, Nat.reduceBEq] at h0 h1 h5 h6 h7 h8
    simp only [XX, CC, YY, Nat.reduceAdd, Nat.reduceSub, Nat.reduceLeDiff, Nat.reduceLT, Nat.reduceEqDiff, reduceIte, ↓reduceIte, Nat.reduceBEq, h8, g8, w3]
    refine hJ (d - 1) _ _ (by omega) ⟨i + 1, D2, all ++ q.1, ((all ++ q.1).size : Int), by omega, ⟨w4, ⟨_, _, _, _, V4, .inr ⟨by omega, rfl⟩⟩, hsz, ?_, ?_, ?_, ?_, ?_, ?_⟩⟩ <;> simp only [XX, CC, YY, Nat.reduceAdd, Nat.reduceSub, Nat.reduceLeDiff, Nat.reduceLT, Nat.reduceEqDiff, reduceIte, ↓reduceIte, Nat.reduceBEq, h0, h1, h5, h6, h7, g0, g1, g5]
theorem down_bad {C : List Tri} (a x : ByteArray) : opK true C 1 a x 0 = 60 ∧ opK true C 2 a x 0 = 60 := by
  refine ⟨?_, ?_⟩
  · show appK true C a x = 60
    unfold appK chkK; simp
  · show hasK true C [a] a = 60
    unfold hasK chkK; simp
set_option maxHeartbeats 4000000 in
theorem keep_tail (s : St) (v0 : AV) (l : List (ByteArray × Bool)) (keep : Int) (hv : Rd 2 cPc s v0 l) {e : Env} {i : Nat} {all : ByteArray} {safe : Int} (h1 : l.length = 0 ∨ 0 < i) (h2 : l.length = 0 → i = 0) (h : KI s n b v0 keep i e t D all safe) :
    awp (Run T) kpE (endK [.tmp 4] s fun r _ => r = .bool true) e t := by
  obtain ⟨w, ⟨C, left, kp, steps, V, ks⟩, sz, g0, g1, g5, g6, g7, g8⟩ := id h
  have e1 : bts [108, 111, 103] = fLog := rfl
  have z0 : ((0 : Int) == 0) = true := rfl
  have z60 : ((60 : Int) == 60) = true := rfl
  have z62 : ((62 : Int) == 62) = true := rfl
  have hx : (bts [120]).size < 140737488355328 := of_decide_eq_true (by kernel_rfl)
  have lV : lenlA v0 = some (.int .i64 (l.length : Int)) := hv.len
  have em : l.length = 0 ∨ ¬ l.length = 0 := Classical.em _
  rcases em with c | c
  · have hi := h2 c
    rcases ks with ⟨_, rfl, rfl, rfl⟩ | ⟨hc, _⟩
    rotate_left
    · omega
    have r1 := V.read fLog
    rw [read_none fLog_nm] at r1
    have zl : ((l.length : Int) == 0) = true := by simp [c]
    simp only [kpE, RC.snd, r_w06_FilesKeep, XX, CC, YY, Nat.reduceAdd, Nat.reduceSub, Nat.reduceLeDiff, Nat.reduceLT, Nat.reduceEqDiff, reduceIte, ↓reduceIte, Nat.reduceBEq, g0, lV, zl, g5, e1]
    refine (read_w w fLog fLog_sz).use ?_
    rw [r1]
    simp only [XX, CC, YY, Nat.reduceAdd, Nat.reduceSub, Nat.reduceLeDiff, Nat.reduceLT, Nat.reduceEqDiff, reduceIte, ↓reduceIte, Nat.reduceBEq, z62]
    exact .inl rfl
  rcases ks with ⟨hc, _⟩ | ⟨hi, rfl⟩
  · omega
  have zl : ((l.length : Int) == 0) = false := by simpa using c
  have hk : FOk all safe := by
    have : (fLog, all, safe) ∈ con D := by rw [V.con]; exact List.mem_singleton.2 rfl
    obtain ⟨f, hf, he⟩ := List.mem_map.1 this
    have := w.ok.files f hf
    unfold tri at he
    simp only [Prod.mk.injEq] at he
    rw [he.2.1, he.2.2] at this
    exact this
  obtain ⟨k1, k2⟩ := kept_in (keep := keep) hk
  have hk' := hk
  unfold FOk at hk'
  obtain ⟨K, hK⟩ : ∃ K, keptF keep all safe = K := ⟨_, rfl⟩
  have hl1 : [(fLog, all, safe)].map (loseK keep) = [(fLog, all.extract 0 K.toNat, K)] := by
    show [loseK keep (fLog, all, safe)] = _
    unfold loseK; simp only [hK]
  rw [hK] at k1 k2
  have hes := extract_size (d := all) (n := K) (by omega) k2
  simp only [kpE, RC.snd, r_w06_FilesKeep, XX, CC, YY, Nat.reduceAdd, Nat.reduceSub, Nat.reduceLeDiff, Nat.reduceLT, Nat.reduceEqDiff, reduceIte, ↓reduceIte, Nat.reduceBEq, g0, lV, zl, g5, g1, e1]
  refine Run.mono _ _ _ _ _ ?_ (off_w w keep)
  rintro v t1 ⟨rfl, w1, _⟩
  have V1 := V.off keep
  rw [hl1] at V1
  clear w V h
  generalize offV D keep = D1 at *
  (try simp only [XX, CC, YY, Nat.reduceAdd, Nat.reduceSub, Nat.reduceLeDiff, Nat.reduceLT, Nat.reduceEqDiff, reduceIte, ↓reduceIte, Nat.reduceBEq, g5])
  refine (down_w w1).use ?_
  rw [V1.down]
  simp only [XX, CC, YY, Nat.reduceAdd, Nat.reduceSub, Nat.reduceLeDiff, Nat.reduceLT, Nat.reduceEqDiff, reduceIte, ↓reduceIte, Nat.reduceBEq, g5, Bool.not_true]
  obtain ⟨b1, b2⟩ := down_bad (C := [(fLog, all.extract 0 K.toNat, K)]) fLog (bts [120])
  refine Run.mono _ _ _ _ _ ?_ (op_w1 w1 fLog (bts [120]) fLog_sz hx)
  rintro v t2 ⟨rfl, w2, _⟩
  obtain ⟨c2, c2'⟩ := V1.bad b1 (by decide) t1.length
  rw [c2]
  rw [c2'] at w2
  simp only [XX, CC, YY, Nat.reduceAdd, Nat.reduceSub, Nat.reduceLeDiff, Nat.reduceLT, Nat.reduceEqDiff, reduceIte, ↓reduceIte, Nat.reduceBEq, z60, g5, Bool.not_true]
  refine Run.mono _ _ _ _ _ ?_ (op_w2 w2 fLog (bts [120]) 0 0 fLog_sz)
  rintro v t3 ⟨rfl, w3, _⟩
  obtain ⟨c3, c3'⟩ := V1.bad b2 (by decide) 0
  rw [c3]
  rw [c3'] at w3
  simp only [XX, CC, YY, Nat.reduceAdd, Nat.reduceSub, Nat.reduceLeDiff, Nat.reduceLT, Nat.reduceEqDiff, reduceIte, ↓reduceIte, Nat.reduceBEq, z60, g5, Bool.not_true]
  refine Run.mono _ _ _ _ _ ?_ (on_w w3)
  rintro v t4 ⟨rfl, w4, _⟩
  have V4 := V1.on
  clear w1 w2 w3 V1
  generalize onD D1 = D4 at *
  have r4 := V4.read fLog
  rw [read_one fLog_nm] at r4
  (try simp only [XX, CC, YY, Nat.reduceAdd, Nat.reduceSub, Nat.reduceLeDiff, Nat.reduceLT, Nat.reduceEqDiff, reduceIte, ↓reduceIte, Nat.reduceBEq, g5])
  refine (read_w w4 fLog fLog_sz).use ?_
  rw [r4]
  have s4 := V4.safe fLog
  rw [safe_one] at s4
  have hsl : slsA (.str all) none (some (.int .i64 K)) = some (.str (all.extract 0 K.toNat)) := by
    simp only [slsA, boundA]
    rw [if_pos (by omega)]
  have zK : (K == ((all.extract 0 K.toNat).size : Int)) = true := by rw [hes]; simp
  have qx := eq_s (all.extract 0 K.toNat)
  have fin : ∀ (e' : Env), e'.get 5 = .ptr b 0 → e'.get 13 = .str (all.extract 0 K.toNat) → awp (Run T) kpE.snd.snd.snd.snd.snd.snd.snd.snd (endK [.tmp 4] s fun r _ => r = .bool true) e' t4 := by
    intro e' g5 g13
    simp only [kpE, RC.snd, r_w06_FilesKeep, XX, CC, YY, Nat.reduceAdd, Nat.reduceSub, Nat.reduceLeDiff, Nat.reduceLT, Nat.reduceEqDiff, reduceIte, ↓reduceIte, Nat.reduceBEq, g5, e1]
    refine Run.mono _ _ _ _ _ ?_ (off_w w4 0)
    rintro v t5 ⟨rfl, w5, _⟩
    have V5 := V4.off 0
    have hl2 : [(fLog, all.extract 0 K.toNat, K)].map (loseK 0) = [(fLog, all.extract 0 K.toNat, K)] := by
      show [loseK 0 (fLog, all.extract 0 K.toNat, K)] = _
      unfold loseK keptF
      simp only
      rw [if_neg (by decide), ext_self _ K.toNat (by omega)]
    rw [hl2] at V5
    generalize offV D4 0 = D5 at *
    (try simp only [XX, CC, YY, Nat.reduceAdd, Nat.reduceSub, Nat.reduceLeDiff, Nat.reduceLT, Nat.reduceEqDiff, reduceIte, ↓reduceIte, Nat.reduceBEq, g5])
    refine Run.mono _ _ _ _ _ ?_ (on_w w5)
    rintro v t6 ⟨rfl, w6, _⟩
    have V6 := V5.on
    generalize onD D5 = D6 at *
    have r6 := V6.read fLog
    rw [read_one fLog_nm] at r6
    (try simp only [XX, CC, YY, Nat.reduceAdd, Nat.reduceSub, Nat.reduceLeDiff, Nat.reduceLT, Nat.reduceEqDiff, reduceIte, ↓reduceIte, Nat.reduceBEq, g5])
    refine (read_w w6 fLog fLog_sz).use ?_
    rw [r6]
    simp only [XX, CC, YY, Nat.reduceAdd, Nat.reduceSub, Nat.reduceLeDiff, Nat.reduceLT, Nat.reduceEqDiff, reduceIte, ↓reduceIte, Nat.reduceBEq, z0, g13, qx]
    exact .inl rfl
  obtain ⟨TAIL, hT⟩ : ∃ c, c = kpE.snd.snd.snd.snd.snd.snd.snd.snd := ⟨_, rfl⟩
  rw [← hT] at fin
  simp only [kpE, RC.snd, r_w06_FilesKeep, e1] at hT
  rw [← hT]
  have em2 : keep > 0 ∨ ¬ keep > 0 := Classical.em _
  rcases em2 with ck | ck
  · have w1 : IntKind.i64.wrap ((all.size : Int) - safe) = (all.size : Int) - safe := w64_in (by omega) (by omega)
    have w2 : IntKind.i64.wrap ((all.size : Int) - safe + 1) = (all.size : Int) - safe + 1 := w64_in (by omega) (by omega)
    have hrem : binA .rem (.int .i64 keep) (.int .i64 ((all.size : Int) - safe + 1)) = some (.int .i64 (keep % ((all.size : Int) - safe + 1))) := by
      simp only [binA]
      rw [if_pos ⟨trivial, by omega⟩, Int.tmod_eq_emod_of_nonneg (by omega)]
    have hk0 : safe + keep % ((all.size : Int) - safe + 1) = K := by rw [← hK]; unfold keptF; rw [if_pos ck]
    have w3 : IntKind.i64.wrap (safe + keep % ((all.size : Int) - safe + 1)) = K := by rw [hk0]; exact w64_in (by omega) (by omega)
    simp only [XX, CC, YY, Nat.reduceAdd, Nat.reduceSub, Nat.reduceLeDiff, Nat.reduceLT, Nat.reduceEqDiff, reduceIte, ↓reduceIte, Nat.reduceBEq, g1, dec_t ck, g6, g7, w1, w2, hrem, z0, Bool.not_true, w3, hsl, qx, g5]
    refine (safe_w w4 fLog).use ?_
    rw [s4]
    simp only [XX, CC, YY, Nat.reduceAdd, Nat.reduceSub, Nat.reduceLeDiff, Nat.reduceLT, Nat.reduceEqDiff, reduceIte, ↓reduceIte, Nat.reduceBEq, zK, Bool.not_true]
    exact fin _ (by simp only [XX, CC, YY, Nat.reduceAdd, Nat.reduceSub, Nat.reduceLeDiff, Nat.reduceLT, Nat.reduceEqDiff, reduceIte, ↓reduceIte, Nat.reduceBEq, g5]) (by simp only [XX, CC, YY, Nat.reduceAdd, Nat.reduceSub, Nat.reduceLeDiff, Nat.reduceLT, Nat.reduceEqDiff, reduceIte, ↓reduceIte, Nat.reduceBEq])
  · have hk0 : safe + 0 = K := by rw [← hK]; unfold keptF; rw [if_neg ck]; omega
    have w3 : IntKind.i64.wrap (safe + 0) = K := by rw [hk0]; exact w64_in (by omega) (by omega)
    simp only [XX, CC, YY, Nat.reduceAdd, Nat.reduceSub, Nat.reduceLeDiff, Nat.reduceLT, Nat.reduceEqDiff, reduceIte, ↓reduceIte, Nat.reduceBEq, g1, dec_f ck, g6, g7, z0, Bool.not_true, w3, hsl, qx, g5]
    refine (safe_w w4 fLog).use ?_
    rw [s4]
    simp only [XX, CC, YY, Nat.reduceAdd, Nat.reduceSub, Nat.reduceLeDiff, Nat.reduceLT, Nat.reduceEqDiff, reduceIte, ↓reduceIte, Nat.reduceBEq, zK, Bool.not_true]
    exact fin _ (by simp only [XX, CC, YY, Nat.reduceAdd, Nat.reduceSub, Nat.reduceLeDiff, Nat.reduceLT, Nat.reduceEqDiff, reduceIte, ↓reduceIte, Nat.reduceBEq, g5]) (by simp only [XX, CC, YY, Nat.reduceAdd, Nat.reduceSub, Nat.reduceLeDiff, Nat.reduceLT, Nat.reduceEqDiff, reduceIte, ↓reduceIte, Nat.reduceBEq])
end
def PcQ (q : ByteArray × Bool) : Prop := q.1.size < 140737488355328
set_option maxHeartbeats 4000000 in
theorem keep_r (s : St) (v0 : AV) (l : List (ByteArray × Bool)) (keep : Int) (hl : l.length ≤ 140737488351232) (hq : ∀ q ∈ l, PcQ q) (hv : Rd 2 cPc s v0 l) (hkeep : -9223372036854775808 ≤ keep ∧ keep ≤ 9223372036854775807) :
    Run T f_w06_FilesKeep [v0, .int .i64 keep] s fun r _ => r = .bool true := by
  refine run_body (F := r_w06_FilesKeep) (has rfl) (by simp [r_w06_FilesKeep]) ?_
  have hround := keep_round s v0 l keep hl hq hv
  have htail := fun n b D t => @keep_tail t n b D s v0 l keep hv
  obtain ⟨LOOP, hL⟩ : ∃ c, c = kpL := ⟨_, rfl⟩
  obtain ⟨TAIL, hT⟩ : ∃ c, c = kpE := ⟨_, rfl⟩
  obtain ⟨B, hB⟩ : ∃ c, c = r_w06_FilesKeep.body := ⟨_, rfl⟩
  have hbody : r_w06_FilesKeep.body = .seq B.fst (.seq B.snd.fst (.seq B.snd.snd.fst (.seq B.snd.snd.snd.fst (.seq B.snd.snd.snd.snd.fst (.seq (.seq B.snd.snd.snd.snd.snd.fst.fst (.block 0 (.loop LOOP))) TAIL))))) := by rw [hB, hL, hT]; rfl
  rw [← hL] at hround
  rw [← hT] at htail
  rw [hbody, hB]
  clear hL hT hbody hB
  simp only [r_w06_FilesKeep, RC.fst, RC.snd, XX, CC, YY, Nat.reduceAdd, Nat.reduceSub, Nat.reduceLeDiff, Nat.reduceLT, Nat.reduceEqDiff, reduceIte, ↓reduceIte, Nat.reduceBEq]
  refine (awake06_r s).use ?_
  simp only [XX, CC, YY, Nat.reduceAdd, Nat.reduceSub, Nat.reduceLeDiff, Nat.reduceLT, Nat.reduceEqDiff, reduceIte, ↓reduceIte, Nat.reduceBEq, Bool.not_true]
  refine Run.mono _ _ _ _ _ ?_ (new_r s)
  rintro v t1 ⟨rfl, rfl⟩
  have w := new_w s s (Ext.refl s)
  have V := newD_Vw s.length
  generalize s ++ [Blk.map [] 0, .cells true (cD (newD s.length))] = t at *
  generalize newD s.length = D at *
  (try simp only [XX, CC, YY, Nat.reduceAdd, Nat.reduceSub, Nat.reduceLeDiff, Nat.reduceLT, Nat.reduceEqDiff, reduceIte, ↓reduceIte, Nat.reduceBEq])
  refine awp_rounds (fun d e t => ∃ i D all safe, i + d = l.length ∧ KI s s.length (s.length + 1) v0 keep i e t D all safe) l.length ?_ ?_
  · refine ⟨0, D, bts [], 0, by omega, ⟨w, ⟨_, _, _, _, V, .inl ⟨rfl, rfl, rfl, rfl⟩⟩, by decide, ?_, ?_, ?_, ?_, ?_, ?_⟩⟩ <;> simp only [XX, CC, YY, Nat.reduceAdd, Nat.reduceSub, Nat.reduceLeDiff, Nat.reduceLT, Nat.reduceEqDiff, reduceIte, ↓reduceIte, Nat.reduceBEq] <;> rfl
  · rintro J d e t hJ ⟨i, D, all, safe, hid, h⟩
    refine hround s.length (s.length + 1) _ ?_ ?_ J d e t hJ i D all safe hid h
    · intro e t h4
      simp only [XX, CC, YY, Nat.reduceAdd, Nat.reduceSub, Nat.reduceLeDiff, Nat.reduceLT, Nat.reduceEqDiff, reduceIte, ↓reduceIte, Nat.reduceBEq, h4]
      exact .inl rfl
    · intro e t i D all safe h1 h2 h
      simp only [XX, CC, YY, Nat.reduceAdd, Nat.reduceSub, Nat.reduceLeDiff, Nat.reduceLT, Nat.reduceEqDiff, reduceIte, ↓reduceIte, Nat.reduceBEq]
      exact htail _ _ D t h1 h2 h
end Go.Ev

/-! FilesArm: two disks in one store; an operation by its number. -/
namespace Go.Ev
set_option linter.unusedVariables false
set_option linter.unusedSimpArgs false
open Go.Ev.So Go.Proofs

/-- An operation of a script. -/
structure FOp where
  kind : Int
  on : Int
  name : ByteArray
  data : ByteArray
  n : Int
  keep : Int
def cFO (q : FOp) : List AV := [.int .i64 q.kind, .int .i64 q.on, .str q.name, .str q.data, .int .i64 q.n, .int .i64 q.keep]
theorem cFO_len (q : FOp) : (cFO q).length = 6 := id rfl
theorem cFO_cell (q : FOp) : (cFO q).all AV.cell = true := id rfl
theorem fo0 {q : FOp} : (cFO q)[0]? = some (.int .i64 q.kind) := rfl
theorem fo2 {q : FOp} : (cFO q)[2]? = some (.str q.name) := rfl
theorem fo3 {q : FOp} : (cFO q)[3]? = some (.str q.data) := rfl
theorem fo4 {q : FOp} : (cFO q)[4]? = some (.int .i64 q.n) := rfl
theorem fo5 {q : FOp} : (cFO q)[5]? = some (.int .i64 q.keep) := rfl
def FOQ (q : FOp) : Prop := q.name.size < 140737488355328 ∧ q.data.size < 140737488355328 ∧ -9223372036854775808 ≤ q.n ∧ q.n ≤ 9223372036854775807
theorem ld_fo {t : St} {ob : Nat} {q : FOp} (h : t[ob]? = some (.cells true (cFO q))) : ldA t none (.ptr ob 0) = some (.int .i64 q.kind) ∧ ldA t none (.ptr ob 1) = some (.int .i64 q.on) ∧ ldA t none (.ptr ob 2) = some (.str q.name) ∧ ldA t none (.ptr ob 3) = some (.str q.data) ∧
    ldA t none (.ptr ob 4) = some (.int .i64 q.n) ∧ ldA t none (.ptr ob 5) = some (.int .i64 q.keep) ∧ ldA t (some 6) (.ptr ob 0) = some (.agg (cFO q)) := by
  refine ⟨?_, ?_, ?_, ?_, ?_, ?_, ?_⟩ <;> rw [ld_own h] <;> rfl
structure W2 (s : St) (n1 b1 : Nat) (D : Dsk) (n2 b2 : Nat) (E : Dsk) (t : St) : Prop where
  d : WD s n1 b1 D t
  e : WD s n2 b2 E t
  ap : ∀ i, DFoot b1 D i → ¬ DFoot b2 E i
/-- A block beside the two. -/
def KB2 (b1 : Nat) (D : Dsk) (b2 : Nat) (E : Dsk) (t : St) (i : Nat) (B : Blk) : Prop := t[i]? = some B ∧ ¬ DFoot b1 D i ∧ ¬ DFoot b2 E i
section
variable {s t t' : St} {n1 b1 n2 b2 : Nat} {D D' E E' : Dsk} {i : Nat} {B : Blk}
theorem W2.st1 (h : W2 s n1 b1 D n2 b2 E t) (w : WD s n1 b1 D' t') (g : Gs (DFoot b1 D) (DFoot b1 D') t t') : W2 s n1 b1 D' n2 b2 E t' :=
  ⟨w, h.e.other g (fun i hi hf => h.ap i hf hi) (fun i hi => h.d.foot i hi), fun i hi hf => by
    rcases g.foot i hi with x | x
    · exact h.ap i x hf
    · have := hf.lt h.e.at_; omega⟩
theorem W2.st2 (h : W2 s n1 b1 D n2 b2 E t) (w : WD s n2 b2 E' t') (g : Gs (DFoot b2 E) (DFoot b2 E') t t') : W2 s n1 b1 D n2 b2 E' t' :=
  ⟨h.d.other g (fun i hi hf => h.ap i hi hf) (fun i hi => h.e.foot i hi), w, fun i hi hf => by
    rcases g.foot i hf with x | x
    · exact h.ap i hi x
    · have := hi.lt h.d.at_; omega⟩
theorem W2.app (h : W2 s n1 b1 D n2 b2 E t) (r : St) : W2 s n1 b1 D n2 b2 E (t ++ r) := ⟨h.d.app r, h.e.app r, h.ap⟩
theorem KB2.st1 (k : KB2 b1 D b2 E t i B) (g : Gs (DFoot b1 D) (DFoot b1 D') t t') : KB2 b1 D' b2 E t' i B := by
  have hlt := (List.getElem?_eq_some_iff.1 k.1).1
  exact ⟨by rw [g.same i hlt k.2.1]; exact k.1, fun x => by rcases g.foot i x with y | y; exact k.2.1 y; omega, k.2.2⟩
theorem KB2.st2 (k : KB2 b1 D b2 E t i B) (g : Gs (DFoot b2 E) (DFoot b2 E') t t') : KB2 b1 D b2 E' t' i B := by
  have hlt := (List.getElem?_eq_some_iff.1 k.1).1
  exact ⟨by rw [g.same i hlt k.2.2]; exact k.1, k.2.1, fun x => by rcases g.foot i x with y | y; exact k.2.2 y; omega⟩
theorem KB2.app (k : KB2 b1 D b2 E t i B) (r : St) : KB2 b1 D b2 E (t ++ r) i B := ⟨by rw [List.getElem?_append_left (List.getElem?_eq_some_iff.1 k.1).1]; exact k.1, k.2⟩
theorem W2.new (h : W2 s n1 b1 D n2 b2 E t) (B : Blk) : KB2 b1 D b2 E (t ++ [B]) t.length B :=
  ⟨get_last, fun x => by have := x.lt h.d.at_; omega, fun x => by have := x.lt h.e.at_; omega⟩
/-- A slice of strings beside the two. -/
def RK (b1 : Nat) (D : Dsk) (b2 : Nat) (E : Dsk) (t : St) (v : AV) (l : List ByteArray) : Prop := (v = .nils ∧ l = []) ∨ ∃ i, v = .sl i 0 1 l.length none ∧ KB2 b1 D b2 E t i (.cells true (l.flatMap cS))
theorem RK.rd {v : AV} {l : List ByteArray} (h : RK b1 D b2 E t v l) : Rd 1 cS t v l := by
  rcases h with ⟨rfl, rfl⟩ | ⟨i, rfl, k⟩
  · exact Rd.nil
  · exact rd_lit k.1 cS_len rfl
theorem RK.st1 {v : AV} {l : List ByteArray} (h : RK b1 D b2 E t v l) (g : Gs (DFoot b1 D) (DFoot b1 D') t t') : RK b1 D' b2 E t' v l := by
  rcases h with h | ⟨i, h, k⟩
  · exact .inl h
  · exact .inr ⟨i, h, k.st1 g⟩
theorem RK.st2 {v : AV} {l : List ByteArray} (h : RK b1 D b2 E t v l) (g : Gs (DFoot b2 E) (DFoot b2 E') t t') : RK b1 D b2 E' t' v l := by
  rcases h with h | ⟨i, h, k⟩
  · exact .inl h
  · exact .inr ⟨i, h, k.st2 g⟩
theorem RK.app {v : AV} {l : List ByteArray} (h : RK b1 D b2 E t v l) (r : St) : RK b1 D b2 E (t ++ r) v l := by
  rcases h with h | ⟨i, h, k⟩
  · exact .inl h
  · exact .inr ⟨i, h, k.app r⟩
theorem W2.made (h : W2 s n1 b1 D n2 b2 E t) (l : List ByteArray) : RK b1 D b2 E (madeT t l) (madeV t l) l ∧ W2 s n1 b1 D n2 b2 E (madeT t l) := by
  unfold madeT madeV
  by_cases c : l = []
  · rw [if_pos c, if_pos c]; exact ⟨.inl ⟨rfl, c⟩, h⟩
  · rw [if_neg c, if_neg c]; exact ⟨.inr ⟨_, rfl, h.new _⟩, h.app _⟩
theorem KB2.made (k : KB2 b1 D b2 E t i B) (l : List ByteArray) : KB2 b1 D b2 E (madeT t l) i B := by
  unfold madeT
  split
  · exact k
  · exact k.app _
theorem RK.made {v : AV} {m : List ByteArray} (k : RK b1 D b2 E t v m) (l : List ByteArray) : RK b1 D b2 E (madeT t l) v m := by
  unfold madeT
  split
  · exact k
  · exact k.app _
theorem Gs.pre {A A' : Nat → Prop} {r : St} (g : Gs A A' (t ++ r) t') : Gs A A' t t' := by
  have := g.len
  rw [List.length_append] at this
  refine ⟨by omega, fun i hi hf => ?_, fun i hi => ?_⟩
  · rw [g.same i (by rw [List.length_append]; omega) hf, List.getElem?_append_left hi]
  · rcases g.foot i hi with x | x
    · exact .inl x
    · rw [List.length_append] at x; exact .inr (by omega)
end
section
variable {s t : St} {n b : Nat} {D : Dsk}
set_option maxHeartbeats 4000000 in
theorem act_r (h : WD s n b D t) (q : FOp) (hq : FOQ q) : Run T f_w06_act [.ptr b 0, .agg (cFO q)] t fun v t' => v = .int .i64 (outC D (opC D q.kind q.name q.data q.n)) ∧ WD s n b (opV D q.kind q.name q.data q.n (t.length + 1)) t' ∧ Gs (DFoot b D) (DFoot b (opV D q.kind q.name q.data q.n (t.length + 1))) t t' := by
  refine run_body (F := r_w06_act) (has rfl) (by simp [r_w06_act]) ?_
  obtain ⟨hn, hd, _⟩ := hq
  have hb0 : boxA (some 6) (.agg (cFO q)) = some (cFO q) := rfl
  have w := h.app [.cells true (cFO q)]
  obtain ⟨l0, _, l2, l3, l4, _, _⟩ := ld_fo (t := t ++ [.cells true (cFO q)]) (ob := t.length) (q := q) get_last
  have hlen : (t ++ [Blk.cells true (cFO q)]).length = t.length + 1 := by simp
  have f : ∀ x y : Int, ¬ x = y → (x == y) = false := fun x y hx => by simp [hx]
  have z : ∀ x y : Int, x = y → (x == y) = true := fun x y hx => by simp [hx]
  have m1 : q.kind = 1 ∨ ¬ q.kind = 1 := Classical.em _
  rcases m1 with m1 | m1
  · have hr := op_w1 w q.name q.data hn hd
    rw [hlen] at hr
    simp only [r_w06_act, XX, CC, YY, Nat.reduceAdd, Nat.reduceSub, Nat.reduceLeDiff, Nat.reduceLT, Nat.reduceEqDiff, reduceIte, ↓reduceIte, Nat.reduceBEq, hb0, fo0, fo2, fo3, fo4, l0, l2, l3, z _ _ m1]
    refine Run.mono _ _ _ _ _ ?_ hr
    rintro v t' ⟨rfl, w1, g⟩
    (try simp only [XX, CC, YY, Nat.reduceAdd, Nat.reduceSub, Nat.reduceLeDiff, Nat.reduceLT, Nat.reduceEqDiff, reduceIte, ↓reduceIte, Nat.reduceBEq])
    rw [m1]
    exact .inl ⟨rfl, w1, g.pre⟩
  have m2 : q.kind = 2 ∨ ¬ q.kind = 2 := Classical.em _
  rcases m2 with m2 | m2
  · have hr := op_w2 w q.name q.data q.n (t.length + 1) hn
    simp only [r_w06_act, XX, CC, YY, Nat.reduceAdd, Nat.reduceSub, Nat.reduceLeDiff, Nat.reduceLT, Nat.reduceEqDiff, reduceIte, ↓reduceIte, Nat.reduceBEq, hb0, fo0, fo2, fo3, fo4, l0, l2, f _ _ m1, z _ _ m2]
    refine Run.mono _ _ _ _ _ ?_ hr
    rintro v t' ⟨rfl, w1, g⟩
    (try simp only [XX, CC, YY, Nat.reduceAdd, Nat.reduceSub, Nat.reduceLeDiff, Nat.reduceLT, Nat.reduceEqDiff, reduceIte, ↓reduceIte, Nat.reduceBEq])
    rw [m2]
    exact .inl ⟨rfl, w1, g.pre⟩
  have m3 : q.kind = 3 ∨ ¬ q.kind = 3 := Classical.em _
  rcases m3 with m3 | m3
  · have hr := op_w3 w q.name q.data q.n (t.length + 1) hn
    simp only [r_w06_act, XX, CC, YY, Nat.reduceAdd, Nat.reduceSub, Nat.reduceLeDiff, Nat.reduceLT, Nat.reduceEqDiff, reduceIte, ↓reduceIte, Nat.reduceBEq, hb0, fo0, fo2, fo3, fo4, l0, l2, l4, f _ _ m1, f _ _ m2, z _ _ m3]
    refine Run.mono _ _ _ _ _ ?_ hr
    rintro v t' ⟨rfl, w1, g⟩
    (try simp only [XX, CC, YY, Nat.reduceAdd, Nat.reduceSub, Nat.reduceLeDiff, Nat.reduceLT, Nat.reduceEqDiff, reduceIte, ↓reduceIte, Nat.reduceBEq])
    rw [m3]
    exact .inl ⟨rfl, w1, g.pre⟩
  have m4 : q.kind = 4 ∨ ¬ q.kind = 4 := Classical.em _
  rcases m4 with m4 | m4
  · have hr := op_w4 w q.name q.data q.n (t.length + 1) hn hd
    simp only [r_w06_act, XX, CC, YY, Nat.reduceAdd, Nat.reduceSub, Nat.reduceLeDiff, Nat.reduceLT, Nat.reduceEqDiff, reduceIte, ↓reduceIte, Nat.reduceBEq, hb0, fo0, fo2, fo3, fo4, l0, l2, l3, f _ _ m1, f _ _ m2, f _ _ m3, z _ _ m4]
    refine Run.mono _ _ _ _ _ ?_ hr
    rintro v t' ⟨rfl, w1, g⟩
    (try simp only [XX, CC, YY, Nat.reduceAdd, Nat.reduceSub, Nat.reduceLeDiff, Nat.reduceLT, Nat.reduceEqDiff, reduceIte, ↓reduceIte, Nat.reduceBEq])
    rw [m4]
    exact .inl ⟨rfl, w1, g.pre⟩
  have hr := op_w5 w ⟨m1, m2, m3, m4⟩ q.name q.data q.n (t.length + 1) hn
  simp only [r_w06_act, XX, CC, YY, Nat.reduceAdd, Nat.reduceSub, Nat.reduceLeDiff, Nat.reduceLT, Nat.reduceEqDiff, reduceIte, ↓reduceIte, Nat.reduceBEq, hb0, fo0, fo2, fo3, fo4, l0, l2, f _ _ m1, f _ _ m2, f _ _ m3, f _ _ m4]
  refine Run.mono _ _ _ _ _ ?_ hr
  rintro v t' ⟨rfl, w1, g⟩
  (try simp only [XX, CC, YY, Nat.reduceAdd, Nat.reduceSub, Nat.reduceLeDiff, Nat.reduceLT, Nat.reduceEqDiff, reduceIte, ↓reduceIte, Nat.reduceBEq])
  exact .inl ⟨rfl, w1, g.pre⟩
end
section
variable {D : Dsk} {dn ar : Bool} {left keep steps : Int} {C : List Tri}
theorem Vw.gone (V : Vw D dn true 0 keep steps C) {k : Int} {a x : ByteArray} {m : Int} (hc : opK dn C k a x m = 0) (fb : Nat) :
    outC D (opC D k a x m) = 60 ∧ Vw (opV D k a x m fb) true false 0 keep steps ((preL C k a x).map (loseK keep)) := by
  obtain ⟨rfl, ha, hl, rfl, rfl, rfl⟩ := V
  have := op_gone (k := k) (a := a) (x := x) (m := m) (by rw [opK_con]; exact hc) (show Go.Ev.gone D from ⟨ha, hl⟩) fb
  rw [hl] at this
  exact this
theorem getK_map {C : List Tri} {a : ByteArray} {g : Tri → Tri} (hg : ∀ f, (g f).1 = f.1) : getK (C.map g) a = (getK C a).map g := by
  unfold getK
  rw [List.find?_map]
  congr 2
  funext f
  simp only [Function.comp, hg]
theorem getK_name {C : List Tri} {a : ByteArray} {f : Tri} (h : getK C a = some f) : f.1 = a := by
  have := List.find?_some h
  simpa using (by simpa using this : a = f.1).symm
/-- what is read at a name -/
def oldK (C : List Tri) (a : ByteArray) : ByteArray := match getK C a with
  | some f => f.2.1
  | none => bts []
theorem ok_chk {C : List Tri} {k : Int} {a x : ByteArray} {m : Int} (h : opK false C k a x m = 0) : nameB a = true := by
  have ch : ∀ {ns : List ByteArray} {r : Int}, (if chkK false ns ≠ 0 then chkK false ns else r) = 0 → chkK false ns = 0 := by
    intro ns r hr
    by_cases c : chkK false ns = 0
    · exact c
    · rw [if_pos c] at hr; exact hr
  unfold opK at h
  by_cases c1 : k = 1
  · rw [if_pos c1] at h; exact chk_nm (ch h) (List.mem_singleton.2 rfl)
  rw [if_neg c1] at h
  by_cases c2 : k = 2
  · rw [if_pos c2] at h; exact chk_nm (ch h) (List.mem_singleton.2 rfl)
  rw [if_neg c2] at h
  by_cases c3 : k = 3
  · rw [if_pos c3] at h; exact chk_nm (ch h) (List.mem_singleton.2 rfl)
  rw [if_neg c3] at h
  by_cases c4 : k = 4
  · rw [if_pos c4] at h; exact chk_nm (ch h) (List.mem_cons_self ..)
  · rw [if_neg c4] at h; exact chk_nm (ch h) (List.mem_singleton.2 rfl)
theorem ok_there {C : List Tri} {k : Int} {a x : ByteArray} {m : Int} (h : opK false C k a x m = 0) (hk : k ≠ 1) : ∃ f, getK C a = some f := by
  have ch : ∀ {ns : List ByteArray} {r : Int}, (if chkK false ns ≠ 0 then chkK false ns else r) = 0 → r = 0 := by
    intro ns r hr
    by_cases c : chkK false ns = 0
    · rw [c] at hr; simpa using hr
    · rw [if_pos c] at hr; exact absurd hr c
  cases hg : getK C a with
  | some f => exact ⟨f, rfl⟩
  | none =>
    exfalso
    unfold opK at h
    rw [if_neg hk] at h
    have hh : ∀ ns, hasK false C ns a ≠ 0 := fun ns e => by unfold hasK at e; rw [hg] at e; have := ch e; simp at this
    have hc : cutK false C a m ≠ 0 := fun e => by unfold cutK at e; rw [hg] at e; have := ch e; simp at this
    split at h
    · exact hh _ h
    split at h
    · exact hc h
    split at h
    · exact hh _ h
    · exact hh _ h
theorem read_old {C : List Tri} {a : ByteArray} : (readK false C a).1 = bts [] ∨ (nameB a = true ∧ (readK false C a).1 = oldK C a) := by
  unfold readK oldK
  cases hn : nameB a with
  | false => rw [chk_f hn]; exact .inl rfl
  | true =>
    rw [chk_t hn]
    refine .inr ⟨rfl, ?_⟩
    rw [if_neg (by simp)]
    cases getK C a <;> rfl
theorem read_ok {C : List Tri} {a : ByteArray} (h : nameB a = true) : (readK false C a).1 = oldK C a := by
  rcases read_old (C := C) (a := a) with c | c
  · unfold readK at c ⊢
    rw [chk_t h, if_neg (by simp)] at c ⊢
    unfold oldK
    cases getK C a <;> rfl
  · exact c.2
theorem app_there (C : List Tri) (a x : ByteArray) : ∃ n, getK (appL C a x) a = some (a, oldK C a ++ x, n) := by
  unfold appL oldK
  cases hg : getK C a with
  | some f =>
    have hn := getK_name hg
    refine ⟨f.2.2, ?_⟩
    simp only
    rw [getK_map (fun y => by unfold updK; split <;> rfl), hg]
    simp [updK, hn]
  | none =>
    refine ⟨0, ?_⟩
    simp only
    unfold getK at hg ⊢
    rw [List.find?_append, hg]
    simp
theorem lose_read {C : List Tri} {a Y : ByteArray} {n : Int} (hn : nameB a = true) (h : getK C a = some (a, Y, n)) (keep : Int) : ∃ k : Nat, readK false (C.map (loseK keep)) a = (Y.extract 0 k, 0) := by
  refine ⟨(keptF keep Y n).toNat, ?_⟩
  unfold readK
  rw [chk_t hn, if_neg (by simp), getK_map (g := loseK keep) (fun _ => rfl), h]
  rfl
theorem ext_twice (Y : ByteArray) (k : Nat) : (Y.extract 0 k).size ≤ Y.size ∧ Y.extract 0 (Y.extract 0 k).size = Y.extract 0 k := by
  rw [ByteArray.size_extract]
  refine ⟨by omega, ?_⟩
  by_cases c : k ≤ Y.size
  · congr 1; omega
  · rw [ext_self Y k (by omega), ext_self Y _ (by omega)]
theorem lose_names (C : List Tri) (keep : Int) : (C.map (loseK keep)).map (·.1) = C.map (·.1) := by
  rw [List.map_map]; rfl
theorem sls_to {Y : ByteArray} {k : Nat} (h : k ≤ Y.size) : slsA (.str Y) none (some (.int .i64 (k : Int))) = some (.str (Y.extract 0 k)) := by
  simp only [slsA, boundA]
  rw [if_pos (by omega), Int.toNat_natCast]
end
end Go.Ev

/-! FilesArm: what follows an operation on both disks. -/
namespace Go.Ev
set_option linter.unusedVariables false
set_option linter.unusedSimpArgs false
open Go.Ev.So Go.Proofs

noncomputable def arA : RC := r_w06_FilesArm.body.snd.snd.snd.snd.snd.fst.snd.inn.inn
noncomputable def arL : RC := r_w06_FilesArm.body.snd.snd.snd.snd.snd.snd.snd.snd.snd.fst.snd.inn.inn
noncomputable def arE : RC := r_w06_FilesArm.body.snd.snd.snd.snd.snd.snd.snd.snd.snd.snd
noncomputable def arB : RC := arL.snd.fst.inn
noncomputable def arT : RC := arB.snd.snd.snd.snd.snd.snd.snd
section
variable {s t : St} {n1 b1 n2 b2 : Nat} {D E : Dsk} {e : Env}
/-- Refused by both. -/
theorem arT_a (h : W2 s n1 b1 D n2 b2 E t) {st c : Int} (he : E.steps = st) (hc : c ≠ 0) (g7 : e.get 7 = .ptr b1 0) (g8 : e.get 8 = .ptr b2 0) (g15 : e.get 15 = .int .i64 st) (g19 : e.get 19 = .int .i64 c) (g20 : e.get 20 = .int .i64 c) {Q : XE → Env → St → Prop}
    (hq : ∀ e', e'.get 0 = e.get 0 → e'.get 5 = e.get 5 → e'.get 7 = e.get 7 → e'.get 8 = e.get 8 → e'.get 11 = e.get 11 → e'.get 12 = e.get 12 → e'.get 13 = e.get 13 → Q (.exit 3) e' t) : awp (Run T) arT Q e t := by
  have zs : (st == st) = true := by simp
  have z0 : (c == 0) = false := by simp [hc]
  have zc : (c == c) = true := by simp
  simp only [arT, arB, arL, RC.snd, RC.fst, RC.inn, r_w06_FilesArm, XX, CC, YY, Nat.reduceAdd, Nat.reduceSub, Nat.reduceLeDiff, Nat.reduceLT, Nat.reduceEqDiff, reduceIte, ↓reduceIte, Nat.reduceBEq, g8]
  refine (steps_w h.e).use ?_
  rw [he]
  (try simp only [XX, CC, YY, Nat.reduceAdd, Nat.reduceSub, Nat.reduceLeDiff, Nat.reduceLT, Nat.reduceEqDiff, reduceIte, ↓reduceIte, Nat.reduceBEq, g15, zs, g19, g20, z0, zc, Bool.not_true])
  refine hq _ ?_ ?_ ?_ ?_ ?_ ?_ ?_ <;> simp only [XX, CC, YY, Nat.reduceAdd, Nat.reduceSub, Nat.reduceLeDiff, Nat.reduceLT, Nat.reduceEqDiff, reduceIte, ↓reduceIte, Nat.reduceBEq]
/-- Done on both. -/
theorem arT_b (h : W2 s n1 b1 D n2 b2 E t) {st dn cut : Int} (he : E.steps = st + 1) (hd : D.steps = dn + 1) (hlt : dn < cut) (h0 : 0 ≤ dn ∧ dn < 1000000) (g7 : e.get 7 = .ptr b1 0) (g8 : e.get 8 = .ptr b2 0) (g11 : e.get 11 = .int .i64 cut) (g12 : e.get 12 = .int .i64 dn) (g15 : e.get 15 = .int .i64 st) (g19 : e.get 19 = .int .i64 0) (g20 : e.get 20 = .int .i64 0) {Q : XE → Env → St → Prop}
    (hq : ∀ e', e'.get 0 = e.get 0 → e'.get 5 = e.get 5 → e'.get 7 = e.get 7 → e'.get 8 = e.get 8 → e'.get 11 = e.get 11 → e'.get 12 = .int .i64 (dn + 1) → e'.get 13 = e.get 13 → Q (.exit 3) e' t) : awp (Run T) arT Q e t := by
  have zs : (st + 1 == st) = false := by simp; omega
  have z0 : ((0 : Int) == 0) = true := rfl
  have zd : (dn + 1 == dn + 1) = true := by simp
  have w1 : IntKind.i64.wrap (dn + 1) = dn + 1 := w64_in (by omega) (by omega)
  simp only [arT, arB, arL, RC.snd, RC.fst, RC.inn, r_w06_FilesArm, XX, CC, YY, Nat.reduceAdd, Nat.reduceSub, Nat.reduceLeDiff, Nat.reduceLT, Nat.reduceEqDiff, reduceIte, ↓reduceIte, Nat.reduceBEq, g8]
  refine (steps_w h.e).use ?_
  rw [he]
  (try simp only [XX, CC, YY, Nat.reduceAdd, Nat.reduceSub, Nat.reduceLeDiff, Nat.reduceLT, Nat.reduceEqDiff, reduceIte, ↓reduceIte, Nat.reduceBEq, g15, zs, g11, g12, dec_t hlt, g19, g20, z0, g7, Bool.not_true])
  refine (steps_w h.d).use ?_
  rw [hd]
  (try simp only [XX, CC, YY, Nat.reduceAdd, Nat.reduceSub, Nat.reduceLeDiff, Nat.reduceLT, Nat.reduceEqDiff, reduceIte, ↓reduceIte, Nat.reduceBEq, g12, w1, zd, Bool.not_true])
  refine hq _ ?_ ?_ ?_ ?_ ?_ ?_ ?_ <;> simp only [XX, CC, YY, Nat.reduceAdd, Nat.reduceSub, Nat.reduceLeDiff, Nat.reduceLT, Nat.reduceEqDiff, reduceIte, ↓reduceIte, Nat.reduceBEq]
set_option maxHeartbeats 4000000 in
/-- The power went. -/
theorem arT_c (h : W2 s n1 b1 D n2 b2 E t) {st dn cut : Int} (he : E.steps = st + 1) (hd : D.steps = dn) (hdn : D.down = true) (hlt : ¬ dn < cut) (g7 : e.get 7 = .ptr b1 0) (g8 : e.get 8 = .ptr b2 0) (g11 : e.get 11 = .int .i64 cut) (g12 : e.get 12 = .int .i64 dn) (g15 : e.get 15 = .int .i64 st) (g20 : e.get 20 = .int .i64 60)
    {ob : Nat} {q : FOp} (hqq : FOQ q) (kb : KB2 b1 D b2 E t ob (.cells true (cFO q))) (g14 : e.get 14 = .ptr ob 0) {bv : AV} {l : List ByteArray} (rk : RK b1 D b2 E t bv l) (hl : l.length ≤ 16) (g16 : e.get 16 = bv) (hp : q.kind ≠ 1 → l.Perm ((con D).map (·.1))) (hr : Ris l)
    {old S : ByteArray} (hos : old.size < 140737488355328) (g17 : e.get 17 = .str old) (hS : readV (onD D) q.name = (S, 0))
    (hk : (q.kind = 1 ∧ ∃ k, S = (old ++ q.data).extract 0 k) ∨ (q.kind ≠ 1 ∧ ∃ k, S = old.extract 0 k)) {Q : XE → Env → St → Prop}
    (hq : ∀ e' t', e'.get 6 = .bool true → Q .ret e' t') : awp (Run T) arT Q e t := by
  have zs : (st + 1 == st) = false := by simp; omega
  have z0 : ((0 : Int) == 0) = true := rfl
  have z60 : ((60 : Int) == 60) = true := rfl
  have zd : (dn == dn) = true := by simp
  have hds := hqq.2.1
  have hsz : S.size ≤ old.size + q.data.size := by
    rcases hk with ⟨_, k, rfl⟩ | ⟨_, k, rfl⟩
    · have := (ext_twice (old ++ q.data) k).1; rw [app_size] at this; exact this
    · have := (ext_twice old k).1; omega
  simp only [arT, arB, arL, RC.snd, RC.fst, RC.inn, r_w06_FilesArm, XX, CC, YY, Nat.reduceAdd, Nat.reduceSub, Nat.reduceLeDiff, Nat.reduceLT, Nat.reduceEqDiff, reduceIte, ↓reduceIte, Nat.reduceBEq, g8]
  refine (steps_w h.e).use ?_
  rw [he]
  (try simp only [XX, CC, YY, Nat.reduceAdd, Nat.reduceSub, Nat.reduceLeDiff, Nat.reduceLT, Nat.reduceEqDiff, reduceIte, ↓reduceIte, Nat.reduceBEq, g15, zs, g11, g12, dec_f hlt, g20, z60, g7, Bool.not_true])
  refine (down_w h.d).use ?_
  rw [hdn]
  (try simp only [XX, CC, YY, Nat.reduceAdd, Nat.reduceSub, Nat.reduceLeDiff, Nat.reduceLT, Nat.reduceEqDiff, reduceIte, ↓reduceIte, Nat.reduceBEq, g7, Bool.not_true])
  refine (steps_w h.d).use ?_
  rw [hd]
  (try simp only [XX, CC, YY, Nat.reduceAdd, Nat.reduceSub, Nat.reduceLeDiff, Nat.reduceLT, Nat.reduceEqDiff, reduceIte, ↓reduceIte, Nat.reduceBEq, g12, zd, g7, Bool.not_true])
  refine Run.mono _ _ _ _ _ ?_ (on_w h.d)
  rintro v t1 ⟨rfl, w1, gs⟩
  have h1 := h.st1 w1 gs
  have kb1 := kb.st1 gs
  have rk1 := rk.st1 gs
  have hc : con (onD D) = con D := rfl
  rw [← hc] at hp
  generalize onD D = D1 at *
  obtain ⟨l0, _, l2, l3, _, _, _⟩ := ld_fo kb1.1
  (try simp only [XX, CC, YY, Nat.reduceAdd, Nat.reduceSub, Nat.reduceLeDiff, Nat.reduceLT, Nat.reduceEqDiff, reduceIte, ↓reduceIte, Nat.reduceBEq, g7, g14, l2])
  refine (read_w h1.d q.name hqq.1).use ?_
  rw [hS]
  rcases hk with ⟨k1, k, rfl⟩ | ⟨k1, k, rfl⟩
  · have zk : (q.kind == 1) = true := by simp [k1]
    have w2 : IntKind.i64.wrap ((old.size : Int) + (q.data.size : Int)) = (old.size : Int) + (q.data.size : Int) := w64_in (by omega) (by omega)
    have dl := dec_t (show (((old ++ q.data).extract 0 k).size : Int) ≤ (old.size : Int) + (q.data.size : Int) by omega)
    have hadd := add_s (a := old) (b := q.data) (by omega)
    have hsl := sls_to (ext_twice (old ++ q.data) k).1
    rw [(ext_twice (old ++ q.data) k).2] at hsl
    have qe := eq_s ((old ++ q.data).extract 0 k)
    (try simp only [XX, CC, YY, Nat.reduceAdd, Nat.reduceSub, Nat.reduceLeDiff, Nat.reduceLT, Nat.reduceEqDiff, reduceIte, ↓reduceIte, Nat.reduceBEq, g14, l0, zk, z0, g17, l3, w2, dl, hadd, hsl, qe])
    exact hq _ _ (by simp only [XX, CC, YY, Nat.reduceAdd, Nat.reduceSub, Nat.reduceLeDiff, Nat.reduceLT, Nat.reduceEqDiff, reduceIte, ↓reduceIte, Nat.reduceBEq])
  · have zk : (q.kind == 1) = false := by simp [k1]
    have dl := dec_t (show ((old.extract 0 k).size : Int) ≤ (old.size : Int) by have := (ext_twice old k).1; omega)
    have hsl := sls_to (ext_twice old k).1
    rw [(ext_twice old k).2] at hsl
    have qe := eq_s (old.extract 0 k)
    have hm := h1.made l
    have rk2 := rk1.made l
    (try simp only [XX, CC, YY, Nat.reduceAdd, Nat.reduceSub, Nat.reduceLeDiff, Nat.reduceLT, Nat.reduceEqDiff, reduceIte, ↓reduceIte, Nat.reduceBEq, g14, l0, zk, z0, g17, dl, hsl, qe, g7])
    refine (names_w h1.d l (hp k1) hr _ _ (made_is t1 l)).use ?_
    (try simp only [XX, CC, YY, Nat.reduceAdd, Nat.reduceSub, Nat.reduceLeDiff, Nat.reduceLT, Nat.reduceEqDiff, reduceIte, ↓reduceIte, Nat.reduceBEq, g16])
    refine (names06_r (T := T) _ _ _ l l (by omega) (by omega) hm.1.rd rk2.rd).use ?_
    rw [dec_t rfl]
    (try simp only [XX, CC, YY, Nat.reduceAdd, Nat.reduceSub, Nat.reduceLeDiff, Nat.reduceLT, Nat.reduceEqDiff, reduceIte, ↓reduceIte, Nat.reduceBEq])
    exact hq _ _ (by simp only [XX, CC, YY, Nat.reduceAdd, Nat.reduceSub, Nat.reduceLeDiff, Nat.reduceLT, Nat.reduceEqDiff, reduceIte, ↓reduceIte, Nat.reduceBEq])
end
/-- Where the second loop stands. -/
structure AI (s : St) (n1 b1 n2 b2 : Nat) (v0 : AV) (i : Nat) (e : Env) (t : St) (D E : Dsk) (dn cut kp st : Int) : Prop where
  w : W2 s n1 b1 D n2 b2 E t
  v : ∃ C left ke, Vw D false true (cut - dn) kp dn C ∧ Vw E false false left ke st C
  c0 : 0 ≤ dn ∧ dn ≤ cut ∧ cut < 20
  s0 : 0 ≤ st ∧ st ≤ i
  i0 : i ≤ 300
  g0 : e.get 0 = v0
  g7 : e.get 7 = .ptr b1 0
  g8 : e.get 8 = .ptr b2 0
  g11 : e.get 11 = .int .i64 cut
  g12 : e.get 12 = .int .i64 dn
  g13 : e.get 13 = .int .i64 (i : Int)
theorem arL_eq : arL = .seq arL.fst (.seq (.block 3 (.seq arB.fst (.seq arB.snd.fst (.seq arB.snd.snd.fst (.seq arB.snd.snd.snd.fst (.seq arB.snd.snd.snd.snd.fst (.seq arB.snd.snd.snd.snd.snd.fst (.seq arB.snd.snd.snd.snd.snd.snd.fst arT)))))))) arL.snd.snd) := rfl
theorem set_FO (q : FOp) {a b c d e f : AV} : setL [a, b, c, d, e, f] 0 (cFO q) = cFO q := id rfl
set_option maxHeartbeats 8000000 in
theorem arm_round (s : St) (v0 : AV) (l : List FOp) (hl : l.length ≤ 140737488351232) (hq : ∀ q ∈ l, FOQ q) (hv : Rd 6 cFO s v0 l) (n1 b1 n2 b2 : Nat) (Q : XE → Env → St → Prop)
    (hret : ∀ e t, e.get 6 = .bool true → Q .ret e t)
    (hend : ∀ e t i D E dn cut kp st, AI s n1 b1 n2 b2 v0 i e t D E dn cut kp st → Q (.exit 2) e t)
    (J : Env → St → Prop) (d : Nat) (e : Env) (t : St) (hJ : ∀ d' e' t', d' < d → (∃ i D E dn cut kp st, i + d' = l.length ∧ AI s n1 b1 n2 b2 v0 i e' t' D E dn cut kp st) → J e' t')
    (i : Nat) (D E : Dsk) (dn cut kp st : Int) (hid : i + d = l.length) (h : AI s n1 b1 n2 b2 v0 i e t D E dn cut kp st) :
    awp (Run T) arL (loopK J Q) e t := by
  obtain ⟨w, ⟨C, left, ke, VD, VE⟩, c0, s0, i0, g0, g7, g8, g11, g12, g13⟩ := id h
  have lV : lenlA v0 = some (.int .i64 (l.length : Int)) := hv.len
  have ta := @arT_a s; have tb := @arT_b s; have tc := @arT_c s
  have hbody := arL_eq
  generalize arT = TEST at *
  rw [hbody]
  clear hbody
  have em : i < l.length ∨ ¬ i < l.length := Classical.em _
  rcases em with c1 | c1
  rotate_left
  · simp only [arB, arL, RC.snd, RC.fst, RC.inn, r_w06_FilesArm, XX, CC, YY, Nat.reduceAdd, Nat.reduceSub, Nat.reduceLeDiff, Nat.reduceLT, Nat.reduceEqDiff, reduceIte, ↓reduceIte, Nat.reduceBEq, g13, g0, lV, dec_f (show ¬ (i : Int) < (l.length : Int) by omega)]
    refine hend _ _ i D E dn cut kp st ⟨w, ⟨C, left, ke, VD, VE⟩, c0, s0, i0, ?_, ?_, ?_, ?_, ?_, ?_⟩ <;> simp only [XX, CC, YY, Nat.reduceAdd, Nat.reduceSub, Nat.reduceLeDiff, Nat.reduceLT, Nat.reduceEqDiff, reduceIte, ↓reduceIte, Nat.reduceBEq, g0, g7, g8, g11, g12, g13]
  have em2 : i < 300 ∨ ¬ i < 300 := Classical.em _
  rcases em2 with c2 | c2
  rotate_left
  · simp only [arB, arL, RC.snd, RC.fst, RC.inn, r_w06_FilesArm, XX, CC, YY, Nat.reduceAdd, Nat.reduceSub, Nat.reduceLeDiff, Nat.reduceLT, Nat.reduceEqDiff, reduceIte, ↓reduceIte, Nat.reduceBEq, g13, g0, lV, dec_t (show (i : Int) < (l.length : Int) by omega), dec_f (show ¬ (i : Int) < 300 by omega)]
    refine hend _ _ i D E dn cut kp st ⟨w, ⟨C, left, ke, VD, VE⟩, c0, s0, i0, ?_, ?_, ?_, ?_, ?_, ?_⟩ <;> simp only [XX, CC, YY, Nat.reduceAdd, Nat.reduceSub, Nat.reduceLeDiff, Nat.reduceLT, Nat.reduceEqDiff, reduceIte, ↓reduceIte, Nat.reduceBEq, g0, g7, g8, g11, g12, g13]
  have d1 := dec_t (show (i : Int) < (l.length : Int) by omega)
  have d2 := dec_t (show (i : Int) < 300 by omega)
  have w3 : IntKind.i64.wrap ((i : Int) + 1) = ((i + 1 : Nat) : Int) := w64_nat (by omega)
  have hp : l[i]? = some (l[i]'c1) := List.getElem?_eq_getElem _
  generalize l[i]'c1 = q at hp
  have hqq := hq q (List.mem_of_getElem? hp)
  obtain ⟨b0, o0, j1, j2⟩ := (hv.ext w.d.ext).get cFO_len hp
  have j3 : ldA t (some 6) (.ptr b0 o0) = some (.agg (cFO q)) := j2 (some 6) 0 (.agg (cFO q)) rfl
  have hcell := cFO_cell q
  have hlen6 := cFO_len q
  have kb := w.new (.cells true (cFO q))
  have w1 := w.app [.cells true (cFO q)]
  have hob : t.length < (t ++ [Blk.cells true (cFO q)]).length := by simp
  obtain ⟨l0, _, l2, _, _, _, l6⟩ := ld_fo kb.1
  have lold := l2
  -- another kind
  have em3 : (q.kind < 1 ∨ q.kind > 5) ∨ (¬ q.kind < 1 ∧ ¬ q.kind > 5) := by omega
  rcases em3 with em3 | ⟨k1, k5⟩
  · have fin : ∀ e', e'.get 0 = v0 → e'.get 7 = .ptr b1 0 → e'.get 8 = .ptr b2 0 → e'.get 11 = .int .i64 cut → e'.get 12 = .int .i64 dn → e'.get 13 = .int .i64 ((i + 1 : Nat) : Int) → J e' (t ++ [.cells true (cFO q)]) := by
      intro e' h0 h7 h8 h11 h12 h13
      exact hJ (d - 1) _ _ (by omega) ⟨i + 1, D, E, dn, cut, kp, st, by omega, ⟨w1, ⟨C, left, ke, VD, VE⟩, c0, by omega, by omega, h0, h7, h8, h11, h12, h13⟩⟩
    have em4 : q.kind < 1 ∨ ¬ q.kind < 1 := Classical.em _
    rcases em4 with k1 | k1
    · simp only [arB, arL, RC.snd, RC.fst, RC.inn, r_w06_FilesArm, XX, CC, YY, Nat.reduceAdd, Nat.reduceSub, Nat.reduceLeDiff, Nat.reduceLT, Nat.reduceEqDiff, reduceIte, ↓reduceIte, Nat.reduceBEq, g13, g0, lV, d1, d2, j1, j3, hcell, hlen6, set_FO, fo0, l0, dec_t k1, w3]
      refine fin _ ?_ ?_ ?_ ?_ ?_ ?_ <;> simp only [XX, CC, YY, Nat.reduceAdd, Nat.reduceSub, Nat.reduceLeDiff, Nat.reduceLT, Nat.reduceEqDiff, reduceIte, ↓reduceIte, Nat.reduceBEq, g0, g7, g8, g11, g12]
    · have k5 : q.kind > 5 := by omega
      simp only [arB, arL, RC.snd, RC.fst, RC.inn, r_w06_FilesArm, XX, CC, YY, Nat.reduceAdd, Nat.reduceSub, Nat.reduceLeDiff, Nat.reduceLT, Nat.reduceEqDiff, reduceIte, ↓reduceIte, Nat.reduceBEq, g13, g0, lV, d1, d2, j1, j3, hcell, hlen6, set_FO, fo0, l0, dec_f k1, dec_t k5, w3]
      refine fin _ ?_ ?_ ?_ ?_ ?_ ?_ <;> simp only [XX, CC, YY, Nat.reduceAdd, Nat.reduceSub, Nat.reduceLeDiff, Nat.reduceLT, Nat.reduceEqDiff, reduceIte, ↓reduceIte, Nat.reduceBEq, g0, g7, g8, g11, g12]
  -- the operation
  obtain ⟨ln, hpn, hrn⟩ := ris_ex ((con E).map (·.1)) w.e.dist fun x hx => by
    obtain ⟨f, hf, rfl⟩ := List.mem_map.1 hx
    exact nameB_size (w.e.nm f hf)
  have hlen16 : ln.length ≤ 16 := by rw [hpn.length_eq, List.length_map]; exact w.e.few
  have hcc : con E = con D := VE.con.trans VD.con.symm
  simp only [arB, arL, RC.snd, RC.fst, RC.inn, r_w06_FilesArm, XX, CC, YY, Nat.reduceAdd, Nat.reduceSub, Nat.reduceLeDiff, Nat.reduceLT, Nat.reduceEqDiff, reduceIte, ↓reduceIte, Nat.reduceBEq, g13, g0, g8, lV, d1, d2, j1, j3, hcell, hlen6, set_FO, fo0, l0, dec_f k1, dec_f k5, w3]
  generalize t ++ [Blk.cells true (cFO q)] = t1 at *
  refine (steps_w w1.e).use ?_
  rw [VE.steps]
  (try simp only [XX, CC, YY, Nat.reduceAdd, Nat.reduceSub, Nat.reduceLeDiff, Nat.reduceLT, Nat.reduceEqDiff, reduceIte, ↓reduceIte, Nat.reduceBEq, g8])
  refine (names_w w1.e ln hpn hrn _ _ (made_is t1 ln)).use ?_
  obtain ⟨rk2, w2⟩ := w1.made ln
  have kb2 := kb.made ln
  obtain ⟨_, _, m2, _, _, _, m6⟩ := ld_fo kb2.1
  generalize madeV t1 ln = bv at *
  generalize madeT t1 ln = t2 at *
  (try simp only [XX, CC, YY, Nat.reduceAdd, Nat.reduceSub, Nat.reduceLeDiff, Nat.reduceLT, Nat.reduceEqDiff, reduceIte, ↓reduceIte, Nat.reduceBEq, g8, m2])
  refine (read_w w2.e q.name hqq.1).use ?_
  rw [VE.read]
  have hos : (readK false C q.name).1.size < 140737488355328 := by
    rcases read_old (C := C) (a := q.name) with c | ⟨_, c⟩
    · rw [c]; decide
    · rw [c]
      unfold oldK
      cases hg : getK C q.name with
      | none => show (bts []).size < _; decide
      | some f =>
        have hm : f ∈ con E := by rw [VE.con]; exact List.mem_of_find?_eq_some hg
        obtain ⟨g, hgm, rfl⟩ := List.mem_map.1 hm
        have := (w.e.ok.files g hgm).2.2
        show g.1.data.size < _
        omega
  obtain ⟨old, hold⟩ : ∃ o, (readK false C q.name).1 = o := ⟨_, rfl⟩
  rw [hold] at hos
  (try simp only [XX, CC, YY, Nat.reduceAdd, Nat.reduceSub, Nat.reduceLeDiff, Nat.reduceLT, Nat.reduceEqDiff, reduceIte, ↓reduceIte, Nat.reduceBEq, g8, m6, hold])
  refine Run.mono _ _ _ _ _ ?_ (act_r w2.e q hqq)
  rintro v t3 ⟨rfl, we, gs3⟩
  have w3' := w2.st2 we gs3
  have kb3 := kb2.st2 gs3
  have rk3 := rk2.st2 gs3
  obtain ⟨_, _, _, _, _, _, p6⟩ := ld_fo kb3.1
  (try simp only [XX, CC, YY, Nat.reduceAdd, Nat.reduceSub, Nat.reduceLeDiff, Nat.reduceLT, Nat.reduceEqDiff, reduceIte, ↓reduceIte, Nat.reduceBEq, g7, p6])
  refine Run.mono _ _ _ _ _ ?_ (act_r w3'.d q hqq)
  rintro v t4 ⟨rfl, wd, gs4⟩
  have w4 := w3'.st1 wd gs4
  have kb4 := kb3.st1 gs4
  have rk4 := rk3.st1 gs4
  (try simp only [XX, CC, YY, Nat.reduceAdd, Nat.reduceSub, Nat.reduceLeDiff, Nat.reduceLT, Nat.reduceEqDiff, reduceIte, ↓reduceIte, Nat.reduceBEq])
  have em5 : opK false C q.kind q.name q.data q.n = 0 ∨ ¬ opK false C q.kind q.name q.data q.n = 0 := Classical.em _
  rcases em5 with ck | ck
  rotate_left
  · -- refused
    obtain ⟨x1, x2⟩ := VE.bad rfl ck (t2.length + 1)
    obtain ⟨y1, y2⟩ := VD.bad rfl ck (t3.length + 1)
    rw [x1, y1]
    rw [x2, y2] at w4
    refine ta (c := opK false C q.kind q.name q.data q.n) w4 VE.steps ck ?_ ?_ ?_ ?_ ?_ fun e' h0 h5 h7 h8 h11 h12 h13 => ?_
    any_goals simp only [XX, CC, YY, Nat.reduceAdd, Nat.reduceSub, Nat.reduceLeDiff, Nat.reduceLT, Nat.reduceEqDiff, reduceIte, ↓reduceIte, Nat.reduceBEq, g7, g8]
    simp only [XX, CC, YY, Nat.reduceAdd, Nat.reduceSub, Nat.reduceLeDiff, Nat.reduceLT, Nat.reduceEqDiff, reduceIte, ↓reduceIte, Nat.reduceBEq] at h0 h7 h8 h11 h12 h13
    (try simp only [XX, CC, YY, Nat.reduceAdd, Nat.reduceSub, Nat.reduceLeDiff, Nat.reduceLT, Nat.reduceEqDiff, reduceIte, ↓reduceIte, Nat.reduceBEq, h13, g13, w3])
    refine hJ (d - 1) _ _ (by omega) ⟨i + 1, D, E, dn, cut, kp, st, by omega, ⟨w4, ⟨C, left, ke, VD, VE⟩, c0, by omega, by omega, ?_, ?_, ?_, ?_, ?_, ?_⟩⟩ <;> simp only [XX, CC, YY, Nat.reduceAdd, Nat.reduceSub, Nat.reduceLeDiff, Nat.reduceLT, Nat.reduceEqDiff, reduceIte, ↓reduceIte, Nat.reduceBEq, h0, h7, h8, h11, h12, g0, g7, g8, g11, g12]
  obtain ⟨x1, VE2⟩ := VE.done ck (.inl rfl) (t2.length + 1)
  rw [x1]
  have ws : IntKind.i64.wrap (st + 1) = st + 1 := w64_in (by omega) (by omega)
  have em6 : dn < cut ∨ ¬ dn < cut := Classical.em _
  rcases em6 with cl | cl
  · -- done
    obtain ⟨y1, VD2⟩ := VD.done ck (.inr (by omega)) (t3.length + 1)
    rw [y1]
    have wl : IntKind.i64.wrap (cut - dn - 1) = cut - (dn + 1) := by rw [w64_in (by omega) (by omega)]; omega
    have wn : IntKind.i64.wrap (dn + 1) = dn + 1 := w64_in (by omega) (by omega)
    rw [wl, wn] at VD2
    rw [ws] at VE2
    refine tb w4 VE2.steps VD2.steps cl (by omega) ?_ ?_ ?_ ?_ ?_ ?_ ?_ fun e' h0 h5 h7 h8 h11 h12 h13 => ?_
    any_goals simp only [XX, CC, YY, Nat.reduceAdd, Nat.reduceSub, Nat.reduceLeDiff, Nat.reduceLT, Nat.reduceEqDiff, reduceIte, ↓reduceIte, Nat.reduceBEq, g7, g8, g11, g12]
    simp only [XX, CC, YY, Nat.reduceAdd, Nat.reduceSub, Nat.reduceLeDiff, Nat.reduceLT, Nat.reduceEqDiff, reduceIte, ↓reduceIte, Nat.reduceBEq] at h0 h7 h8 h11 h13
    (try simp only [XX, CC, YY, Nat.reduceAdd, Nat.reduceSub, Nat.reduceLeDiff, Nat.reduceLT, Nat.reduceEqDiff, reduceIte, ↓reduceIte, Nat.reduceBEq, h13, g13, w3])
    refine hJ (d - 1) _ _ (by omega) ⟨i + 1, _, _, dn + 1, cut, kp, st + 1, by omega, ⟨w4, ⟨_, _, _, VD2, VE2⟩, by omega, by omega, by omega, ?_, ?_, ?_, ?_, ?_, ?_⟩⟩ <;> simp only [XX, CC, YY, Nat.reduceAdd, Nat.reduceSub, Nat.reduceLeDiff, Nat.reduceLT, Nat.reduceEqDiff, reduceIte, ↓reduceIte, Nat.reduceBEq, h0, h7, h8, h11, h12, g0, g7, g8, g11]
  · -- the power goes
    have hz : cut - dn = 0 := by omega
    rw [hz] at VD
    obtain ⟨y1, VD2⟩ := VD.gone ck (t3.length + 1)
    rw [y1]
    rw [ws] at VE2
    have hn := ok_chk ck
    have hread := VD2.on.read q.name
    have hold2 : old = oldK C q.name := by rw [← hold]; exact read_ok hn
    have hside : ∃ S, readK false ((preL C q.kind q.name q.data).map (loseK kp)) q.name = (S, 0) ∧ ((q.kind = 1 ∧ ∃ k, S = (old ++ q.data).extract 0 k) ∨ (q.kind ≠ 1 ∧ ∃ k, S = old.extract 0 k)) := by
      by_cases k1 : q.kind = 1
      · obtain ⟨n, hg⟩ := app_there C q.name q.data
        have hpre : preL C q.kind q.name q.data = appL C q.name q.data := by unfold preL; rw [if_pos k1]
        rw [hpre]
        obtain ⟨k, hk⟩ := lose_read hn hg kp
        exact ⟨_, hk, .inl ⟨k1, k, by rw [hold2]⟩⟩
      · obtain ⟨f, hg⟩ := ok_there ck k1
        have hf := getK_name hg
        have hpre : preL C q.kind q.name q.data = C := by unfold preL; rw [if_neg k1]
        rw [hpre]
        have hg' : getK C q.name = some (q.name, f.2.1, f.2.2) := by rw [hg, ← hf]
        obtain ⟨k, hk⟩ := lose_read hn hg' kp
        refine ⟨_, hk, .inr ⟨k1, k, ?_⟩⟩
        rw [hold2]
        unfold oldK
        rw [hg]
    obtain ⟨S, hS, hk⟩ := hside
    rw [hS] at hread
    have hperm : q.kind ≠ 1 → ln.Perm ((con (opV D q.kind q.name q.data q.n (t3.length + 1))).map (·.1)) := fun k1 => by
      rw [VD2.con, lose_names]
      have hpre : preL C q.kind q.name q.data = C := by unfold preL; rw [if_neg k1]
      rw [hpre, ← VE.con]
      exact hpn
    refine tc w4 VE2.steps VD2.steps VD2.down cl ?_ ?_ ?_ ?_ ?_ ?_ hqq kb4 ?_ rk4 hlen16 ?_ hperm hrn hos ?_ hread hk fun e' t' h6 => ?_
    any_goals simp only [XX, CC, YY, Nat.reduceAdd, Nat.reduceSub, Nat.reduceLeDiff, Nat.reduceLT, Nat.reduceEqDiff, reduceIte, ↓reduceIte, Nat.reduceBEq, g7, g8, g11, g12]
    exact hret _ _ h6
end Go.Ev

/-! FilesArm: its run. -/
namespace Go.Ev
set_option linter.unusedVariables false
set_option linter.unusedSimpArgs false
open Go.Ev.So Go.Proofs

set_option maxHeartbeats 2000000 in
theorem arm_tail {s t : St} {n1 b1 n2 b2 : Nat} {v0 : AV} {i : Nat} {e : Env} {D E : Dsk} {dn cut kp st : Int} (h : AI s n1 b1 n2 b2 v0 i e t D E dn cut kp st) (s0 : St) :
    awp (Run T) arE (endK [.tmp 6] s0 fun r _ => r = .bool true) e t := by
  obtain ⟨w, ⟨C, left, ke, VD, VE⟩, _, _, _, g0, g7, g8, _, _, _⟩ := id h
  obtain ⟨l, hp, hr⟩ := ris_ex ((con D).map (·.1)) w.d.dist fun x hx => by
    obtain ⟨f, hf, rfl⟩ := List.mem_map.1 hx
    exact nameB_size (w.d.nm f hf)
  have hl : l.length ≤ 16 := by rw [hp.length_eq, List.length_map]; exact w.d.few
  have hcc : con D = con E := VD.con.trans VE.con.symm
  simp only [arE, RC.snd, r_w06_FilesArm, XX, CC, YY, Nat.reduceAdd, Nat.reduceSub, Nat.reduceLeDiff, Nat.reduceLT, Nat.reduceEqDiff, reduceIte, ↓reduceIte, Nat.reduceBEq, g7]
  refine (down_w w.d).use ?_
  rw [VD.down]
  (try simp only [XX, CC, YY, Nat.reduceAdd, Nat.reduceSub, Nat.reduceLeDiff, Nat.reduceLT, Nat.reduceEqDiff, reduceIte, ↓reduceIte, Nat.reduceBEq, g7, Bool.not_false])
  refine (names_w w.d l hp hr _ _ (made_is t l)).use ?_
  obtain ⟨rk, w1⟩ := w.made l
  generalize madeV t l = v1 at *
  generalize madeT t l = t1 at *
  (try simp only [XX, CC, YY, Nat.reduceAdd, Nat.reduceSub, Nat.reduceLeDiff, Nat.reduceLT, Nat.reduceEqDiff, reduceIte, ↓reduceIte, Nat.reduceBEq, g8])
  refine (names_w w1.e l (by rw [← hcc]; exact hp) hr _ _ (made_is t1 l)).use ?_
  obtain ⟨rk2, w2⟩ := w1.made l
  have rk1 := rk.made l
  (try simp only [XX, CC, YY, Nat.reduceAdd, Nat.reduceSub, Nat.reduceLeDiff, Nat.reduceLT, Nat.reduceEqDiff, reduceIte, ↓reduceIte, Nat.reduceBEq])
  refine (names06_r (T := T) _ _ _ l l (by omega) (by omega) rk1.rd rk2.rd).use ?_
  rw [dec_t rfl]
  (try simp only [XX, CC, YY, Nat.reduceAdd, Nat.reduceSub, Nat.reduceLeDiff, Nat.reduceLT, Nat.reduceEqDiff, reduceIte, ↓reduceIte, Nat.reduceBEq])
  exact .inl rfl
/-- Where the first loop stands. -/
structure AJ (t : St) (b1 b2 ob : Nat) (v0 : AV) (n : Int) (i : Nat) (e : Env) (all : Int) : Prop where
  a0 : 0 ≤ all ∧ all ≤ 140737488355328
  g0 : e.get 0 = v0
  g1 : e.get 1 = .int .i64 n
  g5 : e.get 5 = .ptr ob 0
  g7 : e.get 7 = .ptr b1 0
  g8 : e.get 8 = .ptr b2 0
  g9 : e.get 9 = .int .i64 all
  g10 : e.get 10 = .int .i64 (i : Int)
set_option maxHeartbeats 4000000 in
theorem arm_sum (s : St) (v0 : AV) (l : List FOp) (hl : l.length ≤ 140737488351232) (hq : ∀ q ∈ l, FOQ q) (hv : Rd 6 cFO s v0 l) (b1 b2 ob : Nat) (n : Int) (Q : XE → Env → St → Prop) (t : St) (hx : Ext s t)
    (hret : ∀ e t, e.get 6 = .bool true → Q .ret e t)
    (hend : ∀ e i all, AJ t b1 b2 ob v0 n i e all → Q (.exit 0) e t)
    (J : Env → St → Prop) (d : Nat) (e : Env) (hJ : ∀ d' e', d' < d → (∃ i all, i + d' = l.length ∧ AJ t b1 b2 ob v0 n i e' all) → J e' t)
    (i : Nat) (all : Int) (hid : i + d = l.length) (h : AJ t b1 b2 ob v0 n i e all) :
    awp (Run T) arA (loopK J Q) e t := by
  obtain ⟨a0, g0, g1, g5, g7, g8, g9, g10⟩ := id h
  have lV : lenlA v0 = some (.int .i64 (l.length : Int)) := hv.len
  have em : i < l.length ∨ ¬ i < l.length := Classical.em _
  rcases em with c1 | c1
  rotate_left
  · simp only [arA, RC.snd, RC.fst, RC.inn, r_w06_FilesArm, XX, CC, YY, Nat.reduceAdd, Nat.reduceSub, Nat.reduceLeDiff, Nat.reduceLT, Nat.reduceEqDiff, reduceIte, ↓reduceIte, Nat.reduceBEq, g10, g0, lV, dec_f (show ¬ (i : Int) < (l.length : Int) by omega)]
    refine hend _ i all ⟨a0, ?_, ?_, ?_, ?_, ?_, ?_, ?_⟩ <;> simp only [XX, CC, YY, Nat.reduceAdd, Nat.reduceSub, Nat.reduceLeDiff, Nat.reduceLT, Nat.reduceEqDiff, reduceIte, ↓reduceIte, Nat.reduceBEq, g0, g1, g5, g7, g8, g9, g10]
  have em2 : i < 300 ∨ ¬ i < 300 := Classical.em _
  rcases em2 with c2 | c2
  rotate_left
  · simp only [arA, RC.snd, RC.fst, RC.inn, r_w06_FilesArm, XX, CC, YY, Nat.reduceAdd, Nat.reduceSub, Nat.reduceLeDiff, Nat.reduceLT, Nat.reduceEqDiff, reduceIte, ↓reduceIte, Nat.reduceBEq, g10, g0, lV, dec_t (show (i : Int) < (l.length : Int) by omega), dec_f (show ¬ (i : Int) < 300 by omega)]
    refine hend _ i all ⟨a0, ?_, ?_, ?_, ?_, ?_, ?_, ?_⟩ <;> simp only [XX, CC, YY, Nat.reduceAdd, Nat.reduceSub, Nat.reduceLeDiff, Nat.reduceLT, Nat.reduceEqDiff, reduceIte, ↓reduceIte, Nat.reduceBEq, g0, g1, g5, g7, g8, g9, g10]
  have d1 := dec_t (show (i : Int) < (l.length : Int) by omega)
  have d2 := dec_t (show (i : Int) < 300 by omega)
  have w3 : IntKind.i64.wrap ((i : Int) + 1) = ((i + 1 : Nat) : Int) := w64_nat (by omega)
  have hp : l[i]? = some (l[i]'c1) := List.getElem?_eq_getElem _
  generalize l[i]'c1 = q at hp
  have hqq := (hq q (List.mem_of_getElem? hp)).2.1
  obtain ⟨b0, o0, j1, j2⟩ := (hv.ext hx).get cFO_len hp
  have j3 : ldA t none (.ptr b0 (o0 + 3)) = some (.str q.data) := j2 none 3 (.str q.data) rfl
  have w2 : IntKind.i64.wrap (all + (q.data.size : Int)) = all + (q.data.size : Int) := w64_in (by omega) (by omega)
  have em3 : all + (q.data.size : Int) > 262144 ∨ ¬ all + (q.data.size : Int) > 262144 := Classical.em _
  rcases em3 with c3 | c3
  · simp only [arA, RC.snd, RC.fst, RC.inn, r_w06_FilesArm, XX, CC, YY, Nat.reduceAdd, Nat.reduceSub, Nat.reduceLeDiff, Nat.reduceLT, Nat.reduceEqDiff, reduceIte, ↓reduceIte, Nat.reduceBEq, g10, g0, lV, d1, d2, j1, j3, g9, w2, dec_t c3]
    exact hret _ _ (by simp only [XX, CC, YY, Nat.reduceAdd, Nat.reduceSub, Nat.reduceLeDiff, Nat.reduceLT, Nat.reduceEqDiff, reduceIte, ↓reduceIte, Nat.reduceBEq])
  · simp only [arA, RC.snd, RC.fst, RC.inn, r_w06_FilesArm, XX, CC, YY, Nat.reduceAdd, Nat.reduceSub, Nat.reduceLeDiff, Nat.reduceLT, Nat.reduceEqDiff, reduceIte, ↓reduceIte, Nat.reduceBEq, g10, g0, lV, d1, d2, j1, j3, g9, w2, dec_f c3, w3]
    refine hJ (d - 1) _ (by omega) ⟨i + 1, all + (q.data.size : Int), by omega, ⟨by omega, ?_, ?_, ?_, ?_, ?_, ?_, ?_⟩⟩ <;> simp only [XX, CC, YY, Nat.reduceAdd, Nat.reduceSub, Nat.reduceLeDiff, Nat.reduceLT, Nat.reduceEqDiff, reduceIte, ↓reduceIte, Nat.reduceBEq, g0, g1, g5, g7, g8]
theorem u64w (x : Int) : IntKind.u64.wrap x = x % 18446744073709551616 := by simp [IntKind.wrap, IntKind.bits, IntKind.signed]
theorem rem20 {x : Int} (hx : 0 ≤ x) : binA .rem (.int .u64 x) (.int .u64 20) = some (.int .u64 (x % 20)) := by
  simp only [binA]
  rw [if_pos ⟨trivial, by decide⟩, Int.tmod_eq_emod_of_nonneg hx]
theorem Vw.arm {D : Dsk} {left kp st : Int} {C : List Tri} (V : Vw D false false left kp st C) {c : Int} (hc : 0 ≤ c) (k : Int) : Vw (armD D c k) false true c k st C := by
  obtain ⟨h, _, rfl, rfl, rfl, rfl⟩ := V
  have e : armD D c k = { D with armed := decide (c ≥ 0), left := c, keep := k } := by unfold armD; rw [h]; rfl
  rw [e]
  exact ⟨h, dec_t hc, rfl, rfl, rfl, rfl⟩
set_option maxHeartbeats 8000000 in
theorem arm_run (s : St) (v0 : AV) (l : List FOp) (n : Int) (last : FOp) (hl : l.length ≤ 140737488351232) (hq : ∀ q ∈ l, FOQ q) (hv : Rd 6 cFO s v0 l) (hn : -9223372036854775808 ≤ n ∧ n ≤ 9223372036854775807) (hla : FOQ last) :
    Run T f_w06_FilesArm [v0, .int .i64 n, .agg (cFO last)] s fun r _ => r = .bool true := by
  refine run_body (F := r_w06_FilesArm) (has rfl) (by simp [r_w06_FilesArm]) ?_
  have hx1 : Ext s (s ++ [.cells true (cFO last)]) := ⟨_, rfl⟩
  have hv1 := hv.ext hx1
  have hsum := arm_sum (s ++ [.cells true (cFO last)]) v0 l hl hq hv1
  have hround := arm_round (s ++ [.cells true (cFO last)]) v0 l hl hq hv1
  have htail := @arm_tail
  obtain ⟨L1, h1⟩ : ∃ c, c = arA := ⟨_, rfl⟩
  obtain ⟨L2, h2⟩ : ∃ c, c = arL := ⟨_, rfl⟩
  obtain ⟨TAIL, hT⟩ : ∃ c, c = arE := ⟨_, rfl⟩
  obtain ⟨B, hB⟩ : ∃ c, c = r_w06_FilesArm.body := ⟨_, rfl⟩
  have hbody : r_w06_FilesArm.body = .seq B.fst (.seq B.snd.fst (.seq B.snd.snd.fst (.seq B.snd.snd.snd.fst (.seq B.snd.snd.snd.snd.fst (.seq (.seq B.snd.snd.snd.snd.snd.fst.fst (.block 0 (.loop L1))) (.seq B.snd.snd.snd.snd.snd.snd.fst (.seq B.snd.snd.snd.snd.snd.snd.snd.fst (.seq B.snd.snd.snd.snd.snd.snd.snd.snd.fst (.seq (.seq B.snd.snd.snd.snd.snd.snd.snd.snd.snd.fst.fst (.block 2 (.loop L2))) TAIL))))))))) := by rw [hB, h1, h2, hT]; rfl
  rw [← h1] at hsum
  rw [← h2] at hround
  rw [← hT] at htail
  rw [hbody, hB]
  clear h1 h2 hT hbody hB
  have hb0 : boxA (some 6) (.agg (cFO last)) = some (cFO last) := rfl
  obtain ⟨_, _, _, l3, _, l5, _⟩ := ld_fo (t := s ++ [.cells true (cFO last)]) (ob := s.length) (q := last) get_last
  have hls := hla.2.1
  simp only [r_w06_FilesArm, RC.fst, RC.snd, XX, CC, YY, Nat.reduceAdd, Nat.reduceSub, Nat.reduceLeDiff, Nat.reduceLT, Nat.reduceEqDiff, reduceIte, ↓reduceIte, Nat.reduceBEq, hb0]
  generalize s ++ [Blk.cells true (cFO last)] = s1 at *
  refine (awake06_r s1).use ?_
  (try simp only [XX, CC, YY, Nat.reduceAdd, Nat.reduceSub, Nat.reduceLeDiff, Nat.reduceLT, Nat.reduceEqDiff, reduceIte, ↓reduceIte, Nat.reduceBEq, Bool.not_true])
  refine Run.mono _ _ _ _ _ ?_ (new_r s1)
  rintro v t1 ⟨rfl, rfl⟩
  have wd := new_w s1 s1 (Ext.refl s1)
  have VD := newD_Vw s1.length
  generalize s1 ++ [Blk.map [] 0, .cells true (cD (newD s1.length))] = t at *
  generalize newD s1.length = D at *
  generalize s1.length + 1 = b1 at *
  (try simp only [XX, CC, YY, Nat.reduceAdd, Nat.reduceSub, Nat.reduceLeDiff, Nat.reduceLT, Nat.reduceEqDiff, reduceIte, ↓reduceIte, Nat.reduceBEq])
  refine Run.mono _ _ _ _ _ ?_ (new_r t)
  rintro v t1 ⟨rfl, rfl⟩
  have we := new_w s1 t wd.ext
  have VE := newD_Vw t.length
  have w : W2 s1 s1.length b1 D t.length (t.length + 1) (newD t.length) (t ++ [Blk.map [] 0, .cells true (cD (newD t.length))]) := ⟨wd.app _, we, fun i hi hf => by
    have := hi.lt wd.at_
    have := hf.ge we.at_
    omega⟩
  generalize t ++ [Blk.map [] 0, .cells true (cD (newD t.length))] = t2 at *
  generalize newD t.length = E at *
  generalize t.length + 1 = b2 at *
  generalize t.length = n2 at w
  have k3 := w.d.ext.ld l3
  have k5 := w.d.ext.ld l5
  (try simp only [XX, CC, YY, Nat.reduceAdd, Nat.reduceSub, Nat.reduceLeDiff, Nat.reduceLT, Nat.reduceEqDiff, reduceIte, ↓reduceIte, Nat.reduceBEq, k3])
  refine awp_rounds (fun d e t => t = t2 ∧ ∃ i all, i + d = l.length ∧ AJ t2 b1 b2 s.length v0 n i e all) l.length ?_ ?_
  · refine ⟨rfl, 0, (last.data.size : Int), by omega, ⟨by omega, ?_, ?_, ?_, ?_, ?_, ?_, ?_⟩⟩ <;> simp only [XX, CC, YY, Nat.reduceAdd, Nat.reduceSub, Nat.reduceLeDiff, Nat.reduceLT, Nat.reduceEqDiff, reduceIte, ↓reduceIte, Nat.reduceBEq] <;> rfl
  rintro J d e t' hJ ⟨rfl, i, all, hid, h⟩
  refine hsum b1 b2 s.length n _ t' w.d.ext ?_ ?_ J d e (fun d' e' hd hh => hJ d' e' t' hd ⟨rfl, hh⟩) i all hid h
  · intro e t h6
    (try simp only [XX, CC, YY, Nat.reduceAdd, Nat.reduceSub, Nat.reduceLeDiff, Nat.reduceLT, Nat.reduceEqDiff, reduceIte, ↓reduceIte, Nat.reduceBEq, h6])
    exact .inl rfl
  clear hJ h
  intro e i all h
  obtain ⟨_, g0, g1, g5, g7, g8, _, _⟩ := h
  obtain ⟨u, hu⟩ : ∃ u, IntKind.u64.wrap n = u := ⟨_, rfl⟩
  have q0 : 0 ≤ u := by rw [← hu, u64w]; omega
  have r20 := rem20 q0
  have w20 : IntKind.i64.wrap (u % 20) = u % 20 := w64_in (by omega) (by omega)
  have c0 : 0 ≤ u % 20 ∧ u % 20 < 20 := by omega
  (try simp only [XX, CC, YY, Nat.reduceAdd, Nat.reduceSub, Nat.reduceLeDiff, Nat.reduceLT, Nat.reduceEqDiff, reduceIte, ↓reduceIte, Nat.reduceBEq, g1, hu, r20, w20, g7, g5, k5])
  generalize u % 20 = cut at *
  refine Run.mono _ _ _ _ _ ?_ (arm_w w.d cut last.keep)
  rintro v t3 ⟨rfl, wd3, gs⟩
  have w3 := w.st1 wd3 gs
  have VD3 := VD.arm c0.1 last.keep
  generalize armD D cut last.keep = D3 at *
  (try simp only [XX, CC, YY, Nat.reduceAdd, Nat.reduceSub, Nat.reduceLeDiff, Nat.reduceLT, Nat.reduceEqDiff, reduceIte, ↓reduceIte, Nat.reduceBEq])
  refine awp_rounds (fun d e t => ∃ i D E dn cut kp st, i + d = l.length ∧ AI s1 s1.length b1 n2 b2 v0 i e t D E dn cut kp st) l.length ?_ ?_
  · refine ⟨0, D3, E, 0, cut, last.keep, 0, by omega, ⟨w3, ⟨[], _, _, by rw [Int.sub_zero]; exact VD3, VE⟩, by omega, by omega, by omega, ?_, ?_, ?_, ?_, ?_, ?_⟩⟩ <;> simp only [XX, CC, YY, Nat.reduceAdd, Nat.reduceSub, Nat.reduceLeDiff, Nat.reduceLT, Nat.reduceEqDiff, reduceIte, ↓reduceIte, Nat.reduceBEq, g0, g7, g8] <;> rfl
  rintro J d e t' hJ ⟨i, D, E, dn, cut, kp, st, hid, h⟩
  refine hround _ _ _ _ _ ?_ ?_ J d e t' hJ i D E dn cut kp st hid h
  · intro e t h6
    (try simp only [XX, CC, YY, Nat.reduceAdd, Nat.reduceSub, Nat.reduceLeDiff, Nat.reduceLT, Nat.reduceEqDiff, reduceIte, ↓reduceIte, Nat.reduceBEq, h6])
    exact .inl rfl
  · intro e t i D E dn cut kp st h
    (try simp only [XX, CC, YY, Nat.reduceAdd, Nat.reduceSub, Nat.reduceLeDiff, Nat.reduceLT, Nat.reduceEqDiff, reduceIte, ↓reduceIte, Nat.reduceBEq])
    exact htail h s
end Go.Ev

/-! The arguments' types: strings, ints. -/
namespace Go.Ev
open Go.ChangeShapes Go.WideShapes Go.ChangeAt Go.RowKit Go.Proofs
set_option maxRecDepth 100000
set_option linter.unusedVariables false
set_option linter.unusedSimpArgs false

section
variable {Hh : Type} {enc : TypeId × Value → Hh} {w : World} {base : Nat} {spare : Nat → Bool} {held : Bool} {fuel : Nat} {cs : List Value} {x : DataW Hh × List MemPlace}
theorem i64_of (y : Int) (h : (Lit.int .i64 y).wf = true) : -9223372036854775808 ≤ y ∧ y ≤ 9223372036854775807 := by
  simpa [Lit.wf, IntKind.min, IntKind.max, IntKind.signed, IntKind.bits] using h
theorem arg_I {v : Value} {d : DataW Hh} {p : List MemPlace} {b0 : Nat} {r : Reach} (hv : Value.okWide Tryd.prog w r b0 3 v) (h : DataW.Trod enc Tryd.prog w base spare held 3 v d p) : ∃ q : Int, (-9223372036854775808 ≤ q ∧ q ≤ 9223372036854775807) ∧ ∀ m, VR m (.int .i64 q) v := by
  obtain ⟨y, rfl, _, _, u⟩ := open_int Tryd.underlying3 hv h
  exact ⟨y, i64_of y u, fun m => rfl⟩
theorem arg_S {v : Value} {d : DataW Hh} {p : List MemPlace} {b0 : Nat} {r : Reach} (hv : Value.okWide Tryd.prog w r b0 9 v) (h : DataW.Trod enc Tryd.prog w base spare held 9 v d p)
    {ts : List TypeId} {ds : List (DataW Hh)} (hsz : (DataW.weightsEach Tryd.prog ts ds).all (· ≤ reachBytes) = true) {j : Nat} (htj : ts[j]? = some 9) (hdj : ds[j]? = some d) : ∃ q : ByteArray, q.size < 140737488355328 ∧ ∀ m, VR m (.str q) v := by
  obtain ⟨y, rfl, rfl, _, _⟩ := Go.ChangeMaps.open_string Tryd.underlying9 hv h
  have := sized_string hsz htj hdj
  unfold reachBytes at this
  have e : y.data.toList.length = y.size := Array.length_toList ..
  exact ⟨y, by omega, fun m => rfl⟩
end

section
variable {α : Type} {H : Type} {enc : TypeId × Value → H} {P : Program} {W : World}
theorem weights_mem {e : TypeId} : ∀ {l : List (DataW H)} {d : DataW H}, d ∈ l → ∀ {w : Nat}, w ∈ d.weights P e → w ∈ DataW.weightsAll P e l
  | x :: l, d, h, w, hw => by
    unfold DataW.weightsAll
    rcases List.mem_cons.1 h with rfl | h
    · exact List.mem_append_left _ hw
    · exact List.mem_append_right _ (weights_mem h hw)
/-- A slice argument, opened, what its elements hold bounded. -/
theorem slice_argW {t e : TypeId} {v : Value} {d : DataW H} {ps : List MemPlace} {b0 : Nat} (ht : P.underlying t = some (.slice e)) (hv : Value.okWide P W .any b0 t v) (h : DataW.Trod enc P W 0 (fun _ => true) true t v d ps)
    {n : Nat} (hn : P.cellsOf e = n) (h0 : 0 < n) {en : α → List AV} (he : ∀ q, (en q).length = n) {Q : α → Prop}
    (elem : ∀ fuel cs x, DataW.trod enc P W 0 (fun _ => true) true fuel e cs = some x → (∀ w ∈ x.1.weights P e, w ≤ reachBytes) → ∃ q, Q q ∧ ∀ m, VRs m (en q) cs)
    {ts : List TypeId} {ds : List (DataW H)} (hsz : (DataW.weightsEach P ts ds).all (· ≤ reachBytes) = true) {j : Nat} (htj : ts[j]? = some t) (hdj : ds[j]? = some d) (hB : 0 < P.bytesOf e) :
    ∃ l : List α, (∀ q ∈ l, Q q) ∧ SlArg W v n en l ∧ l.length ≤ 140737488351232 := by
  obtain ⟨a, len, cap, rfl⟩ := okWide_slice ht hv
  obtain ⟨fuel, hf⟩ := h
  rcases Go.Deep.open_slice ht hf with ⟨hcs, _⟩ | ⟨a', len', cap', m, k, D, Pl, hcs, _, hl, hm, hmm, hx, hi⟩
  · simp [Value.cells] at hcs
    obtain ⟨rfl, rfl, rfl⟩ := hcs
    exact ⟨[], by simp, .inl ⟨rfl, rfl⟩, by simp⟩
  · simp [Value.cells] at hcs
    obtain ⟨rfl, rfl, rfl⟩ := hcs
    simp at hmm
    subst hmm
    rw [hn] at hi
    have hok : len ≤ m ∧ (m : Int) ≤ IntKind.i64.max ∧ W.has P .any b0 a' e m := by
      have hv' := hv
      unfold Value.okWide at hv'
      rw [ht] at hv'
      simp only [Cell.okWide, ht, Cell.ok] at hv'
      exact hv'
    obtain ⟨_, hsp, row, cells, hsh, hlies⟩ := hok.2.2
    obtain ⟨c, x, sp⟩ := a'
    simp only at hsp
    subst hsp
    unfold World.shape? at hsh
    split at hsh <;> try (simp at hsh; done)
    rename_i cs tt fz hc
    simp only [Option.some.injEq, Prod.mk.injEq] at hsh
    obtain ⟨rfl, rfl⟩ := hsh
    have hx0 := lies_le hlies
    change x ≤ _ at hx0
    change W.heap[c]? = _ at hc
    have hx1 := Nat.div_mul_le_self cs.size (P.cellsOf tt)
    have hwt : ∀ i, i < len → ∀ w ∈ (D i).weights P e, w ≤ reachBytes := by
      intro i hlt w hw
      obtain ⟨hx1, _⟩ := Prod.mk.inj hx
      have hall := List.all_eq_true.1 hsz
      refine of_decide_eq_true (hall w (DataW.weights_mem_each htj (hdj.trans (congrArg some hx1)) w ?_))
      unfold DataW.weights
      rw [ht]
      exact List.mem_cons_of_mem _ (List.mem_append_left _ (weights_mem (List.mem_map.2 ⟨i, List.mem_range.2 hlt, rfl⟩) hw))
    have cellAt : ∀ i, i < m → ∃ (cs' : List Value), DataW.trod enc P W 0 (fun _ => true) true k e cs' = some (D i, Pl i) ∧ cs'.length = n ∧ ∀ k, k < n → cs[x + (i * n + k)]? = cs'[k]? := by
      intro i hlt
      obtain ⟨cs', h1, h2⟩ := hi i hlt
      obtain ⟨_, h3, h4⟩ := World.cells?_some h1
      refine ⟨cs', h2, h3, fun k hk => ?_⟩
      have := h4 k hk
      rw [Go.Deep.add_add] at this
      rw [← this, cell_off hc]
    obtain ⟨l, hll, hle⟩ := list_of (P := fun i (q : α) => Q q ∧ ∀ k a, (en q)[k]? = some a → ∃ u : Value, cs[x + (i * n + k)]? = some u ∧ ∀ m, VR m a u) len fun i hlt => by
      obtain ⟨cs', h1, h2, h3⟩ := cellAt i (by omega)
      obtain ⟨q, hq, hvr⟩ := elem _ _ _ h1 (hwt i hlt)
      refine ⟨q, hq, fun k a ha => ?_⟩
      have hkn : k < n := by rw [← he q]; exact (List.getElem?_eq_some_iff.1 ha).1
      obtain ⟨u, hu, _⟩ := VRs.at (hvr fun _ => none) ha
      refine ⟨u, by rw [h3 k hkn]; exact hu, fun m => ?_⟩
      obtain ⟨u', hu', hr⟩ := VRs.at (hvr m) ha
      rw [hu] at hu'; cases hu'; exact hr
    refine ⟨l, ?_, .inr ⟨c, x, m, cs, tt, fz, by rw [hll], by omega, ?_, hc, ?_⟩, ?_⟩
    · intro q hq
      obtain ⟨i, hlt, rfl⟩ := List.getElem_of_mem hq
      exact (hle i _ (List.getElem?_eq_getElem hlt)).1
    · rcases Nat.eq_zero_or_pos m with rfl | hm0
      · rw [Nat.zero_mul]; omega
      · obtain ⟨cs', h1, h2, h3⟩ := cellAt (m - 1) (by omega)
        have h4 := h3 (n - 1) (by omega)
        rw [List.getElem?_eq_getElem (by omega)] at h4
        have h5 := (Array.getElem?_eq_some_iff.1 h4).1
        have : m * n = (m - 1) * n + n := by rw [← Nat.succ_mul]; congr 1; omega
        omega
    · intro i a ha
      obtain ⟨j, k, q, rfl, hk, hq, hqa⟩ := flat_at he ha
      exact (hle j q hq).2 k a hqa
    · obtain ⟨hx, _⟩ := Prod.mk.inj hx
      have z := sized_slice hsz htj (hdj.trans (congrArg some hx)) ht
      have h1 : ((List.range len).map D).length + ((List.range (m - len)).map fun j => D (len + j)).length = m := by simp; omega
      rw [h1] at z
      rw [hll]
      have : m * 1 ≤ m * P.bytesOf e := Nat.mul_le_mul_left _ hB
      unfold reachBytes at z
      omega
end
end Go.Ev

/-! The arguments' types: operations. -/
namespace Go.Ev
open Go.ChangeShapes Go.WideShapes Go.ChangeAt Go.RowKit Go.Proofs
set_option maxRecDepth 100000
set_option linter.unusedVariables false
set_option linter.unusedSimpArgs false

section
variable {Hh : Type} {enc : TypeId × Value → Hh} {w : World} {base : Nat} {spare : Nat → Bool} {held : Bool} {fuel : Nat} {cs : List Value} {x : DataW Hh × List MemPlace}
theorem agg_weight2 {fs : Array Field} {t e : TypeId} {xs : List (DataW Hh)} {j : Nat} {y : ByteArray} (ht : Tryd.prog.underlying t = some (.struct fs)) (hj : (fs.toList.map (·.type))[j]? = some e) (hx : xs[j]? = some (.lit (.string y.data.toList)))
    (hw : ∀ w ∈ (DataW.agg xs).weights Tryd.prog t, w ≤ reachBytes) : y.size < 140737488355328 := by
  have h1 : y.data.toList.length ∈ DataW.weightsEach Tryd.prog (fs.toList.map (·.type)) xs := DataW.weights_mem_each hj hx _ (by unfold DataW.weights; exact List.mem_singleton.2 rfl)
  have h2 := hw y.data.toList.length (by unfold DataW.weights; rw [ht]; exact h1)
  have e : y.data.toList.length = y.size := Array.length_toList ..
  unfold reachBytes at h2
  omega
theorem trod_FO (h : DataW.trod enc Tryd.prog w base spare held fuel 44 cs = some x) (hw : ∀ w ∈ x.1.weights Tryd.prog 44, w ≤ reachBytes) : ∃ q : FOp, FOQ q ∧ ∀ m, VRs m (cFO q) cs := by
  obtain ⟨xs, n, _, hx, hl, hlen, hf⟩ := DataW.trod_struct Tryd.underlying44 h
  have hl' : cs.length = 6 := hl.trans (by kernel_rfl)
  obtain ⟨c0, c1, c2, c3, c4, c5, rfl⟩ : ∃ c0 c1 c2 c3 c4 c5 : Value, cs = [c0, c1, c2, c3, c4, c5] := by
    match cs, hl' with
    | [c0, c1, c2, c3, c4, c5], _ => exact ⟨_, _, _, _, _, _, rfl⟩
  have kS : Tryd.prog.cellsOf 9 = 1 := by kernel_rfl
  have kI : Tryd.prog.cellsOf 3 = 1 := by kernel_rfl
  have h0 : DataW.trod enc Tryd.prog w base spare held n 3 ((([c0, c1, c2, c3, c4, c5] : List Value).drop 0).take (Tryd.prog.cellsOf 3)) = xs[0]? := hf 0 _ rfl
  rw [kI, List.getElem?_eq_getElem (by rw [hlen]; decide)] at h0
  have h1 : DataW.trod enc Tryd.prog w base spare held n 3 ((([c0, c1, c2, c3, c4, c5] : List Value).drop 1).take (Tryd.prog.cellsOf 3)) = xs[1]? := hf 1 _ rfl
  rw [kI, List.getElem?_eq_getElem (by rw [hlen]; decide)] at h1
  have h2 : DataW.trod enc Tryd.prog w base spare held n 9 ((([c0, c1, c2, c3, c4, c5] : List Value).drop 2).take (Tryd.prog.cellsOf 9)) = xs[2]? := hf 2 _ rfl
  rw [kS, List.getElem?_eq_getElem (by rw [hlen]; decide)] at h2
  have h3 : DataW.trod enc Tryd.prog w base spare held n 9 ((([c0, c1, c2, c3, c4, c5] : List Value).drop 3).take (Tryd.prog.cellsOf 9)) = xs[3]? := hf 3 _ rfl
  rw [kS, List.getElem?_eq_getElem (by rw [hlen]; decide)] at h3
  have h4 : DataW.trod enc Tryd.prog w base spare held n 3 ((([c0, c1, c2, c3, c4, c5] : List Value).drop 4).take (Tryd.prog.cellsOf 3)) = xs[4]? := hf 4 _ rfl
  rw [kI, List.getElem?_eq_getElem (by rw [hlen]; decide)] at h4
  have h5 : DataW.trod enc Tryd.prog w base spare held n 3 ((([c0, c1, c2, c3, c4, c5] : List Value).drop 5).take (Tryd.prog.cellsOf 3)) = xs[5]? := hf 5 _ rfl
  rw [kI, List.getElem?_eq_getElem (by rw [hlen]; decide)] at h5
  obtain ⟨y0, e0, _, u0⟩ := DataW.trod_int Tryd.underlying3 h0
  obtain rfl : c0 = .int .i64 y0 := by simpa using e0
  obtain ⟨y1, e1, _, u1⟩ := DataW.trod_int Tryd.underlying3 h1
  obtain rfl : c1 = .int .i64 y1 := by simpa using e1
  obtain ⟨y2, e2, f2, _⟩ := DataW.trod_string Tryd.underlying9 h2
  obtain rfl : c2 = .string y2 := by simpa using e2
  obtain ⟨y3, e3, f3, _⟩ := DataW.trod_string Tryd.underlying9 h3
  obtain rfl : c3 = .string y3 := by simpa using e3
  obtain ⟨y4, e4, _, u4⟩ := DataW.trod_int Tryd.underlying3 h4
  obtain rfl : c4 = .int .i64 y4 := by simpa using e4
  obtain ⟨y5, e5, _, u5⟩ := DataW.trod_int Tryd.underlying3 h5
  obtain rfl : c5 = .int .i64 y5 := by simpa using e5
  rw [hx] at hw
  refine ⟨⟨y0, y1, y2, y3, y4, y5⟩, ⟨agg_weight2 (j := 2) Tryd.underlying44 rfl (by rw [List.getElem?_map, List.getElem?_eq_getElem (by rw [hlen]; decide), f2]; rfl) hw, agg_weight2 (j := 3) Tryd.underlying44 rfl (by rw [List.getElem?_map, List.getElem?_eq_getElem (by rw [hlen]; decide), f3]; rfl) hw, i64_of y4 u4⟩, fun m => ⟨_, _, rfl, rfl, _, _, rfl, rfl, _, _, rfl, rfl, _, _, rfl, rfl, _, _, rfl, rfl, _, _, rfl, rfl, rfl⟩⟩
/-- An operation by value. -/
theorem arg_FO {v : Value} {d : DataW Hh} {p : List MemPlace} {b0 : Nat} {r : Reach} (hv : Value.okWide Tryd.prog w r b0 44 v) (h : DataW.Trod enc Tryd.prog w base spare held 44 v d p)
    {ts : List TypeId} {ds : List (DataW Hh)} (hsz : (DataW.weightsEach Tryd.prog ts ds).all (· ≤ reachBytes) = true) {j : Nat} (htj : ts[j]? = some 44) (hdj : ds[j]? = some d) : ∃ q : FOp, FOQ q ∧ ∀ m, VR m (.agg (cFO q)) v := by
  obtain ⟨cs, rfl, _⟩ := okWide_struct Tryd.underlying44 hv
  obtain ⟨fuel, hf⟩ := h
  obtain ⟨q, hq, hr⟩ := trod_FO hf fun w hw => of_decide_eq_true (List.all_eq_true.1 hsz w (DataW.weights_mem_each htj hdj w hw))
  exact ⟨q, hq, fun m => ⟨cs, rfl, hr m⟩⟩
end
end Go.Ev
