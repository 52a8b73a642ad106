import Derived.Test.YtakjhoigkpikfaaDoorZWalCrash5
import Derived.Test.YtakjhoigkpikfaaDoorZWalCrash2
import Derived.Test.YtakjhoigkpikfaaDoorZWalCrash3
/-! A disk with one file, the log's, at most. -/
namespace Go.Ev
set_option linter.unusedVariables false
set_option linter.unusedSimpArgs false
open Go.Ev.So Go.Proofs

def HF (D : Dsk) (data : ByteArray) (safe : Int) : Prop := (D.fs = [] ∧ data = bts [] ∧ safe = 0) ∨ ∃ fb k, D.fs = [(⟨wNm, data, safe, fb⟩, k)]
section
variable {D : Dsk} {data : ByteArray} {safe : Int}
theorem HF.same {D' : Dsk} (h : HF D data safe) (e : D'.fs = D.fs) : HF D' data safe := by unfold HF at h ⊢; rw [e]; exact h
theorem HF.ok (h : HF D data safe) (hO : DOk D) : FOk data safe := by
  rcases h with ⟨_, rfl, rfl⟩ | ⟨fb, k, h⟩
  · unfold FOk; exact ⟨by omega, by decide, by decide⟩
  · exact hO.files (⟨wNm, data, safe, fb⟩, k) (by rw [h]; exact List.mem_singleton.2 rfl)
theorem chk_log (hd : D.down = false) : chkV D [wNm] = 0 := by
  have e : ([wNm].all nameB) = true := by kernel_rfl
  unfold chkV; rw [hd, e]; rfl
theorem HF.get (h : HF D data safe) : (D.fs = [] ∧ data = bts [] ∧ safe = 0 ∧ getF D wNm = none) ∨ ∃ fb k, D.fs = [(⟨wNm, data, safe, fb⟩, k)] ∧ getF D wNm = some ⟨wNm, data, safe, fb⟩ := by
  rcases h with ⟨h, rfl, rfl⟩ | ⟨fb, k, h⟩
  · refine .inl ⟨h, rfl, rfl, ?_⟩
    unfold getF; rw [h]; rfl
  · refine .inr ⟨fb, k, h, ?_⟩
    unfold getF; rw [h]; simp
theorem HF.read (h : HF D data safe) (hd : D.down = false) : (readV D wNm).1 = data ∧ ((readV D wNm).2 = 0 ∨ (readV D wNm).2 = 62) := by
  unfold readV
  rw [chk_log hd]
  rcases h.get with ⟨_, rfl, _, hg⟩ | ⟨fb, k, _, hg⟩ <;> rw [hg]
  · exact ⟨rfl, .inr rfl⟩
  · exact ⟨rfl, .inl rfl⟩
theorem HF.app (h : HF D data safe) (hd : D.down = false) (x : ByteArray) (hs : data.size + x.size ≤ 1048576) (fb : Nat) :
    appC D wNm x = 0 ∧ HF (appM D wNm x fb) (data ++ x) safe ∧ (appM D wNm x fb).down = false ∧ (gone (appM D wNm x fb) ↔ gone D) := by
  unfold appC appM
  rw [chk_log hd]
  rcases h.get with ⟨hf, rfl, rfl, hg⟩ | ⟨fb', k, hf, hg⟩ <;> rw [hg]
  · have hl : ¬ D.fs.length ≥ 16 := by rw [hf]; decide
    have e0 : (bts []).size = 0 := rfl
    have hz : ¬ (x.size : Int) > 1048576 := by omega
    refine ⟨by simp only; rw [if_neg (by simp), if_neg hl, if_neg hz], .inr ⟨fb, D.clock, ?_⟩, hd, Iff.rfl⟩
    show D.fs ++ _ = _
    rw [hf]; rfl
  · have hz : ¬ (x.size : Int) > 1048576 - data.size := by omega
    refine ⟨by simp only; rw [if_neg (by simp), if_neg hz], .inr ⟨fb', k, ?_⟩, hd, Iff.rfl⟩
    show D.fs.map _ = _
    rw [hf]; simp [updF]
theorem HF.lose (h : HF D data safe) (hk : FOk data safe) (keep : Int) : ∃ K : Nat, safe ≤ K ∧ K ≤ data.size ∧ HF (loseD D keep) (data.extract 0 K) K ∧ (keep = 0 → (K : Int) = safe) := by
  rcases h with ⟨hf, rfl, rfl⟩ | ⟨fb, k, hf⟩
  · refine ⟨0, by omega, Nat.zero_le _, .inl ⟨?_, by kernel_rfl, rfl⟩, fun _ => rfl⟩
    show D.fs.map _ = _
    rw [hf]; rfl
  · obtain ⟨h1, h2⟩ := kept_in (keep := keep) hk
    unfold FOk at hk
    refine ⟨(keptF keep data safe).toNat, by omega, by omega, .inr ⟨fb, k, ?_⟩, fun h0 => ?_⟩
    · show D.fs.map _ = _
      rw [hf]
      have e : ((keptF keep data safe).toNat : Int) = keptF keep data safe := by omega
      simp [loseF, e]
    · subst h0
      have : keptF 0 data safe = safe := by unfold keptF; rw [if_neg (by decide)]
      omega
theorem HF.spend (h : HF D data safe) (hk : FOk data safe) (hd : D.down = false) : (spendC D = 0 ∧ HF (spendV D) data safe ∧ (spendV D).down = false) ∨ (gone D ∧ spendC D = 60 ∧ (spendV D).down = true ∧ ∃ K : Nat, safe ≤ K ∧ K ≤ data.size ∧ HF (spendV D) (data.extract 0 K) K) := by
  unfold spendC spendV
  by_cases c : gone D
  · rw [if_pos c, if_pos c]
    obtain ⟨K, h1, h2, h3, _⟩ := h.lose hk D.keep
    exact .inr ⟨c, rfl, rfl, K, h1, h2, h3⟩
  · rw [if_neg c, if_neg c]
    exact .inl ⟨rfl, h.same rfl, hd⟩
theorem HF.syn (h : HF D data safe) (hk : FOk data safe) (hd : D.down = false) (hne : data ≠ bts []) :
    (outC D (syncC D wNm) = 0 ∧ HF (syncV D wNm) data data.size ∧ (syncV D wNm).down = false) ∨ (gone D ∧ outC D (syncC D wNm) = 60 ∧ (syncV D wNm).down = true ∧ ∃ K : Nat, safe ≤ K ∧ K ≤ data.size ∧ HF (syncV D wNm) (data.extract 0 K) K) := by
  rcases h.get with ⟨_, h2, _⟩ | ⟨fb, k, hf, hg⟩
  · exact absurd h2 hne
  · have hc : syncC D wNm = 0 := by unfold syncC; rw [chk_log hd, hg]; rfl
    have e1 : outC D (syncC D wNm) = spendC D := by unfold outC; rw [hc]; rfl
    have e2 : syncV D wNm = if spendC D ≠ 0 then spendV D else Go.Ev.setF (spendV D) wNm fun x => { x with safe := x.data.size } := by unfold syncV; rw [hc]; rfl
    rcases h.spend hk hd with ⟨h1, h2, h3⟩ | ⟨h0, h1, h2, K, h3, h4, h5⟩
    · refine .inl ⟨by rw [e1, h1], ?_, ?_⟩
      · rw [e2, h1]
        rcases spendC_val D with ⟨g1, g2⟩ | ⟨g1, _⟩
        · rw [g2]
          refine .inr ⟨fb, k, ?_⟩
          show (Go.Ev.setF (spendD D) wNm _).fs = _
          show D.fs.map _ = _
          rw [hf]; simp [updF]
        · rw [h1] at g1; cases g1
      · rw [e2, h1]; exact h3
    · refine .inr ⟨h0, by rw [e1, h1], ?_, K, h3, h4, ?_⟩
      · rw [e2, h1]; exact h2
      · rw [e2, h1]; exact h5
theorem HF.lapp {L : Lg} (h : HF D data safe) (hk : FOk data safe) (hd : D.down = false) (hL : L.name = wNm) (he : L.ended = false) {r : ByteArray} (hr : Good r) (hs : data.size + (frameV r).1.size ≤ 1048576) (fb : Nat) :
    (appCode L D r = 0 ∧ (appLog L D r).ended = false ∧ (appDisk L D r fb).down = false ∧ HF (appDisk L D r fb) (data ++ (frameV r).1) safe) ∨
    (gone D ∧ appCode L D r = 60 ∧ (appLog L D r).ended = true ∧ (appDisk L D r fb).down = true ∧ ∃ K : Nat, safe ≤ K ∧ K ≤ (data ++ (frameV r).1).size ∧ HF (appDisk L D r fb) ((data ++ (frameV r).1).extract 0 K) K) := by
  have ho : lgOff L D = false := by unfold lgOff; rw [hd, he]; rfl
  have hf : (frameV r).2 = 0 := by
    rcases frame_code r with h | h
    · exact h.1
    · unfold frameV at h; rw [if_pos (show 1 ≤ r.size ∧ r.size ≤ 65536 from hr)] at h; cases h
  obtain ⟨c1, c2, c3, c4⟩ := h.app hd (frameV r).1 hs fb
  have hk2 : FOk (data ++ (frameV r).1) safe := by
    unfold FOk at hk ⊢
    rw [app_size]; omega
  have eC : appCode L D r = spendC D := by unfold appCode; rw [ho, hf, hL, c1]; rfl
  have eD : appDisk L D r fb = spendV (appM D wNm (frameV r).1 fb) := by
    unfold appDisk; rw [ho, hf, hL]
    show appV D wNm _ fb = _
    unfold appV; rw [c1]; rfl
  have eE : (appLog L D r).ended = decide (spendC D = 60) := by
    unfold appLog; rw [ho, hf, hL, c1]; rfl
  rw [eC, eD, eE]
  have hg : spendC (appM D wNm (frameV r).1 fb) = spendC D := by
    unfold spendC
    by_cases c : gone D
    · rw [if_pos c, if_pos (c4.2 c)]
    · rw [if_neg c, if_neg (fun x => c (c4.1 x))]
  rcases c2.spend hk2 c3 with ⟨h1, h2, h3⟩ | ⟨h0, h1, h2, K, h3, h4, h5⟩
  · rw [hg] at h1
    exact .inl ⟨h1, by rw [h1]; rfl, h3, h2⟩
  · rw [hg] at h1
    exact .inr ⟨c4.1 h0, h1, by rw [h1]; rfl, h2, K, h3, h4, h5⟩
theorem HF.lsyn {L : Lg} (h : HF D data safe) (hk : FOk data safe) (hd : D.down = false) (hL : L.name = wNm) (he : L.ended = false) (hne : data ≠ bts []) :
    (syncCode L D = 0 ∧ (syncLog L D).ended = false ∧ (syncDisk L D).down = false ∧ HF (syncDisk L D) data data.size) ∨
    (gone D ∧ syncCode L D = 60 ∧ (syncLog L D).ended = true ∧ (syncDisk L D).down = true ∧ ∃ K : Nat, safe ≤ K ∧ K ≤ data.size ∧ HF (syncDisk L D) (data.extract 0 K) K) := by
  have ho : lgOff L D = false := by unfold lgOff; rw [hd, he]; rfl
  have eD : syncDisk L D = syncV D wNm := by unfold syncDisk; rw [ho, hL]; rfl
  have eE : (syncLog L D).ended = decide (outC D (syncC D wNm) = 60) := by unfold syncLog; rw [ho, hL]; rfl
  rcases h.syn hk hd hne with ⟨h1, h2, h3⟩ | ⟨h0, h1, h2, K, h3, h4, h5⟩
  · exact .inl ⟨by unfold syncCode; rw [ho, hL, h1]; rfl, by rw [eE, h1]; rfl, by rw [eD]; exact h3, by rw [eD]; exact h2⟩
  · exact .inr ⟨h0, by unfold syncCode; rw [ho, hL, h1]; rfl, by rw [eE, h1]; rfl, by rw [eD]; exact h2, K, h3, h4, by rw [eD]; exact h5⟩
theorem off_app {L : Lg} (ho : lgOff L D = true) (r : ByteArray) (fb : Nat) : appCode L D r = 60 ∧ appDisk L D r fb = D ∧ (appLog L D r).ended = true ∧ (appLog L D r).name = L.name := by
  refine ⟨by unfold appCode; rw [ho]; rfl, by unfold appDisk; rw [ho]; rfl, by unfold appLog; rw [ho]; rfl, rfl⟩
theorem off_syn {L : Lg} (ho : lgOff L D = true) : syncCode L D = 60 ∧ syncDisk L D = D := by
  refine ⟨by unfold syncCode; rw [ho]; rfl, by unfold syncDisk; rw [ho]; rfl⟩
theorem HF.opn (h : HF D data safe) (hd : D.down = false) (ha : D.armed = false) {l : List ByteArray} {m : Nat} (hsc : scanV data = (l, m)) (hm : m ≤ data.size) (b : Nat) :
    openE D wNm = 0 ∧ (∃ s', HF (openD D wNm) (data.extract 0 m) s') ∧ (openD D wNm).down = false ∧ (openD D wNm).armed = false ∧ (scanV (readV D wNm).1).1 = l ∧ openL D wNm b = ⟨b, wNm, m, false⟩ := by
  obtain ⟨r1, r2⟩ := h.read hd
  have hX : openX D wNm = false := by unfold openX; rw [decide_eq_false]; omega
  have hS : openS D wNm = decide ((m : Int) < data.size) := by unfold openS; rw [r1, hsc]
  have hn : ¬ gone D := fun g => by have := g.1; rw [ha] at this; cases this
  have hsp : spendC D = 0 := by unfold spendC; rw [if_neg hn]
  have hsV : spendV D = spendD D := by unfold spendV; rw [if_neg hn]
  have hrest : (scanV (readV D wNm).1).1 = l ∧ openL D wNm b = ⟨b, wNm, m, false⟩ := by
    unfold openL; rw [r1, hsc]; exact ⟨rfl, rfl⟩
  by_cases c : (m : Int) < data.size
  · have hS' : openS D wNm = true := by rw [hS, decide_eq_true c]
    have e1 : openE D wNm = outC D (cutC D wNm m) := by unfold openE; rw [hX, hS', r1, hsc]; rfl
    have e2 : openD D wNm = cutV' D wNm m := by unfold openD; rw [hX, hS', r1, hsc]; rfl
    rcases h.get with ⟨_, h2, _⟩ | ⟨fb, k, hf, hg⟩
    · exfalso
      have e0 : (bts []).size = 0 := rfl
      rw [h2] at c; omega
    · have hc : cutC D wNm m = 0 := by
        unfold cutC; rw [chk_log hd, hg]
        simp only
        rw [if_neg (by simp), if_neg (by omega)]
      have e3 : cutV' D wNm m = setF (spendD D) wNm fun x => { x with data := x.data.extract 0 (m : Int).toNat, safe := m } := by
        unfold cutV'; rw [hc, hsp, hsV]; rfl
      rw [e1, e2, e3]
      refine ⟨by unfold outC; rw [hc]; exact hsp, ⟨m, .inr ⟨fb, k, ?_⟩⟩, hd, ha, hrest⟩
      show D.fs.map _ = _
      rw [hf]; simp [updF]
  · have hS' : openS D wNm = false := by rw [hS, decide_eq_false c]
    have e1 : openE D wNm = 0 := by unfold openE; rw [hX, hS']; rfl
    have e2 : openD D wNm = D := by unfold openD; rw [hX, hS']; rfl
    rw [e1, e2, ext_all _ (by omega)]
    exact ⟨rfl, ⟨safe, h⟩, hd, ha, hrest⟩
theorem HF.now (h : HF D data safe) (hd : D.down = false) (ha : D.armed = false) : ¬ gone D := fun g => by have := g.1; rw [ha] at this; cases this
end
end Go.Ev

/-! A disk, a log, a slice in one store; the program's calls over them. -/
namespace Go.Ev
set_option linter.unusedVariables false
set_option linter.unusedSimpArgs false
open Go.Ev.So Go.Proofs

def RC.fst : RC → RC
  | .seq a _ => a
  | c => c
def RC.snd : RC → RC
  | .seq _ b => b
  | c => c
def RC.inn : RC → RC
  | .block _ c => c
  | .loop c => c
  | c => c
/-- From disk to disk; besides, what X tells may turn. -/
structure GStep (n b : Nat) (X : Nat → Prop) (D D' : Dsk) (t t' : St) : Prop where
  at_ : DAt t' n b D'
  ok : DOk D'
  len : t.length ≤ t'.length
  same : ∀ i, i < t.length → ¬ DFoot b D i → ¬ X i → t'[i]? = t[i]?
  foot : ∀ i, DFoot b D' i → DFoot b D i ∨ t.length ≤ i
structure CW (s : St) (n b : Nat) (D : Dsk) (t : St) : Prop where
  at_ : DAt t n b D
  ok : DOk D
  nt : n ≤ t.length
  foot : ∀ i, DFoot b D i → s.length ≤ i
  len : s.length ≤ t.length
  same : ∀ i, i < s.length → t[i]? = s[i]?
structure LW (s : St) (b : Nat) (D : Dsk) (k : Nat) (L : Lg) (t : St) : Prop where
  log : t[k]? = some (.cells true (cG L))
  out : ¬ DFoot b D k
  base : s.length ≤ k
  db : L.db = b
  name : L.name.size < 1000000000
structure SW (s : St) (b : Nat) (D : Dsk) (t : St) (v : AV) (l : List ByteArray) : Prop where
  own : Own s.length 1 cS t v l
  out : ∀ i, (∃ o e m c, v = .sl i o e m c) → ¬ DFoot b D i
section
variable {s t t' : St} {n b k : Nat} {D D' : Dsk} {L L' : Lg} {v : AV} {l : List ByteArray} {X : Nat → Prop}
theorem DStep.g (h : DStep n b D D' t t') : GStep n b (fun _ => False) D D' t t' := ⟨h.at_, h.ok, h.len, fun i hi hf _ => h.same i hi hf, h.foot⟩
theorem CW.ext (h : CW s n b D t) : Ext s t := ext_same h.len h.same
theorem CW.step (h : CW s n b D t) (g : GStep n b X D D' t t') (hX : ∀ i, X i → s.length ≤ i) : CW s n b D' t' := by
  have h1 := h.len
  have h2 := g.len
  have h3 := h.nt
  refine ⟨g.at_, g.ok, by omega, fun i hi => ?_, by omega, fun i hi => ?_⟩
  · rcases g.foot i hi with x | x
    · exact h.foot i x
    · omega
  · rw [g.same i (by omega) (fun x => by have := h.foot i x; omega) (fun x => by have := hX i x; omega)]
    exact h.same i hi
theorem LW.lt (h : LW s b D k L t) : k < t.length := (List.getElem?_eq_some_iff.1 h.log).1
theorem LW.step (h : LW s b D k L t) (g : GStep n b X D D' t t') (hX : ¬ X k) : LW s b D' k L t' := by
  refine ⟨?_, fun x => ?_, h.base, h.db, h.name⟩
  · rw [g.same k h.lt h.out hX]; exact h.log
  · have := h.lt
    rcases g.foot k x with y | y
    · exact h.out y
    · omega
theorem Own.lt (h : Own n 1 cS t v l) {i : Nat} (hv : ∃ o e m c, v = .sl i o e m c) : i < t.length := by
  obtain ⟨o, e, m, c, hv⟩ := hv
  exact (h.rd cS_len).lt hv
theorem SW.step (h : SW s b D t v l) (g : GStep n b X D D' t t') (hX : ∀ i, X i → ¬ ∃ o e m c, v = .sl i o e m c) : SW s b D' t' v l := by
  refine ⟨h.own.keep fun i hi hv => ?_, fun i hv x => ?_⟩
  · exact g.same i (h.own.lt hv) (h.out i hv) (fun x => hX i x hv)
  · have := h.own.lt hv
    rcases g.foot i x with y | y
    · exact h.out i hv y
    · omega
theorem CW.app (h : CW s n b D t) (r : St) : GStep n b (fun _ => False) D D t (t ++ r) := ⟨h.at_.ext ⟨r, rfl⟩, h.ok, by simp, fun i hi _ _ => List.getElem?_append_left hi, fun i x => .inl x⟩
theorem CW.by (h : CW s n b D t) (hl : t.length ≤ t'.length) (hs : ∀ i, i < t.length → ¬ X i → t'[i]? = t[i]?) (hX : ∀ i, X i → ¬ DFoot b D i) : GStep n b X D D t t' :=
  ⟨h.at_.other fun i hi => hs i (hi.lt h.at_) fun x => hX i x hi, h.ok, hl, fun i hi _ hx => hs i hi hx, fun i x => .inl x⟩
theorem lapp_w (hC : CW s n b D t) (hL : LW s b D k L t) (p : ByteArray) (hp : p.size < 1000000) :
    Run T f_wal_Log_Append [.ptr k 0, .str p] t fun v t' => v = .int .i64 (appCode L D p) ∧ LW s b (appDisk L D p t.length) k (appLog L D p) t' ∧ GStep n b (fun i => i = k) D (appDisk L D p t.length) t t' := by
  obtain ⟨h1, h2, h3, h4, h5⟩ := hL
  subst h4
  refine Run.mono _ _ _ _ _ ?_ (lgappend_r t n k L D p h1 hC.at_ hC.ok hC.nt h2 h5 hp)
  rintro v t' ⟨rfl, h⟩
  exact ⟨rfl, ⟨h.log, by have := h.out h1 h2; rw [h.db] at this; exact this, h3, h.db, by rw [h.name]; exact h5⟩, h.at_, h.ok, h.len, fun i hi hf hk => h.same i hi hf hk, h.foot⟩
theorem lsyn_w (hC : CW s n b D t) (hL : LW s b D k L t) :
    Run T f_wal_Log_Sync [.ptr k 0] t fun v t' => v = .int .i64 (syncCode L D) ∧ LW s b (syncDisk L D) k (syncLog L D) t' ∧ GStep n b (fun i => i = k) D (syncDisk L D) t t' := by
  obtain ⟨h1, h2, h3, h4, h5⟩ := hL
  subst h4
  refine Run.mono _ _ _ _ _ ?_ (lgsync_r t n k L D h1 hC.at_ hC.ok h2 h5)
  rintro v t' ⟨rfl, h⟩
  exact ⟨rfl, ⟨h.log, by have := h.out h1 h2; rw [h.db] at this; exact this, h3, h.db, by rw [h.name]; exact h5⟩, h.at_, h.ok, h.len, fun i hi hf hk => h.same i hi hf hk, h.foot⟩
theorem off_w (hC : CW s n b D t) (keep : Int) : Run T f_files_Disk_Off [.ptr b 0, .int .i64 keep] t fun v t' => v = .tup [] ∧ GStep n b (fun _ => False) D (offV D keep) t t' := by
  refine Run.mono _ _ _ _ _ ?_ (off_g t n b D keep hC.at_ hC.ok)
  rintro v t' ⟨rfl, h⟩
  exact ⟨rfl, h.g⟩
theorem on_w (hC : CW s n b D t) : Run T f_files_Disk_On [.ptr b 0] t fun v t' => v = .tup [] ∧ GStep n b (fun _ => False) D (onD D) t t' := by
  refine Run.mono _ _ _ _ _ ?_ (on_g t n b D hC.at_ hC.ok)
  rintro v t' ⟨rfl, h⟩
  exact ⟨rfl, h.g⟩
theorem arm_w (hC : CW s n b D t) (j keep : Int) : Run T f_files_Disk_Arm [.ptr b 0, .int .i64 j, .int .i64 keep] t fun v t' => v = .tup [] ∧ GStep n b (fun _ => False) D (armD D j keep) t t' := by
  refine Run.mono _ _ _ _ _ ?_ (arm_g t n b D j keep hC.at_ hC.ok)
  rintro v t' ⟨rfl, h⟩
  exact ⟨rfl, h.g⟩
theorem opn_w (hC : CW s n b D t) (name : ByteArray) (hs : name.size < 1000000000) (hE : openE D name = 0) :
    Run T f_wal_Open [.ptr b 0, .str name] t fun v t' => ∃ k r, v = .tup [.ptr k 0, r, .int .i64 0] ∧ t.length ≤ k ∧ GStep n b (fun _ => False) D (openD D name) t t' ∧ LW s b (openD D name) k (openL D name b) t' ∧ SW s b (openD D name) t' r (scanV (readV D name).1).1 ∧ (∀ i, (∃ o e m c, r = .sl i o e m c) → t.length ≤ i ∧ i ≠ k) := by
  refine Run.mono _ _ _ _ _ ?_ (open_r t n b D name hC.at_ hC.ok hs)
  rintro v t' ⟨h1, _, h2⟩
  obtain ⟨k, r, rfl, hk, hk2, hown, hne⟩ := h2 hE
  have hl := hC.len
  have hlt : ∀ i, DFoot b (openD D name) i → i < t.length := fun i x => ((openD_foot D name b i).1 x).lt hC.at_
  have hrl : ∀ i, (∃ o e m c, r = .sl i o e m c) → t.length ≤ i := fun i hv => by
    obtain ⟨o, e, m, c, hv⟩ := hv
    exact hown.ge hv
  exact ⟨k, r, rfl, hk, h1.g, ⟨hk2, fun x => by have := hlt k x; omega, by omega, rfl, hs⟩, ⟨hown.mono hl, fun i hv x => by have := hlt i x; have := hrl i hv; omega⟩, fun i hv => ⟨hrl i hv, fun x => by
    obtain ⟨o, e, m, c, hv⟩ := hv
    subst x
    exact hne o e m c hv⟩⟩
end
end Go.Ev

/-! WalCrash: behind its loop. -/
namespace Go.Ev
set_option linter.unusedVariables false
set_option linter.unusedSimpArgs false
open Go.Ev.So Go.Proofs

def wMore : ByteArray := bts [109, 111, 114, 101]
theorem more_good : Good wMore := ⟨by decide, by decide⟩
theorem arm_app {L : Lg} {D : Dsk} (h : D.armed = false) (p : ByteArray) (fb : Nat) : (appDisk L D p fb).armed = false := by
  have hs : ∀ D : Dsk, D.armed = false → (spendV D).armed = false := fun D h => by
    unfold spendV; split
    · rfl
    · exact h
  unfold appDisk
  split
  · exact h
  · split
    · exact h
    · unfold appV
      split
      · exact h
      · refine hs _ ?_
        unfold appM
        split <;> exact h
noncomputable def crC : RC := r_w07_WalCrash.body.snd.snd.snd.snd.snd.snd.snd.snd.snd.snd
set_option maxHeartbeats 8000000 in
theorem crash_tail (s t : St) (e : Env) (n b k sf : Nat) (keep : Int) (L : Lg) (D : Dsk) (S : List ByteArray) (sv : AV)
    (hC : CW s n b D t) (hL : LW s b D k L t) (hLn : L.name = wNm) (hS : SW s b D t sv S) (hSk : ∀ o e' m c, sv ≠ .sl k o e' m c)
    (g2 : e.get 2 = .int .i64 keep) (g7 : e.get 7 = .ptr b 0) (g8 : e.get 8 = .ptr k 0) (g11 : e.get 11 = sv) (g12 : e.get 12 = .int .i64 (sf : Int))
    (hG : ∀ r ∈ S, Good r) (hz : (FR S).size ≤ 262144) (hsf : sf ≤ S.length) (hSl : S.length ≤ 1000)
    (hst : (D.down = false ∧ HF D (FR S) ((FR (S.take sf)).size : Int)) ∨ (D.down = true ∧ ∃ K : Nat, (FR (S.take sf)).size ≤ K ∧ K ≤ (FR S).size ∧ HF D ((FR S).extract 0 K) K)) :
    awp (Run T) crC (endK [.tmp 6] s fun r _ => r = .bool true) e t := by
  have e1 : bts [108, 111, 103] = wNm := rfl
  have e2 : bts [109, 111, 114, 101] = wMore := rfl
  have hzM : wMore.size < 1000000 := by decide
  have hzN : wNm.size < 1000000000 := by decide
  have t60 : ((60 : Int) == 60) = true := rfl
  have t00 : ((0 : Int) == 0) = true := rfl
  obtain ⟨hd1, K, hK1, hK2, hF1⟩ : (offV D keep).down = true ∧ ∃ K : Nat, (FR (S.take sf)).size ≤ K ∧ K ≤ (FR S).size ∧ HF (offV D keep) ((FR S).extract 0 K) K := by
    rcases hst with ⟨hd, h⟩ | ⟨hd, K, h1, h2, h3⟩
    · obtain ⟨K, h1, h2, h3, _⟩ := h.lose (h.ok hC.ok) keep
      have eo : offV D keep = loseD D keep := by unfold offV; rw [hd]; rfl
      exact ⟨by rw [eo]; rfl, K, by omega, h2, by rw [eo]; exact h3⟩
    · have eo : offV D keep = D := by unfold offV; rw [hd]; rfl
      exact ⟨by rw [eo]; exact hd, K, h1, h2, by rw [eo]; exact h3⟩
  clear hst
  simp only [crC, RC.snd, r_w07_WalCrash, XX, CC, YY, Nat.reduceAdd, Nat.reduceSub, Nat.reduceLeDiff, Nat.reduceLT, Nat.reduceEqDiff, reduceIte, ↓reduceIte, Nat.reduceBEq, g7, g2, e1, e2]
  refine Run.mono _ _ _ _ _ ?_ (off_w hC keep)
  rintro v t1 ⟨rfl, st1⟩
  have hX0 : ∀ i : Nat, False → s.length ≤ i := fun _ h => h.elim
  have hC1 := hC.step st1 hX0
  have hL1 := hL.step st1 (fun h => h)
  have hS1 := hS.step st1 (fun _ h => h.elim)
  generalize offV D keep = D1 at *
  obtain ⟨c1, c2, c3, c4⟩ := off_app (L := L) (D := D1) (by unfold lgOff; rw [hd1, Bool.or_true]) wMore t1.length
  (try simp only [XX, CC, YY, Nat.reduceAdd, Nat.reduceSub, Nat.reduceLeDiff, Nat.reduceLT, Nat.reduceEqDiff, reduceIte, ↓reduceIte, Nat.reduceBEq, g8])
  have ha := lapp_w hC1 hL1 wMore hzM
  rw [c1, c2] at ha
  refine Run.mono _ _ _ _ _ ?_ ha
  rintro v t2 ⟨rfl, hL2, st2⟩
  have hXk : ∀ i : Nat, i = k → s.length ≤ i := fun i h => by rw [h]; exact hL.base
  have hC2 := hC1.step st2 hXk
  have hS2 := hS1.step st2 (fun i h ⟨o, e', m, c, hv⟩ => hSk o e' m c (by rw [← h]; exact hv))
  simp only [XX, CC, YY, Nat.reduceAdd, Nat.reduceSub, Nat.reduceLeDiff, Nat.reduceLT, Nat.reduceEqDiff, reduceIte, ↓reduceIte, Nat.reduceBEq, t60, Bool.not_true, g7]
  refine Run.mono _ _ _ _ _ ?_ (on_w hC2)
  rintro v t3 ⟨rfl, st3⟩
  have hC3 := hC2.step st3 hX0
  have hL3 := hL2.step st3 (fun h => h)
  have hS3 := hS2.step st3 (fun _ h => h.elim)
  have hF3 : HF (onD D1) ((FR S).extract 0 K) K := hF1.same rfl
  have hd3 : (onD D1).down = false := rfl
  have ha3 : (onD D1).armed = false := rfl
  generalize onD D1 = D3 at *
  obtain ⟨o1, o2⟩ := off_syn (L := appLog L D1 wMore) (D := D3) (by unfold lgOff; rw [c3, Bool.true_or])
  have hsy := lsyn_w hC3 hL3
  rw [o1, o2] at hsy
  (try simp only [XX, CC, YY, Nat.reduceAdd, Nat.reduceSub, Nat.reduceLeDiff, Nat.reduceLT, Nat.reduceEqDiff, reduceIte, ↓reduceIte, Nat.reduceBEq, g8])
  refine Run.mono _ _ _ _ _ ?_ hsy
  rintro v t4 ⟨rfl, hL4, st4⟩
  have hC4 := hC3.step st4 hXk
  have hS4 := hS3.step st4 (fun i h ⟨o, e', m, c, hv⟩ => hSk o e' m c (by rw [← h]; exact hv))
  obtain ⟨j, j1, j2, j3, j4⟩ := scan_pre S hG K hK2
  have hKs : ((FR S).extract 0 K).size = K := by rw [ext_size _ _ _ hK2]; omega
  obtain ⟨p1, ⟨s', p2⟩, p3, p4, p5, p6⟩ := hF3.opn hd3 ha3 j2 (by omega) b
  rw [ext_take _ j3, FR_take] at p2
  have ho := opn_w hC4 wNm hzN p1
  rw [p5, p6] at ho
  have hGg : ∀ r ∈ S.take j, Good r := fun r hr => hG r (List.mem_of_mem_take hr)
  have hjl : (S.take j).length = j := by rw [List.length_take]; omega
  have hsj : sf ≤ j := j4 sf hsf hK1
  have hgz : (FR (S.take j)).size ≤ 262144 := by omega
  have hSj : S.take (S.take j).length = S.take j := by rw [hjl]
  generalize S.take j = got at *
  generalize openD D3 wNm = D5 at *
  simp only [XX, CC, YY, Nat.reduceAdd, Nat.reduceSub, Nat.reduceLeDiff, Nat.reduceLT, Nat.reduceEqDiff, reduceIte, ↓reduceIte, Nat.reduceBEq, t60, Bool.not_true, g7]
  refine Run.mono _ _ _ _ _ ?_ ho
  rintro v t5 ⟨k2, r, rfl, hk2, st5, hL5, hS5, hr5⟩
  have hC5 := hC4.step st5 hX0
  have hS5' := hS4.step st5 (fun _ h => h.elim)
  have rdG := hS5.own.rd cS_len
  have rdSv := hS5'.own.rd cS_len
  have lG : lenlA r = some (.int .i64 (got.length : Int)) := rdG.len
  have lS : lenlA sv = some (.int .i64 (S.length : Int)) := rdSv.len
  obtain ⟨v', sl1, sl2⟩ := rd_take rdSv cS_len (n := got.length) (by omega)
  rw [hSj] at sl2
  simp only [XX, CC, YY, Nat.reduceAdd, Nat.reduceSub, Nat.reduceLeDiff, Nat.reduceLT, Nat.reduceEqDiff, reduceIte, ↓reduceIte, Nat.reduceBEq, t00, Bool.not_true, g11, g12, lG, lS, dec_f (show ¬ (got.length : Int) < (sf : Int) by omega), dec_f (show ¬ (got.length : Int) > (S.length : Int) by omega), sl1]
  refine (same07_r (T := T) t5 r v' got got (by omega) (by omega) rdG sl2).use ?_
  rw [decide_eq_true rfl]
  have hk5 : s.length ≤ k2 := hL5.base
  have hX2 : ∀ i : Nat, i = k2 → s.length ≤ i := fun i h => by rw [h]; exact hk5
  have hr2 : ∀ i : Nat, i = k2 → ¬ ∃ o e' m c, r = .sl i o e' m c := fun i h hv => (hr5 i hv).2 h
  have ha5 := lapp_w hC5 hL5 wMore hzM
  have hfm : (frameV wMore).1.size = 12 := frame_size more_good
  have hn5 : ¬ gone D5 := p2.now p3 p4
  have hk5' : FOk (FR got) s' := p2.ok hC5.ok
  obtain ⟨a1, a2, a3, a4⟩ : appCode ⟨b, wNm, (FR got).size, false⟩ D5 wMore = 0 ∧ (appLog ⟨b, wNm, (FR got).size, false⟩ D5 wMore).ended = false ∧ (appDisk ⟨b, wNm, (FR got).size, false⟩ D5 wMore t5.length).down = false ∧ HF (appDisk ⟨b, wNm, (FR got).size, false⟩ D5 wMore t5.length) (FR (got ++ [wMore])) s' := by
    rw [FR_snoc]
    rcases p2.lapp (L := ⟨b, wNm, (FR got).size, false⟩) hk5' p3 rfl rfl more_good (by omega) t5.length with h | ⟨h, _⟩
    · exact h
    · exact absurd h hn5
  have a5 : (appDisk ⟨b, wNm, (FR got).size, false⟩ D5 wMore t5.length).armed = false := arm_app p4 wMore t5.length
  have a6 : (appLog ⟨b, wNm, (FR got).size, false⟩ D5 wMore).name = wNm := rfl
  rw [a1] at ha5
  generalize appLog ⟨b, wNm, (FR got).size, false⟩ D5 wMore = L6 at *
  generalize appDisk ⟨b, wNm, (FR got).size, false⟩ D5 wMore t5.length = D6 at *
  (try simp only [XX, CC, YY, Nat.reduceAdd, Nat.reduceSub, Nat.reduceLeDiff, Nat.reduceLT, Nat.reduceEqDiff, reduceIte, ↓reduceIte, Nat.reduceBEq, Bool.not_true])
  refine Run.mono _ _ _ _ _ ?_ ha5
  rintro v t6 ⟨rfl, hL6, st6⟩
  have hC6 := hC5.step st6 hX2
  have hS6 := hS5.step st6 hr2
  have hgm : ∀ x ∈ got ++ [wMore], Good x := fun x hx => by
    rcases List.mem_append.1 hx with h | h
    · exact hGg x h
    · rw [List.mem_singleton.1 h]; exact more_good
  have hne : FR (got ++ [wMore]) ≠ bts [] := fun h => by
    have h1 := FR_size hgm
    rw [h, List.length_append] at h1
    have e0 : (bts []).size = 0 := rfl
    have e1 : [wMore].length = 1 := rfl
    omega
  have hsy6 := lsyn_w hC6 hL6
  obtain ⟨q1, q2, q3⟩ : syncCode L6 D6 = 0 ∧ (syncDisk L6 D6).down = false ∧ HF (syncDisk L6 D6) (FR (got ++ [wMore])) ((FR (got ++ [wMore])).size : Int) := by
    rcases a4.lsyn (L := L6) (a4.ok hC6.ok) a3 a6 a2 hne with h | ⟨h, _⟩
    · exact ⟨h.1, h.2.2⟩
    · exact absurd h (a4.now a3 a5)
  rw [q1] at hsy6
  generalize syncLog L6 D6 = L7 at *
  generalize syncDisk L6 D6 = D7 at *
  simp only [XX, CC, YY, Nat.reduceAdd, Nat.reduceSub, Nat.reduceLeDiff, Nat.reduceLT, Nat.reduceEqDiff, reduceIte, ↓reduceIte, Nat.reduceBEq, t00, Bool.not_true]
  refine Run.mono _ _ _ _ _ ?_ hsy6
  rintro v t7 ⟨rfl, hL7, st7⟩
  have hC7 := hC6.step st7 hX2
  have hS7 := hS6.step st7 hr2
  simp only [XX, CC, YY, Nat.reduceAdd, Nat.reduceSub, Nat.reduceLeDiff, Nat.reduceLT, Nat.reduceEqDiff, reduceIte, ↓reduceIte, Nat.reduceBEq, t00, Bool.not_true, g7]
  refine Run.mono _ _ _ _ _ ?_ (off_w hC7 0)
  rintro v t8 ⟨rfl, st8⟩
  have hC8 := hC7.step st8 hX0
  have hS8 := hS7.step st8 (fun _ h => h.elim)
  have hF8 : HF (offV D7 0) (FR (got ++ [wMore])) ((FR (got ++ [wMore])).size : Int) := by
    obtain ⟨K8, _, _, h3, h4⟩ := q3.lose (q3.ok hC7.ok) 0
    have eo : offV D7 0 = loseD D7 0 := by unfold offV; rw [q2]; rfl
    have hK8 : K8 = (FR (got ++ [wMore])).size := by have := h4 rfl; omega
    rw [eo]
    rw [hK8, ext_all _ (Nat.le_refl _)] at h3
    exact h3
  generalize offV D7 0 = D8 at *
  (try simp only [XX, CC, YY, Nat.reduceAdd, Nat.reduceSub, Nat.reduceLeDiff, Nat.reduceLT, Nat.reduceEqDiff, reduceIte, ↓reduceIte, Nat.reduceBEq, g7])
  refine Run.mono _ _ _ _ _ ?_ (on_w hC8)
  rintro v t9 ⟨rfl, st9⟩
  have hC9 := hC8.step st9 hX0
  have hS9 := hS8.step st9 (fun _ h => h.elim)
  have hF9 : HF (onD D8) (FR (got ++ [wMore])) ((FR (got ++ [wMore])).size : Int) := hF8.same rfl
  have hd9 : (onD D8).down = false := rfl
  have ha9 : (onD D8).armed = false := rfl
  generalize onD D8 = D9 at *
  obtain ⟨u1, _, u3, u4, u5, u6⟩ := hF9.opn hd9 ha9 (scan_all hgm) (Nat.le_refl _) b
  have ho9 := opn_w hC9 wNm hzN u1
  rw [u5, u6] at ho9
  (try simp only [XX, CC, YY, Nat.reduceAdd, Nat.reduceSub, Nat.reduceLeDiff, Nat.reduceLT, Nat.reduceEqDiff, reduceIte, ↓reduceIte, Nat.reduceBEq, g7])
  refine Run.mono _ _ _ _ _ ?_ ho9
  rintro v t10 ⟨k3, r3, rfl, hk3, st10, hL10, hS10, hr10⟩
  have hS10' := hS9.step st10 (fun _ h => h.elim)
  have rdA := hS10.own.rd cS_len
  have rdG2 := hS10'.own.rd cS_len
  have lA : lenlA r3 = some (.int .i64 ((got ++ [wMore]).length : Int)) := rdA.len
  have eL : ((got ++ [wMore]).length : Int) = ((got.length + 1 : Nat) : Int) := by rw [List.length_append]; rfl
  rw [eL] at lA
  have w1 : IntKind.i64.wrap ((got.length : Int) + 1) = ((got.length + 1 : Nat) : Int) := w64_nat (by omega)
  have tL : (((got.length + 1 : Nat) : Int) == ((got.length + 1 : Nat) : Int)) = true := by simp
  obtain ⟨v3, sl3, sl4⟩ := rd_take rdA cS_len (n := got.length) (by rw [List.length_append]; omega)
  rw [List.take_left] at sl4
  obtain ⟨bb, oo, i1, i2, i3⟩ := rdS rdA (i := got.length) (q := wMore) (by rw [List.getElem?_append_right (Nat.le_refl _), Nat.sub_self]; rfl)
  have q1 := eq_str wMore
  simp only [XX, CC, YY, Nat.reduceAdd, Nat.reduceSub, Nat.reduceLeDiff, Nat.reduceLT, Nat.reduceEqDiff, reduceIte, ↓reduceIte, Nat.reduceBEq, t00, lA, lG, w1, tL, sl3]
  refine (same07_r (T := T) t10 v3 r got got (by omega) (by omega) sl4 rdG2).use ?_
  rw [decide_eq_true rfl]
  simp only [XX, CC, YY, Nat.reduceAdd, Nat.reduceSub, Nat.reduceLeDiff, Nat.reduceLT, Nat.reduceEqDiff, reduceIte, ↓reduceIte, Nat.reduceBEq, i1, i2, q1, lG]
  exact .inl rfl
end Go.Ev

/-! WalCrash: the test at the end of a round. -/
namespace Go.Ev
set_option linter.unusedVariables false
set_option linter.unusedSimpArgs false
open Go.Ev.So Go.Proofs

noncomputable def crL : RC := r_w07_WalCrash.body.snd.snd.snd.snd.snd.snd.snd.snd.snd.fst.snd.inn.inn
noncomputable def crB : RC := crL.snd.fst.inn
noncomputable def crT : RC := crB.snd.snd.snd.snd.snd.snd
set_option maxHeartbeats 400000 in
theorem crT_r {t : St} {e : Env} {n b : Nat} {D : Dsk} (hD : DAt t n b D) {Q : XE → Env → St → Prop} (g7 : e.get 7 = .ptr b 0) {c : Int} (g10 : e.get 10 = .int .i64 c) (hc : (c = 0 ∧ D.down = false) ∨ (c = 60 ∧ D.down = true))
    (h : ∀ e', e'.get 0 = e.get 0 → e'.get 2 = e.get 2 → e'.get 7 = e.get 7 → e'.get 8 = e.get 8 → e'.get 11 = e.get 11 → e'.get 12 = e.get 12 → e'.get 13 = e.get 13 → e'.get 14 = e.get 14 → Q .nrm e' t) : awp (Run T) crT Q e t := by
  have t60 : ((60 : Int) == 60) = true := rfl
  have t00 : ((0 : Int) == 0) = true := rfl
  have t600 : ((60 : Int) == 0) = false := rfl
  have t060 : ((0 : Int) == 60) = false := rfl
  have bb : ((true == true) = true) := rfl
  have bf : ((false == false) = true) := rfl
  rcases hc with ⟨rfl, hd⟩ | ⟨rfl, hd⟩
  · simp only [crT, crB, crL, RC.snd, RC.fst, RC.inn, r_w07_WalCrash, XX, CC, YY, Nat.reduceAdd, Nat.reduceSub, Nat.reduceLeDiff, Nat.reduceLT, Nat.reduceEqDiff, reduceIte, ↓reduceIte, Nat.reduceBEq, g7, g10, t00, t060, Bool.not_true, Bool.not_false]
    refine (down_r (T := T) t n b D hD).use ?_
    rw [hd]
    simp only [XX, CC, YY, Nat.reduceAdd, Nat.reduceSub, Nat.reduceLeDiff, Nat.reduceLT, Nat.reduceEqDiff, reduceIte, ↓reduceIte, Nat.reduceBEq, Bool.not_true, Bool.not_false, bf]
    refine h _ ?_ ?_ ?_ ?_ ?_ ?_ ?_ ?_ <;> simp only [XX, CC, YY, Nat.reduceAdd, Nat.reduceSub, Nat.reduceLeDiff, Nat.reduceLT, Nat.reduceEqDiff, reduceIte, ↓reduceIte, Nat.reduceBEq]
  · simp only [crT, crB, crL, RC.snd, RC.fst, RC.inn, r_w07_WalCrash, XX, CC, YY, Nat.reduceAdd, Nat.reduceSub, Nat.reduceLeDiff, Nat.reduceLT, Nat.reduceEqDiff, reduceIte, ↓reduceIte, Nat.reduceBEq, g7, g10, t600, t60, Bool.not_true, Bool.not_false]
    refine (down_r (T := T) t n b D hD).use ?_
    rw [hd]
    simp only [XX, CC, YY, Nat.reduceAdd, Nat.reduceSub, Nat.reduceLeDiff, Nat.reduceLT, Nat.reduceEqDiff, reduceIte, ↓reduceIte, Nat.reduceBEq, Bool.not_true, Bool.not_false, bb]
    refine h _ ?_ ?_ ?_ ?_ ?_ ?_ ?_ ?_ <;> simp only [XX, CC, YY, Nat.reduceAdd, Nat.reduceSub, Nat.reduceLeDiff, Nat.reduceLT, Nat.reduceEqDiff, reduceIte, ↓reduceIte, Nat.reduceBEq]
end Go.Ev

/-! WalCrash: its loop. -/
namespace Go.Ev
set_option linter.unusedVariables false
set_option linter.unusedSimpArgs false
open Go.Ev.So Go.Proofs

/-- A put: a record, and whether a Sync follows. -/
def cPut (q : ByteArray × Bool) : List AV := [.str q.1, .bool q.2]
theorem cPut_len (q : ByteArray × Bool) : (cPut q).length = 2 := id rfl
theorem rdPut {t : St} {v : AV} {l : List (ByteArray × Bool)} (hv : Rd 2 cPut t v l) {i : Nat} {q : ByteArray × Bool} (hi : l[i]? = some q) :
    ∃ b o, (∀ k : IntKind, ixaA 2 v (.int k (i : Int)) = some (.ptr b o)) ∧ ldA t none (.ptr b o) = some (.str q.1) ∧ ldA t none (.ptr b (o + 1)) = some (.bool q.2) ∧ ∀ x, ldA (t ++ x) none (.ptr b o) = some (.str q.1) := by
  obtain ⟨b, o, h1, h2⟩ := hv.get cPut_len hi
  have a1 : ldA t none (.ptr b o) = some (.str q.1) := h2 none 0 (.str q.1) rfl
  exact ⟨b, o, h1, a1, h2 none 1 (.bool q.2) rfl, ldA_ext a1⟩
theorem rem60 {x : Int} (hx : 0 ≤ x) : binA .rem (.int .u64 x) (.int .u64 60) = some (.int .u64 (x % 60)) := rem_u64 hx (by decide)
/-- Where the loop stands. -/
structure CI (s : St) (n b k : Nat) (v0 : AV) (keep : Int) (len i : Nat) (e : Env) (t : St) (L : Lg) (D : Dsk) (S : List ByteArray) (sv : AV) (sf all : Nat) : Prop where
  cw : CW s n b D t
  lw : LW s b D k L t
  nm : L.name = wNm
  sw : SW s b D t sv S
  svk : ∀ o e' m c, sv ≠ .sl k o e' m c
  good : ∀ r ∈ S, Good r
  size : (FR S).size ≤ all
  all_ : all ≤ 262144
  sfl : sf ≤ S.length
  sl : S.length ≤ i
  i2 : i ≤ 200
  st : (D.down = false ∧ L.ended = false ∧ HF D (FR S) ((FR (S.take sf)).size : Int)) ∨ (D.down = true ∧ ∃ K : Nat, (FR (S.take sf)).size ≤ K ∧ K ≤ (FR S).size ∧ HF D ((FR S).extract 0 K) K)
  g0 : e.get 0 = v0
  g2 : e.get 2 = .int .i64 keep
  g7 : e.get 7 = .ptr b 0
  g8 : e.get 8 = .ptr k 0
  g11 : e.get 11 = sv
  g12 : e.get 12 = .int .i64 (sf : Int)
  g13 : e.get 13 = .int .i64 (all : Int)
  g14 : e.get 14 = .int .i64 (i : Int)
set_option maxHeartbeats 8000000 in
theorem crash_round (s : St) (v0 : AV) (l : List (ByteArray × Bool)) (keep : Int) (hl : l.length ≤ 140737488351232) (hq : ∀ q ∈ l, q.1.size < 140737488355328) (hv : Rd 2 cPut s v0 l) (n b k : Nat) (Q : XE → Env → St → Prop)
    (hret : ∀ e t, e.get 6 = .bool true → Q .ret e t)
    (hend : ∀ e t i L D S sv sf all, CI s n b k v0 keep l.length i e t L D S sv sf all → Q (.exit 0) e t)
    (J : Env → St → Prop) (d : Nat) (e : Env) (t : St) (hJ : ∀ d' e' t', d' < d → (∃ i L D S sv sf all, i + d' = l.length ∧ CI s n b k v0 keep l.length i e' t' L D S sv sf all) → J e' t')
    (i : Nat) (L : Lg) (D : Dsk) (S : List ByteArray) (sv : AV) (sf all : Nat) (hid : i + d = l.length) (h : CI s n b k v0 keep l.length i e t L D S sv sf all) :
    awp (Run T) crL (loopK J Q) e t := by
  obtain ⟨cw, lw, nm, sw, svk, good, size, all_, sfl, sl, i2, st, g0, g2, g7, g8, g11, g12, g13, g14⟩ := id h
  have lV : lenlA v0 = some (.int .i64 (l.length : Int)) := hv.len
  have hend2 := @crT_r
  obtain ⟨TEST, hT⟩ : ∃ c, c = crT := ⟨_, rfl⟩
  have hbody : crL = .seq crL.fst (.seq (.block 1 (.seq crB.fst (.seq crB.snd.fst (.seq crB.snd.snd.fst (.seq crB.snd.snd.snd.fst (.seq crB.snd.snd.snd.snd.fst (.seq crB.snd.snd.snd.snd.snd.fst TEST))))))) crL.snd.snd) := by rw [hT]; rfl
  rw [← hT] at hend2
  rw [hbody]
  clear hT hbody
  have em : i < l.length ∨ ¬ i < l.length := Classical.em _
  rcases em with c1 | c1
  rotate_left
  · simp only [crB, crL, RC.snd, RC.fst, RC.inn, r_w07_WalCrash, XX, CC, YY, Nat.reduceAdd, Nat.reduceSub, Nat.reduceLeDiff, Nat.reduceLT, Nat.reduceEqDiff, reduceIte, ↓reduceIte, Nat.reduceBEq, g14, g0, lV, dec_f (show ¬ (i : Int) < (l.length : Int) by omega)]
    refine hend _ _ i L D S sv sf all ⟨cw, lw, nm, sw, svk, good, size, all_, sfl, sl, i2, st, ?_, ?_, ?_, ?_, ?_, ?_, ?_, ?_⟩ <;> (try simp only [XX, CC, YY, Nat.reduceAdd, Nat.reduceSub, Nat.reduceLeDiff, Nat.reduceLT, Nat.reduceEqDiff, reduceIte, ↓reduceIte, Nat.reduceBEq, g0, g2, g7, g8, g11, g12, g13, g14])
  have em2 : i < 200 ∨ ¬ i < 200 := Classical.em _
  rcases em2 with c2 | c2
  rotate_left
  · simp only [crB, crL, RC.snd, RC.fst, RC.inn, r_w07_WalCrash, XX, CC, YY, Nat.reduceAdd, Nat.reduceSub, Nat.reduceLeDiff, Nat.reduceLT, Nat.reduceEqDiff, reduceIte, ↓reduceIte, Nat.reduceBEq, g14, g0, lV, dec_t (show (i : Int) < (l.length : Int) by omega), dec_f (show ¬ (i : Int) < 200 by omega)]
    refine hend _ _ i L D S sv sf all ⟨cw, lw, nm, sw, svk, good, size, all_, sfl, sl, i2, st, ?_, ?_, ?_, ?_, ?_, ?_, ?_, ?_⟩ <;> (try simp only [XX, CC, YY, Nat.reduceAdd, Nat.reduceSub, Nat.reduceLeDiff, Nat.reduceLT, Nat.reduceEqDiff, reduceIte, ↓reduceIte, Nat.reduceBEq, g0, g2, g7, g8, g11, g12, g13, g14])
  have d1 := dec_t (show (i : Int) < (l.length : Int) by omega)
  have d2 := dec_t (show (i : Int) < 200 by omega)
  simp only [crB, crL, RC.snd, RC.fst, RC.inn, r_w07_WalCrash, XX, CC, YY, Nat.reduceAdd, Nat.reduceSub, Nat.reduceLeDiff, Nat.reduceLT, Nat.reduceEqDiff, reduceIte, ↓reduceIte, Nat.reduceBEq, g14, g0, g7, lV, d1, d2]
  refine (down_r (T := T) t n b D cw.at_).use ?_
  rcases st with ⟨hd, he, hF⟩ | ⟨hd, hK⟩
  rotate_left
  · rw [hd]
    simp only [XX, CC, YY, Nat.reduceAdd, Nat.reduceSub, Nat.reduceLeDiff, Nat.reduceLT, Nat.reduceEqDiff, reduceIte, ↓reduceIte, Nat.reduceBEq, Bool.not_true]
    refine hend _ _ i L D S sv sf all ⟨cw, lw, nm, sw, svk, good, size, all_, sfl, sl, i2, .inr ⟨hd, hK⟩, ?_, ?_, ?_, ?_, ?_, ?_, ?_, ?_⟩ <;> (try simp only [XX, CC, YY, Nat.reduceAdd, Nat.reduceSub, Nat.reduceLeDiff, Nat.reduceLT, Nat.reduceEqDiff, reduceIte, ↓reduceIte, Nat.reduceBEq, g0, g2, g7, g8, g11, g12, g13, g14])
  rw [hd]
  have hp : l[i]? = some (l[i]'c1) := List.getElem?_eq_getElem _
  generalize l[i]'c1 = q at hp
  have hqs := hq q (List.mem_of_getElem? hp)
  have hvt := hv.ext cw.ext
  obtain ⟨b1, o1, j1, j2, j3, _⟩ := rdPut hvt hp
  have w1 : IntKind.i64.wrap ((q.1.size : Int) + 8) = ((q.1.size + 8 : Nat) : Int) := by rw [w64_in (by omega) (by omega)]; rfl
  have w2 : IntKind.i64.wrap ((all : Int) + ((q.1.size + 8 : Nat) : Int)) = ((all + (q.1.size + 8) : Nat) : Int) := by rw [w64_in (by omega) (by omega)]; omega
  have w3 : IntKind.i64.wrap ((i : Int) + 1) = ((i + 1 : Nat) : Int) := w64_nat (by omega)
  have em3 : all + (q.1.size + 8) > 262144 ∨ ¬ all + (q.1.size + 8) > 262144 := Classical.em _
  rcases em3 with c3 | c3
  · simp only [XX, CC, YY, Nat.reduceAdd, Nat.reduceSub, Nat.reduceLeDiff, Nat.reduceLT, Nat.reduceEqDiff, reduceIte, ↓reduceIte, Nat.reduceBEq, Bool.not_false, g0, g13, g14, j1, j2, Nat.add_zero, w1, w2, dec_t (show ((all + (q.1.size + 8) : Nat) : Int) > 262144 by omega)]
    exact hret _ _ (by simp only [XX, CC, YY, Nat.reduceAdd, Nat.reduceSub, Nat.reduceLeDiff, Nat.reduceLT, Nat.reduceEqDiff, reduceIte, ↓reduceIte, Nat.reduceBEq])
  have d3 := dec_f (show ¬ ((all + (q.1.size + 8) : Nat) : Int) > 262144 by omega)
  have em4 : q.1.size < 1 ∨ ¬ q.1.size < 1 := Classical.em _
  rcases em4 with c4 | c4
  · simp only [XX, CC, YY, Nat.reduceAdd, Nat.reduceSub, Nat.reduceLeDiff, Nat.reduceLT, Nat.reduceEqDiff, reduceIte, ↓reduceIte, Nat.reduceBEq, Bool.not_false, g0, g13, g14, j1, j2, Nat.add_zero, w1, w2, w3, d3, dec_t (show (q.1.size : Int) < 1 by omega)]
    refine hJ (d - 1) _ _ (by omega) ⟨i + 1, L, D, S, sv, sf, all + (q.1.size + 8), by omega, ⟨cw, lw, nm, sw, svk, good, by omega, by omega, sfl, by omega, by omega, .inl ⟨hd, he, hF⟩, ?_, ?_, ?_, ?_, ?_, ?_, ?_, ?_⟩⟩ <;> (try simp only [XX, CC, YY, Nat.reduceAdd, Nat.reduceSub, Nat.reduceLeDiff, Nat.reduceLT, Nat.reduceEqDiff, reduceIte, ↓reduceIte, Nat.reduceBEq, g0, g2, g7, g8, g11, g12, g13, g14, w3])
  have d4 := dec_f (show ¬ (q.1.size : Int) < 1 by omega)
  have em5 : q.1.size > 65536 ∨ ¬ q.1.size > 65536 := Classical.em _
  rcases em5 with c5 | c5
  · simp only [XX, CC, YY, Nat.reduceAdd, Nat.reduceSub, Nat.reduceLeDiff, Nat.reduceLT, Nat.reduceEqDiff, reduceIte, ↓reduceIte, Nat.reduceBEq, Bool.not_false, g0, g13, g14, j1, j2, Nat.add_zero, w1, w2, w3, d3, d4, dec_t (show (q.1.size : Int) > 65536 by omega)]
    refine hJ (d - 1) _ _ (by omega) ⟨i + 1, L, D, S, sv, sf, all + (q.1.size + 8), by omega, ⟨cw, lw, nm, sw, svk, good, by omega, by omega, sfl, by omega, by omega, .inl ⟨hd, he, hF⟩, ?_, ?_, ?_, ?_, ?_, ?_, ?_, ?_⟩⟩ <;> (try simp only [XX, CC, YY, Nat.reduceAdd, Nat.reduceSub, Nat.reduceLeDiff, Nat.reduceLT, Nat.reduceEqDiff, reduceIte, ↓reduceIte, Nat.reduceBEq, g0, g2, g7, g8, g11, g12, g13, g14, w3])
  have d5 := dec_f (show ¬ (q.1.size : Int) > 65536 by omega)
  have hgq : Good q.1 := ⟨by omega, by omega⟩
  simp only [XX, CC, YY, Nat.reduceAdd, Nat.reduceSub, Nat.reduceLeDiff, Nat.reduceLT, Nat.reduceEqDiff, reduceIte, ↓reduceIte, Nat.reduceBEq, Bool.not_false, g0, g11, g13, g14, j1, j2, Nat.add_zero, w1, w2, d3, d4, d5]
  have hbl := cw.len
  obtain ⟨sv', t1, a1, a2, a3, a4, _, a6⟩ := own_app (by_ := 16) (y := .sl t.length 0 1 1 (some 1)) (l2 := [q.1]) (sw.own.app [.cells true (cS q.1)]) (by simp; omega) (rd_lit (by simp) cS_len rfl) cS_len cS_cell (by simp; omega)
  have hr1 : [AV.str q.1] = cS q.1 := rfl
  have g1 : GStep n b (fun i => ∃ o e' m c, sv = .sl i o e' m c) D D t t1 := cw.by (by simp at a3; omega) (fun i' hi hx => by
    rw [a4 i' (by simp; omega) (fun o e' m c hh => hx ⟨o, e', m, c, hh⟩), List.getElem?_append_left hi]) sw.out
  have cw1 := cw.step g1 (fun i' ⟨o, e', m, c, hh⟩ => sw.own.ge hh)
  have lw1 := lw.step g1 (fun ⟨o, e', m, c, hh⟩ => svk o e' m c hh)
  have hklt := lw.lt
  have sw1 : SW s b D t1 sv' (S ++ [q.1]) := ⟨a2, fun i' ⟨o, e', m, c, hh⟩ hf => by
    rcases a6 i' o e' m c hh with x | x
    · exact sw.out i' ⟨o, e', m, c, x⟩ hf
    · have := hf.lt cw.at_
      simp at x; omega⟩
  have svk1 : ∀ o e' m c, sv' ≠ .sl k o e' m c := fun o e' m c hh => by
    rcases a6 k o e' m c hh with x | x
    · exact svk o e' m c x
    · simp at x; omega
  have hkX : ∀ i' : Nat, i' = k → ¬ ∃ o e' m c, sv' = .sl i' o e' m c := fun i' hi ⟨o, e', m, c, hh⟩ => svk1 o e' m c (by rw [← hi]; exact hh)
  have hkb : ∀ i' : Nat, i' = k → s.length ≤ i' := fun i' hi => by rw [hi]; exact lw.base
  have rdp : ∀ {t2 : St} {D2 : Dsk}, CW s n b D2 t2 → ldA t2 none (.ptr b1 o1) = some (.str q.1) ∧ ldA t2 none (.ptr b1 (o1 + 1)) = some (.bool q.2) := fun {t2 D2} hc => by
    obtain ⟨b2, o2, k1, k2, k3, _⟩ := rdPut (hv.ext hc.ext) hp
    have e1 := (j1 .i64).symm.trans (k1 .i64)
    simp only [Option.some.injEq, AV.ptr.injEq] at e1
    obtain ⟨rfl, rfl⟩ := e1
    exact ⟨k2, k3⟩
  have hfs := frame_size hgq
  have hgS : ∀ r ∈ S ++ [q.1], Good r := fun r hr => by
    rcases List.mem_append.1 hr with x | x
    · exact good r x
    · rw [List.mem_singleton.1 x]; exact hgq
  have hsS : (FR (S ++ [q.1])).size ≤ all + (q.1.size + 8) := by rw [FR_snoc, app_size]; omega
  have hlS : (S ++ [q.1]).length = S.length + 1 := by rw [List.length_append]; rfl
  have htk : (S ++ [q.1]).take sf = S.take sf := List.take_append_of_le_length sfl
  have hne : FR (S ++ [q.1]) ≠ bts [] := fun hh => by
    have h1 := FR_size hgS
    rw [hh, hlS] at h1
    have e0 : (bts []).size = 0 := rfl
    omega
  have t60 : ((60 : Int) == 60) = true := rfl
  have t00 : ((0 : Int) == 0) = true := rfl
  have t600 : ((60 : Int) == 0) = false := rfl
  have t060 : ((0 : Int) == 60) = false := rfl
  have ha := lapp_w cw1 lw1 q.1 (by omega)
  have nm1 : (appLog L D q.1).name = wNm := nm
  have hcase := hF.lapp (L := L) (hF.ok cw.ok) hd nm he hgq (by omega) t1.length
  rw [← FR_snoc] at hcase
  generalize appCode L D q.1 = c at *
  generalize appDisk L D q.1 t1.length = D2 at *
  generalize appLog L D q.1 = L2 at *
  have l1 := (rdp cw1).1
  simp only [XX, CC, YY, Nat.reduceAdd, Nat.reduceSub, Nat.reduceLeDiff, Nat.reduceLT, Nat.reduceEqDiff, reduceIte, ↓reduceIte, Nat.reduceBEq, hr1, a1, l1, g8]
  refine Run.mono _ _ _ _ _ ?_ ha
  rintro v t2 ⟨rfl, lw2, g2'⟩
  have cw2 := cw1.step g2' hkb
  have sw2 := sw1.step g2' hkX
  have l2 := (rdp cw2).2
  rcases hcase with ⟨rfl, he2, hd2, hF2⟩ | ⟨_, rfl, he2, hd2, K, hK1, hK2, hF2⟩
  rotate_left
  · simp only [XX, CC, YY, Nat.reduceAdd, Nat.reduceSub, Nat.reduceLeDiff, Nat.reduceLT, Nat.reduceEqDiff, reduceIte, ↓reduceIte, Nat.reduceBEq, t600]
    refine hend2 cw2.at_ (by simp only [XX, CC, YY, Nat.reduceAdd, Nat.reduceSub, Nat.reduceLeDiff, Nat.reduceLT, Nat.reduceEqDiff, reduceIte, ↓reduceIte, Nat.reduceBEq, g7]) (c := 60) (by simp only [XX, CC, YY, Nat.reduceAdd, Nat.reduceSub, Nat.reduceLeDiff, Nat.reduceLT, Nat.reduceEqDiff, reduceIte, ↓reduceIte, Nat.reduceBEq]) (.inr ⟨rfl, hd2⟩) fun e' k0 k2 k7 k8 k11 k12 k13 k14 => ?_
    simp only [XX, CC, YY, Nat.reduceAdd, Nat.reduceSub, Nat.reduceLeDiff, Nat.reduceLT, Nat.reduceEqDiff, reduceIte, ↓reduceIte, Nat.reduceBEq] at k0 k2 k7 k8 k11 k12 k13 k14
    simp only [XX, CC, YY, Nat.reduceAdd, Nat.reduceSub, Nat.reduceLeDiff, Nat.reduceLT, Nat.reduceEqDiff, reduceIte, ↓reduceIte, Nat.reduceBEq, k14, g14, w3]
    refine hJ (d - 1) _ _ (by omega) ⟨i + 1, L2, D2, S ++ [q.1], sv', sf, all + (q.1.size + 8), by omega, ⟨cw2, lw2, nm1, sw2, svk1, hgS, hsS, by omega, by omega, by omega, by omega, .inr ⟨hd2, K, by rw [htk]; omega, hK2, hF2⟩, ?_, ?_, ?_, ?_, ?_, ?_, ?_, ?_⟩⟩ <;> (try simp only [XX, CC, YY, Nat.reduceAdd, Nat.reduceSub, Nat.reduceLeDiff, Nat.reduceLT, Nat.reduceEqDiff, reduceIte, ↓reduceIte, Nat.reduceBEq, k0, k2, k7, k8, k11, k12, k13, k14, g0, g2, g7, g8, g11, g12, g13, g14, w3])
  generalize q.2 = x2 at l2
  cases x2 with
  | false =>
    simp only [XX, CC, YY, Nat.reduceAdd, Nat.reduceSub, Nat.reduceLeDiff, Nat.reduceLT, Nat.reduceEqDiff, reduceIte, ↓reduceIte, Nat.reduceBEq, t00, g0, g14, j1, l2]
    refine hend2 cw2.at_ (by simp only [XX, CC, YY, Nat.reduceAdd, Nat.reduceSub, Nat.reduceLeDiff, Nat.reduceLT, Nat.reduceEqDiff, reduceIte, ↓reduceIte, Nat.reduceBEq, g7]) (c := 0) (by simp only [XX, CC, YY, Nat.reduceAdd, Nat.reduceSub, Nat.reduceLeDiff, Nat.reduceLT, Nat.reduceEqDiff, reduceIte, ↓reduceIte, Nat.reduceBEq]) (.inl ⟨rfl, hd2⟩) fun e' k0 k2 k7 k8 k11 k12 k13 k14 => ?_
    simp only [XX, CC, YY, Nat.reduceAdd, Nat.reduceSub, Nat.reduceLeDiff, Nat.reduceLT, Nat.reduceEqDiff, reduceIte, ↓reduceIte, Nat.reduceBEq] at k0 k2 k7 k8 k11 k12 k13 k14
    simp only [XX, CC, YY, Nat.reduceAdd, Nat.reduceSub, Nat.reduceLeDiff, Nat.reduceLT, Nat.reduceEqDiff, reduceIte, ↓reduceIte, Nat.reduceBEq, k14, g14, w3]
    refine hJ (d - 1) _ _ (by omega) ⟨i + 1, L2, D2, S ++ [q.1], sv', sf, all + (q.1.size + 8), by omega, ⟨cw2, lw2, nm1, sw2, svk1, hgS, hsS, by omega, by omega, by omega, by omega, .inl ⟨hd2, he2, by rw [htk]; exact hF2⟩, ?_, ?_, ?_, ?_, ?_, ?_, ?_, ?_⟩⟩ <;> (try simp only [XX, CC, YY, Nat.reduceAdd, Nat.reduceSub, Nat.reduceLeDiff, Nat.reduceLT, Nat.reduceEqDiff, reduceIte, ↓reduceIte, Nat.reduceBEq, k0, k2, k7, k8, k11, k12, k13, k14, g0, g2, g7, g8, g11, g12, g13, g14, w3])
  | true =>
    have hsy := lsyn_w cw2 lw2
    have hcs := hF2.lsyn (L := L2) (hF2.ok cw2.ok) hd2 nm1 he2 hne
    have nm2 : (syncLog L2 D2).name = wNm := nm1
    generalize syncCode L2 D2 = c at *
    generalize syncDisk L2 D2 = D3 at *
    generalize syncLog L2 D2 = L3 at *
    simp only [XX, CC, YY, Nat.reduceAdd, Nat.reduceSub, Nat.reduceLeDiff, Nat.reduceLT, Nat.reduceEqDiff, reduceIte, ↓reduceIte, Nat.reduceBEq, t00, g0, g8, g14, j1, l2]
    refine Run.mono _ _ _ _ _ ?_ hsy
    rintro v t3 ⟨rfl, lw3, g3'⟩
    have cw3 := cw2.step g3' hkb
    have sw3 := sw2.step g3' hkX
    have lS3 : lenlA sv' = some (.int .i64 ((S ++ [q.1]).length : Int)) := (sw3.own.rd cS_len).len
    rcases hcs with ⟨rfl, he3, hd3, hF3⟩ | ⟨_, rfl, he3, hd3, K, hK1, hK2, hF3⟩
    · simp only [XX, CC, YY, Nat.reduceAdd, Nat.reduceSub, Nat.reduceLeDiff, Nat.reduceLT, Nat.reduceEqDiff, reduceIte, ↓reduceIte, Nat.reduceBEq, t00, lS3]
      refine hend2 cw3.at_ (by simp only [XX, CC, YY, Nat.reduceAdd, Nat.reduceSub, Nat.reduceLeDiff, Nat.reduceLT, Nat.reduceEqDiff, reduceIte, ↓reduceIte, Nat.reduceBEq, g7]) (c := 0) (by simp only [XX, CC, YY, Nat.reduceAdd, Nat.reduceSub, Nat.reduceLeDiff, Nat.reduceLT, Nat.reduceEqDiff, reduceIte, ↓reduceIte, Nat.reduceBEq]) (.inl ⟨rfl, hd3⟩) fun e' k0 k2 k7 k8 k11 k12 k13 k14 => ?_
      simp only [XX, CC, YY, Nat.reduceAdd, Nat.reduceSub, Nat.reduceLeDiff, Nat.reduceLT, Nat.reduceEqDiff, reduceIte, ↓reduceIte, Nat.reduceBEq] at k0 k2 k7 k8 k11 k12 k13 k14
      simp only [XX, CC, YY, Nat.reduceAdd, Nat.reduceSub, Nat.reduceLeDiff, Nat.reduceLT, Nat.reduceEqDiff, reduceIte, ↓reduceIte, Nat.reduceBEq, k14, g14, w3]
      refine hJ (d - 1) _ _ (by omega) ⟨i + 1, L3, D3, S ++ [q.1], sv', (S ++ [q.1]).length, all + (q.1.size + 8), by omega, ⟨cw3, lw3, nm2, sw3, svk1, hgS, hsS, by omega, Nat.le_refl _, by omega, by omega, .inl ⟨hd3, he3, by rw [List.take_of_length_le (Nat.le_refl _)]; exact hF3⟩, ?_, ?_, ?_, ?_, ?_, ?_, ?_, ?_⟩⟩ <;> (try simp only [XX, CC, YY, Nat.reduceAdd, Nat.reduceSub, Nat.reduceLeDiff, Nat.reduceLT, Nat.reduceEqDiff, reduceIte, ↓reduceIte, Nat.reduceBEq, k0, k2, k7, k8, k11, k12, k13, k14, g0, g2, g7, g8, g11, g12, g13, g14, w3])
    · simp only [XX, CC, YY, Nat.reduceAdd, Nat.reduceSub, Nat.reduceLeDiff, Nat.reduceLT, Nat.reduceEqDiff, reduceIte, ↓reduceIte, Nat.reduceBEq, t600]
      refine hend2 cw3.at_ (by simp only [XX, CC, YY, Nat.reduceAdd, Nat.reduceSub, Nat.reduceLeDiff, Nat.reduceLT, Nat.reduceEqDiff, reduceIte, ↓reduceIte, Nat.reduceBEq, g7]) (c := 60) (by simp only [XX, CC, YY, Nat.reduceAdd, Nat.reduceSub, Nat.reduceLeDiff, Nat.reduceLT, Nat.reduceEqDiff, reduceIte, ↓reduceIte, Nat.reduceBEq]) (.inr ⟨rfl, hd3⟩) fun e' k0 k2 k7 k8 k11 k12 k13 k14 => ?_
      simp only [XX, CC, YY, Nat.reduceAdd, Nat.reduceSub, Nat.reduceLeDiff, Nat.reduceLT, Nat.reduceEqDiff, reduceIte, ↓reduceIte, Nat.reduceBEq] at k0 k2 k7 k8 k11 k12 k13 k14
      simp only [XX, CC, YY, Nat.reduceAdd, Nat.reduceSub, Nat.reduceLeDiff, Nat.reduceLT, Nat.reduceEqDiff, reduceIte, ↓reduceIte, Nat.reduceBEq, k14, g14, w3]
      refine hJ (d - 1) _ _ (by omega) ⟨i + 1, L3, D3, S ++ [q.1], sv', sf, all + (q.1.size + 8), by omega, ⟨cw3, lw3, nm2, sw3, svk1, hgS, hsS, by omega, by omega, by omega, by omega, .inr ⟨hd3, K, by rw [htk]; omega, hK2, hF3⟩, ?_, ?_, ?_, ?_, ?_, ?_, ?_, ?_⟩⟩ <;> (try simp only [XX, CC, YY, Nat.reduceAdd, Nat.reduceSub, Nat.reduceLeDiff, Nat.reduceLT, Nat.reduceEqDiff, reduceIte, ↓reduceIte, Nat.reduceBEq, k0, k2, k7, k8, k11, k12, k13, k14, g0, g2, g7, g8, g11, g12, g13, g14, w3])
end Go.Ev

/-! WalCrash: its run. -/
namespace Go.Ev
set_option linter.unusedVariables false
set_option linter.unusedSimpArgs false
open Go.Ev.So Go.Proofs

def PutQ (q : ByteArray × Bool) : Prop := q.1.size < 140737488355328
theorem newC {s t : St} (hx : Ext s t) : CW s t.length (t.length + 1) (newD t.length) (t ++ [.map [] 0, .cells true (cD (newD t.length))]) := by
  have hl := hx.len
  refine ⟨new_at t, newD_ok _, by simp, fun i hi => ?_, by simp; omega, fun i hi => ?_⟩
  · rcases hi with rfl | rfl | ⟨f, hf, _⟩
    · omega
    · exact hl
    · simp [newD] at hf
  · rw [List.getElem?_append_left (by omega), hx.get hi]
set_option maxHeartbeats 8000000 in
theorem crash_r (s : St) (v0 : AV) (l : List (ByteArray × Bool)) (cut keep : Int) (hl : l.length ≤ 140737488351232) (hq : ∀ q ∈ l, PutQ q) (hv : Rd 2 cPut s v0 l)
    (hcut : -9223372036854775808 ≤ cut ∧ cut ≤ 9223372036854775807) (hkeep : -9223372036854775808 ≤ keep ∧ keep ≤ 9223372036854775807) :
    Run T f_w07_WalCrash [v0, .int .i64 cut, .int .i64 keep] s fun r _ => r = .bool true := by
  refine run_body (F := r_w07_WalCrash) (has rfl) (by simp [r_w07_WalCrash]) ?_
  have hround := crash_round s v0 l keep hl hq hv
  have htail := crash_tail s
  obtain ⟨LOOP, hL⟩ : ∃ c, c = crL := ⟨_, rfl⟩
  obtain ⟨TAIL, hT⟩ : ∃ c, c = crC := ⟨_, rfl⟩
  obtain ⟨B, hB⟩ : ∃ c, c = r_w07_WalCrash.body := ⟨_, rfl⟩
  have hbody : r_w07_WalCrash.body = .seq B.fst (.seq B.snd.fst (.seq B.snd.snd.fst (.seq B.snd.snd.snd.fst (.seq B.snd.snd.snd.snd.fst (.seq B.snd.snd.snd.snd.snd.fst (.seq B.snd.snd.snd.snd.snd.snd.fst (.seq B.snd.snd.snd.snd.snd.snd.snd.fst (.seq B.snd.snd.snd.snd.snd.snd.snd.snd.fst (.seq (.seq B.snd.snd.snd.snd.snd.snd.snd.snd.snd.fst.fst (.block 0 (.loop LOOP))) TAIL))))))))) := by rw [hB, hL, hT]; rfl
  rw [← hL] at hround
  rw [← hT] at htail
  rw [hbody, hB]
  clear hL hT hbody hB
  have e1 : bts [108, 111, 103] = wNm := rfl
  have t00 : ((0 : Int) == 0) = true := rfl
  have q0 : 0 ≤ IntKind.u64.wrap cut := by rw [u64_wrap]; omega
  obtain ⟨u, hu⟩ : ∃ u, IntKind.u64.wrap cut = u := ⟨_, rfl⟩
  rw [hu] at q0
  have r60 := rem60 q0
  have w60 : IntKind.i64.wrap (u % 60) = u % 60 := w64_in (by omega) (by omega)
  simp only [r_w07_WalCrash, RC.fst, RC.snd, XX, CC, YY, Nat.reduceAdd, Nat.reduceSub, Nat.reduceLeDiff, Nat.reduceLT, Nat.reduceEqDiff, reduceIte, ↓reduceIte, Nat.reduceBEq]
  refine (awake07_r s).use ?_
  simp only [XX, CC, YY, Nat.reduceAdd, Nat.reduceSub, Nat.reduceLeDiff, Nat.reduceLT, Nat.reduceEqDiff, reduceIte, ↓reduceIte, Nat.reduceBEq, Bool.not_true]
  refine Run.mono _ _ _ _ _ ?_ (new_r s)
  rintro v t1 ⟨rfl, rfl⟩
  have cw1 := newC (Ext.refl s)
  have ho := opn_w cw1 wNm (by decide) (wo_E _)
  rw [wo_D, wo_L, wo_l] at ho
  simp only [XX, CC, YY, Nat.reduceAdd, Nat.reduceSub, Nat.reduceLeDiff, Nat.reduceLT, Nat.reduceEqDiff, reduceIte, ↓reduceIte, Nat.reduceBEq, e1]
  refine Run.mono _ _ _ _ _ ?_ ho
  rintro v t2 ⟨k, r, rfl, hk, st2, lw2, sw2, hr2⟩
  have hX0 : ∀ i : Nat, False → s.length ≤ i := fun _ h => h.elim
  have cw2 := cw1.step st2 hX0
  simp only [XX, CC, YY, Nat.reduceAdd, Nat.reduceSub, Nat.reduceLeDiff, Nat.reduceLT, Nat.reduceEqDiff, reduceIte, ↓reduceIte, Nat.reduceBEq, t00, Bool.not_true, hu, r60, w60]
  refine Run.mono _ _ _ _ _ ?_ (arm_w cw2 (u % 60) keep)
  rintro v t3 ⟨rfl, st3⟩
  have cw3 := cw2.step st3 hX0
  have lw3 := lw2.step st3 (fun h => h)
  have hd : (newD s.length).down = false := rfl
  have hF : HF (armD (newD s.length) (u % 60) keep) (bts []) 0 := .inl ⟨(armD_same _ _ _).2.2, rfl, rfl⟩
  have hd3 : (armD (newD s.length) (u % 60) keep).down = false := rfl
  generalize armD (newD s.length) (u % 60) keep = D3 at *
  (try simp only [XX, CC, YY, Nat.reduceAdd, Nat.reduceSub, Nat.reduceLeDiff, Nat.reduceLT, Nat.reduceEqDiff, reduceIte, ↓reduceIte, Nat.reduceBEq])
  refine awp_rounds (fun d e t => ∃ i L D S sv sf all, i + d = l.length ∧ CI s s.length (s.length + 1) k v0 keep l.length i e t L D S sv sf all) l.length ?_ ?_
  · refine ⟨0, wL0 (s.length + 1), D3, [], .nils, 0, 0, by omega, ⟨cw3, lw3, rfl, ⟨.inl ⟨rfl, rfl⟩, fun i ⟨o, e', m, c, h⟩ => (by cases h)⟩, fun o e' m c h => (by cases h), fun r hr => (by simp at hr), Nat.le_refl _, by omega, Nat.le_refl _, Nat.le_refl _, by omega, .inl ⟨hd3, rfl, hF⟩, ?_, ?_, ?_, ?_, ?_, ?_, ?_, ?_⟩⟩ <;> simp only [XX, CC, YY, Nat.reduceAdd, Nat.reduceSub, Nat.reduceLeDiff, Nat.reduceLT, Nat.reduceEqDiff, reduceIte, ↓reduceIte, Nat.reduceBEq] <;> rfl
  · rintro J d e t hJ ⟨i, L, D, S, sv, sf, all, hid, h⟩
    refine hround s.length (s.length + 1) k _ ?_ ?_ J d e t hJ i L D S sv sf all hid h
    · intro e t h6
      simp only [XX, CC, YY, Nat.reduceAdd, Nat.reduceSub, Nat.reduceLeDiff, Nat.reduceLT, Nat.reduceEqDiff, reduceIte, ↓reduceIte, Nat.reduceBEq, h6]
      exact .inl rfl
    · intro e t i L D S sv sf all h
      simp only [XX, CC, YY, Nat.reduceAdd, Nat.reduceSub, Nat.reduceLeDiff, Nat.reduceLT, Nat.reduceEqDiff, reduceIte, ↓reduceIte, Nat.reduceBEq]
      exact htail t e s.length (s.length + 1) k sf keep L D S sv h.cw h.lw h.nm h.sw h.svk h.g2 h.g7 h.g8 h.g11 h.g12 h.good (Nat.le_trans h.size h.all_) h.sfl (by have := h.sl; have := h.i2; omega) (by rcases h.st with ⟨h1, _, h3⟩ | h1; exact .inl ⟨h1, h3⟩; exact .inr h1)
end Go.Ev

/-! The arguments' types: strings, ints. -/
namespace Go.Ev
open Go.ChangeShapes Go.WideShapes Go.ChangeAt Go.RowKit Go.Proofs
set_option maxRecDepth 100000
set_option linter.unusedVariables false
set_option linter.unusedSimpArgs false

section
variable {Hh : Type} {enc : TypeId × Value → Hh} {w : World} {base : Nat} {spare : Nat → Bool} {held : Bool} {fuel : Nat} {cs : List Value} {x : DataW Hh × List MemPlace}
theorem i64_of (y : Int) (h : (Lit.int .i64 y).wf = true) : -9223372036854775808 ≤ y ∧ y ≤ 9223372036854775807 := by
  simpa [Lit.wf, IntKind.min, IntKind.max, IntKind.signed, IntKind.bits] using h
theorem arg_I {v : Value} {d : DataW Hh} {p : List MemPlace} {b0 : Nat} {r : Reach} (hv : Value.okWide Tryd.prog w r b0 3 v) (h : DataW.Trod enc Tryd.prog w base spare held 3 v d p) : ∃ q : Int, (-9223372036854775808 ≤ q ∧ q ≤ 9223372036854775807) ∧ ∀ m, VR m (.int .i64 q) v := by
  obtain ⟨y, rfl, _, _, u⟩ := open_int Tryd.underlying3 hv h
  exact ⟨y, i64_of y u, fun m => rfl⟩
theorem arg_S {v : Value} {d : DataW Hh} {p : List MemPlace} {b0 : Nat} {r : Reach} (hv : Value.okWide Tryd.prog w r b0 9 v) (h : DataW.Trod enc Tryd.prog w base spare held 9 v d p)
    {ts : List TypeId} {ds : List (DataW Hh)} (hsz : (DataW.weightsEach Tryd.prog ts ds).all (· ≤ reachBytes) = true) {j : Nat} (htj : ts[j]? = some 9) (hdj : ds[j]? = some d) : ∃ q : ByteArray, q.size < 140737488355328 ∧ ∀ m, VR m (.str q) v := by
  obtain ⟨y, rfl, rfl, _, _⟩ := Go.ChangeMaps.open_string Tryd.underlying9 hv h
  have := sized_string hsz htj hdj
  unfold reachBytes at this
  have e : y.data.toList.length = y.size := Array.length_toList ..
  exact ⟨y, by omega, fun m => rfl⟩
end

section
variable {α : Type} {H : Type} {enc : TypeId × Value → H} {P : Program} {W : World}
theorem weights_mem {e : TypeId} : ∀ {l : List (DataW H)} {d : DataW H}, d ∈ l → ∀ {w : Nat}, w ∈ d.weights P e → w ∈ DataW.weightsAll P e l
  | x :: l, d, h, w, hw => by
    unfold DataW.weightsAll
    rcases List.mem_cons.1 h with rfl | h
    · exact List.mem_append_left _ hw
    · exact List.mem_append_right _ (weights_mem h hw)
/-- A slice argument, opened, what its elements hold bounded. -/
theorem slice_argW {t e : TypeId} {v : Value} {d : DataW H} {ps : List MemPlace} {b0 : Nat} (ht : P.underlying t = some (.slice e)) (hv : Value.okWide P W .any b0 t v) (h : DataW.Trod enc P W 0 (fun _ => true) true t v d ps)
    {n : Nat} (hn : P.cellsOf e = n) (h0 : 0 < n) {en : α → List AV} (he : ∀ q, (en q).length = n) {Q : α → Prop}
    (elem : ∀ fuel cs x, DataW.trod enc P W 0 (fun _ => true) true fuel e cs = some x → (∀ w ∈ x.1.weights P e, w ≤ reachBytes) → ∃ q, Q q ∧ ∀ m, VRs m (en q) cs)
    {ts : List TypeId} {ds : List (DataW H)} (hsz : (DataW.weightsEach P ts ds).all (· ≤ reachBytes) = true) {j : Nat} (htj : ts[j]? = some t) (hdj : ds[j]? = some d) (hB : 0 < P.bytesOf e) :
    ∃ l : List α, (∀ q ∈ l, Q q) ∧ SlArg W v n en l ∧ l.length ≤ 140737488351232 := by
  obtain ⟨a, len, cap, rfl⟩ := okWide_slice ht hv
  obtain ⟨fuel, hf⟩ := h
  rcases Go.Deep.open_slice ht hf with ⟨hcs, _⟩ | ⟨a', len', cap', m, k, D, Pl, hcs, _, hl, hm, hmm, hx, hi⟩
  · simp [Value.cells] at hcs
    obtain ⟨rfl, rfl, rfl⟩ := hcs
    exact ⟨[], by simp, .inl ⟨rfl, rfl⟩, by simp⟩
  · simp [Value.cells] at hcs
    obtain ⟨rfl, rfl, rfl⟩ := hcs
    simp at hmm
    subst hmm
    rw [hn] at hi
    have hok : len ≤ m ∧ (m : Int) ≤ IntKind.i64.max ∧ W.has P .any b0 a' e m := by
      have hv' := hv
      unfold Value.okWide at hv'
      rw [ht] at hv'
      simp only [Cell.okWide, ht, Cell.ok] at hv'
      exact hv'
    obtain ⟨_, hsp, row, cells, hsh, hlies⟩ := hok.2.2
    obtain ⟨c, x, sp⟩ := a'
    simp only at hsp
    subst hsp
    unfold World.shape? at hsh
    split at hsh <;> try (simp at hsh; done)
    rename_i cs tt fz hc
    simp only [Option.some.injEq, Prod.mk.injEq] at hsh
    obtain ⟨rfl, rfl⟩ := hsh
    have hx0 := lies_le hlies
    change x ≤ _ at hx0
    change W.heap[c]? = _ at hc
    have hx1 := Nat.div_mul_le_self cs.size (P.cellsOf tt)
    have hwt : ∀ i, i < len → ∀ w ∈ (D i).weights P e, w ≤ reachBytes := by
      intro i hlt w hw
      obtain ⟨hx1, _⟩ := Prod.mk.inj hx
      have hall := List.all_eq_true.1 hsz
      refine of_decide_eq_true (hall w (DataW.weights_mem_each htj (hdj.trans (congrArg some hx1)) w ?_))
      unfold DataW.weights
      rw [ht]
      exact List.mem_cons_of_mem _ (List.mem_append_left _ (weights_mem (List.mem_map.2 ⟨i, List.mem_range.2 hlt, rfl⟩) hw))
    have cellAt : ∀ i, i < m → ∃ (cs' : List Value), DataW.trod enc P W 0 (fun _ => true) true k e cs' = some (D i, Pl i) ∧ cs'.length = n ∧ ∀ k, k < n → cs[x + (i * n + k)]? = cs'[k]? := by
      intro i hlt
      obtain ⟨cs', h1, h2⟩ := hi i hlt
      obtain ⟨_, h3, h4⟩ := World.cells?_some h1
      refine ⟨cs', h2, h3, fun k hk => ?_⟩
      have := h4 k hk
      rw [Go.Deep.add_add] at this
      rw [← this, cell_off hc]
    obtain ⟨l, hll, hle⟩ := list_of (P := fun i (q : α) => Q q ∧ ∀ k a, (en q)[k]? = some a → ∃ u : Value, cs[x + (i * n + k)]? = some u ∧ ∀ m, VR m a u) len fun i hlt => by
      obtain ⟨cs', h1, h2, h3⟩ := cellAt i (by omega)
      obtain ⟨q, hq, hvr⟩ := elem _ _ _ h1 (hwt i hlt)
      refine ⟨q, hq, fun k a ha => ?_⟩
      have hkn : k < n := by rw [← he q]; exact (List.getElem?_eq_some_iff.1 ha).1
      obtain ⟨u, hu, _⟩ := VRs.at (hvr fun _ => none) ha
      refine ⟨u, by rw [h3 k hkn]; exact hu, fun m => ?_⟩
      obtain ⟨u', hu', hr⟩ := VRs.at (hvr m) ha
      rw [hu] at hu'; cases hu'; exact hr
    refine ⟨l, ?_, .inr ⟨c, x, m, cs, tt, fz, by rw [hll], by omega, ?_, hc, ?_⟩, ?_⟩
    · intro q hq
      obtain ⟨i, hlt, rfl⟩ := List.getElem_of_mem hq
      exact (hle i _ (List.getElem?_eq_getElem hlt)).1
    · rcases Nat.eq_zero_or_pos m with rfl | hm0
      · rw [Nat.zero_mul]; omega
      · obtain ⟨cs', h1, h2, h3⟩ := cellAt (m - 1) (by omega)
        have h4 := h3 (n - 1) (by omega)
        rw [List.getElem?_eq_getElem (by omega)] at h4
        have h5 := (Array.getElem?_eq_some_iff.1 h4).1
        have : m * n = (m - 1) * n + n := by rw [← Nat.succ_mul]; congr 1; omega
        omega
    · intro i a ha
      obtain ⟨j, k, q, rfl, hk, hq, hqa⟩ := flat_at he ha
      exact (hle j q hq).2 k a hqa
    · obtain ⟨hx, _⟩ := Prod.mk.inj hx
      have z := sized_slice hsz htj (hdj.trans (congrArg some hx)) ht
      have h1 : ((List.range len).map D).length + ((List.range (m - len)).map fun j => D (len + j)).length = m := by simp; omega
      rw [h1] at z
      rw [hll]
      have : m * 1 ≤ m * P.bytesOf e := Nat.mul_le_mul_left _ hB
      unfold reachBytes at z
      omega
end
end Go.Ev

/-! The argument's type: puts. -/
namespace Go.Ev
open Go.ChangeShapes Go.WideShapes Go.ChangeAt Go.RowKit Go.Proofs
set_option maxRecDepth 100000
set_option linter.unusedVariables false
set_option linter.unusedSimpArgs false

section
variable {Hh : Type} {enc : TypeId × Value → Hh} {w : World} {base : Nat} {spare : Nat → Bool} {held : Bool} {fuel : Nat} {cs : List Value} {x : DataW Hh × List MemPlace}
theorem agg_weight {fs : Array Field} {t e : TypeId} {xs : List (DataW Hh)} {j : Nat} {y : ByteArray} (ht : Tryd.prog.underlying t = some (.struct fs)) (hj : (fs.toList.map (·.type))[j]? = some e) (hx : xs[j]? = some (.lit (.string y.data.toList)))
    (hw : ∀ w ∈ (DataW.agg xs).weights Tryd.prog t, w ≤ reachBytes) : y.size < 140737488355328 := by
  have h1 : y.data.toList.length ∈ DataW.weightsEach Tryd.prog (fs.toList.map (·.type)) xs := DataW.weights_mem_each hj hx _ (by unfold DataW.weights; exact List.mem_singleton.2 rfl)
  have h2 := hw y.data.toList.length (by unfold DataW.weights; rw [ht]; exact h1)
  have e : y.data.toList.length = y.size := Array.length_toList ..
  unfold reachBytes at h2
  omega
theorem trod_Put (h : DataW.trod enc Tryd.prog w base spare held fuel 42 cs = some x) (hw : ∀ w ∈ x.1.weights Tryd.prog 42, w ≤ reachBytes) : ∃ q : ByteArray × Bool, PutQ q ∧ ∀ m, VRs m (cPut q) cs := by
  obtain ⟨xs, n, _, hx, hl, hlen, hf⟩ := DataW.trod_struct Tryd.underlying42 h
  have hl' : cs.length = 2 := hl.trans (by kernel_rfl)
  obtain ⟨c0, c1, rfl⟩ : ∃ c0 c1 : Value, cs = [c0, c1] := by
    match cs, hl' with
    | [c0, c1], _ => exact ⟨_, _, rfl⟩
  have kS : Tryd.prog.cellsOf 9 = 1 := by kernel_rfl
  have kB : Tryd.prog.cellsOf 4 = 1 := by kernel_rfl
  have h0 : DataW.trod enc Tryd.prog w base spare held n 9 ((([c0, c1] : List Value).drop 0).take (Tryd.prog.cellsOf 9)) = xs[0]? := hf 0 _ rfl
  rw [kS, List.getElem?_eq_getElem (by rw [hlen]; decide)] at h0
  have h1 : DataW.trod enc Tryd.prog w base spare held n 4 ((([c0, c1] : List Value).drop 1).take (Tryd.prog.cellsOf 4)) = xs[1]? := hf 1 _ rfl
  rw [kB, List.getElem?_eq_getElem (by rw [hlen]; decide)] at h1
  obtain ⟨y0, e0, f0, _⟩ := DataW.trod_string Tryd.underlying9 h0
  obtain ⟨y1, e1, _⟩ := DataW.trod_bool Tryd.underlying4 h1
  obtain rfl : c0 = .string y0 := by simpa using e0
  obtain rfl : c1 = .bool y1 := by simpa using e1
  rw [hx] at hw
  refine ⟨(y0, y1), agg_weight (j := 0) Tryd.underlying42 rfl (by rw [List.getElem?_map, List.getElem?_eq_getElem (by rw [hlen]; decide), f0]; rfl) hw, fun m => ⟨_, _, rfl, rfl, _, _, rfl, rfl, rfl⟩⟩
end
end Go.Ev
