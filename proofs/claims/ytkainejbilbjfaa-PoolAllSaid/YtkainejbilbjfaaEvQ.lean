import Derived.Test.YtkainejbilbjfaaEvP
/-! For proofs about functions: what to rewrite with. -/
namespace Go.Ev
set_option linter.unusedVariables false
set_option linter.unusedSimpArgs false

section
variable {X : Oracle} {e : Env} {s : St}

def seqK (X : Oracle) (b : RC) (Q : XE → Env → St → Prop) : XE → Env → St → Prop := fun x e s => match x with
  | .nrm => awp X b Q e s
  | .exit id => Q (.exit id) e s
  | .ret => Q .ret e s
def blockK (id : Nat) (Q : XE → Env → St → Prop) : XE → Env → St → Prop := fun x e s => match x with
  | .nrm => Q .nrm e s
  | .exit j => if j = id then Q .nrm e s else Q (.exit j) e s
  | .ret => Q .ret e s
/-- The end of a function. -/
def endR (rs : List RR) (s : St) (k : AV → St → Prop) (e : Env) (s1 : St) : Prop := ob (resA rs e s1) fun vs => Ret s (oneV vs) s1 k
theorem endR_def {rs : List RR} {s : St} {k : AV → St → Prop} {e : Env} {s1 : St} : endR rs s k e s1 = ob (resA rs e s1) fun vs => Ret s (oneV vs) s1 k := rfl
theorem res_nil {e : Env} {s : St} : resA [] e s = some [] := rfl
theorem res_tmp {t : Nat} {rs : List RR} {e : Env} {s : St} : resA (.tmp t :: rs) e s = (resA rs e s).map (e.get t :: ·) := rfl
theorem res_cell {n : Option Nat} {t : Nat} {rs : List RR} {e : Env} {s : St} : resA (.cell n t :: rs) e s = (ldA s n (e.get t)).bind fun v => (resA rs e s).map (v :: ·) := by
  simp only [resA]
  cases ldA s n (e.get t) <;> cases resA rs e s <;> rfl
theorem one_1 {v : AV} : oneV [v] = v := rfl
theorem one_2 {v w : AV} {l : List AV} : oneV (v :: w :: l) = .tup (v :: w :: l) := rfl
def endK (rs : List RR) (s0 : St) (k : AV → St → Prop) : XE → Env → St → Prop := fun x e s1 => match x with
  | .exit _ => False
  | .nrm => endR rs s0 k e s1
  | .ret => endR rs s0 k e s1

theorem seqK_nrm {b : RC} {Q : XE → Env → St → Prop} : seqK X b Q .nrm e s = awp X b Q e s := rfl
theorem seqK_exit {b : RC} {Q : XE → Env → St → Prop} {id : Nat} : seqK X b Q (.exit id) e s = Q (.exit id) e s := rfl
theorem seqK_ret {b : RC} {Q : XE → Env → St → Prop} : seqK X b Q .ret e s = Q .ret e s := rfl
theorem blockK_nrm {id : Nat} {Q : XE → Env → St → Prop} : blockK id Q .nrm e s = Q .nrm e s := rfl
theorem blockK_exit {id j : Nat} {Q : XE → Env → St → Prop} : blockK id Q (.exit j) e s = if j = id then Q .nrm e s else Q (.exit j) e s := rfl
theorem blockK_ret {id : Nat} {Q : XE → Env → St → Prop} : blockK id Q .ret e s = Q .ret e s := rfl
theorem endK_ret {F : List RR} {s0 : St} {k : AV → St → Prop} : endK F s0 k .ret e s = endR F s0 k e s := rfl
theorem endK_nrm {F : List RR} {s0 : St} {k : AV → St → Prop} : endK F s0 k .nrm e s = endR F s0 k e s := rfl

theorem awp_skip {Q : XE → Env → St → Prop} : awp X .skip Q e s = Q .nrm e s := rfl
theorem awp_reg {ops : List ROp} {Q : XE → Env → St → Prop} : awp X (.reg ops) Q e s = opsA X ops e s (Q .nrm) := rfl
theorem awp_drw {n : Nat} {ds : List DOp} {Q : XE → Env → St → Prop} : awp X (.drw n ds) Q e s = drwA X n ds e s (Q .nrm) := rfl
theorem awp_seq {a b : RC} {Q : XE → Env → St → Prop} : awp X (.seq a b) Q e s = awp X a (seqK X b Q) e s := rfl
theorem awp_block {id : Nat} {c : RC} {Q : XE → Env → St → Prop} : awp X (.block id c) Q e s = awp X c (blockK id Q) e s := rfl
theorem awp_exit {id : Nat} {Q : XE → Env → St → Prop} : awp X (.exit id) Q e s = Q (.exit id) e s := rfl
theorem awp_ret {Q : XE → Env → St → Prop} : awp X .ret Q e s = Q .ret e s := rfl

/-- A test. -/
theorem awp_cond {c : RX} {a b : RC} {Q : XE → Env → St → Prop} {t : Bool} (h : c.ev e = .bool t) (ht : t = true → awp X a Q e s) (hf : t = false → awp X b Q e s) : awp X (.cond c a b) Q e s := by
  simp only [awp, h]
  cases t
  · exact hf rfl
  · exact ht rfl
theorem awp_cond_t {c : RX} {a b : RC} {Q : XE → Env → St → Prop} (h : c.ev e = .bool true) : awp X (.cond c a b) Q e s = awp X a Q e s := by simp only [awp, h]
theorem awp_cond_f {c : RX} {a b : RC} {Q : XE → Env → St → Prop} (h : c.ev e = .bool false) : awp X (.cond c a b) Q e s = awp X b Q e s := by simp only [awp, h]

theorem opsA_nil {k : Env → St → Prop} : opsA X [] e s k = k e s := rfl
theorem opsA_op {d : Option Nat} {o : RO} {os : List ROp} {k : Env → St → Prop} : opsA X (⟨d, none, o⟩ :: os) e s k = opA X o e s fun v s' => opsA X os (putO e d v) s' k := rfl
theorem opsA_gv {d : Option Nat} {t : Nat} {w : Bool} {o : RO} {os : List ROp} {k : Env → St → Prop} {b : Bool} (h : gv w (e.get t) = some b) :
    opsA X (⟨d, some (t, w), o⟩ :: os) e s k = if b = true then opA X o e s fun v s' => opsA X os (putO e d v) s' k else opsA X os (putO e d (.tup [])) s k := by
  simp only [opsA, h]; cases b <;> rfl
theorem opsA_g {d : Option Nat} {t : Nat} {w : Bool} {o : RO} {os : List ROp} {k : Env → St → Prop} {b : Bool} (h : e.get t = .bool b) :
    opsA X (⟨d, some (t, w), o⟩ :: os) e s k = if b = w then opA X o e s fun v s' => opsA X os (putO e d v) s' k else opsA X os (putO e d (.tup [])) s k := by rw [opsA_gv (b := b == w) (by rw [h]; rfl)]; simp only [beq_iff_eq]

theorem putO_some {d : Nat} {v : AV} : putO e (some d) v = e.put d v := rfl
theorem putO_none {v : AV} : putO e none v = e := rfl

theorem ev_t {n : Nat} : (RX.t n).ev e = e.get n := rfl
theorem ev_k {a : AV} : (RX.k a).ev e = a := rfl

def ixaA (es : Nat) (x i : AV) : Option AV := match x, i with
  | .sl b o e' n _, .int _ j => if e' = es ∧ 0 ≤ j ∧ j < (n : Int) then some (.ptr b (o + j.toNat * es)) else none
  | _, _ => none
def lenlA : AV → Option AV
  | .nils => some (.int .i64 0)
  | .sl _ _ _ n _ => some (.int .i64 n)
  | _ => none
def offA (k : Nat) : AV → Option AV
  | .ptr b o => some (.ptr b (o + k))
  | _ => none
def extA (i : Nat) : AV → Option AV
  | .tup vs => vs[i]?
  | _ => none
def fldA (n : Option Nat) (k : Nat) : AV → Option AV
  | .agg cs => partA n k cs
  | _ => none
def pickA (c a b : AV) : Option AV := match c with
  | .bool true => some a
  | .bool false => some b
  | _ => none

variable {k : AV → St → Prop}
theorem op_mv {x : RX} : opA X (.mv x) e s k = k (x.ev e) s := by simp [opA, pureA]
theorem op_pick {c a b : RX} : opA X (.pick c a b) e s k = ob (pickA (c.ev e) (a.ev e) (b.ev e)) fun v => k v s := rfl
theorem op_new {z : List AV} : opA X (.new z) e s k = k (.ptr s.length 0) (s ++ [.cells true z]) := rfl
theorem op_box {n : Option Nat} {x : RX} : opA X (.box n x) e s k = ob (boxA n (x.ev e)) fun cs => k (.ptr s.length 0) (s ++ [.cells true cs]) := rfl
theorem op_bsl {es len : Nat} {z : List AV} {ps : List (Nat × Nat × RX)} : opA X (.bsl es len z ps) e s k = ob (fillA ((List.replicate len z).flatten) (evParts e ps)) fun cs => k (.sl s.length 0 es len (some len)) (s ++ [.cells true cs]) := rfl
theorem op_bld {z : List AV} {ps : List (Nat × Nat × RX)} : opA X (.bld z ps) e s k = ob ((fillA z (evParts e ps)).map .agg) fun v => k v s := rfl
theorem op_ld {n : Option Nat} {x : RX} : opA X (.ld n x) e s k = ob (ldA s n (x.ev e)) fun v => k v s := rfl
theorem op_st {n : Option Nat} {x y : RX} : opA X (.st n x y) e s k = ob (stA s n (x.ev e) (y.ev e)) fun s' => k .undef s' := rfl
theorem op_bin {op : BinOp} {x y : RX} : opA X (.bin op x y) e s k = ob (binA op (x.ev e) (y.ev e)) fun v => k v s := rfl
theorem op_eq {neg : Bool} {q : EqT} {x y : RX} : opA X (.eq neg q x y) e s k = ob ((eqA q (x.ev e) (y.ev e)).map fun b => .bool (if neg then !b else b)) fun v => k v s := rfl
theorem op_un {op : UnOp} {x : RX} : opA X (.un op x) e s k = ob (unA op (x.ev e)) fun v => k v s := rfl
theorem op_off {n : Nat} {x : RX} : opA X (.off n x) e s k = ob (offA n (x.ev e)) fun v => k v s := rfl
theorem op_fld {n : Option Nat} {j : Nat} {x : RX} : opA X (.fld n j x) e s k = ob (fldA n j (x.ev e)) fun v => k v s := rfl
theorem op_ixa {n : Nat} {x i : RX} : opA X (.ixa n x i) e s k = ob (ixaA n (x.ev e) (i.ev e)) fun v => k v s := rfl
theorem op_ext {i : Nat} {x : RX} : opA X (.ext i x) e s k = ob (extA i (x.ev e)) fun v => k v s := rfl
theorem op_slc {n : Nat} {x : RX} {lo hi mx : Option RX} : opA X (.slc n x lo hi mx) e s k = ob (slcA n (x.ev e) (optX e lo) (optX e hi) (optX e mx)) fun v => k v s := rfl
theorem op_lenl {x : RX} : opA X (.lenl x) e s k = ob (lenlA (x.ev e)) fun v => k v s := rfl
theorem op_app {es by_ : Nat} {x y : RX} : opA X (.app es by_ x y) e s k = ob (appA s es by_ (x.ev e) (y.ev e)) fun r => k r.1 r.2 := rfl
theorem op_appz {es by_ : Nat} {z : List AV} {x y : RX} : opA X (.appz es by_ z x y) e s k = ob (appzA s es by_ z (x.ev e) (y.ev e)) fun r => k r.1 r.2 := rfl
theorem op_mks {es by_ : Nat} {z : List AV} {x y : RX} : opA X (.mks es by_ z x y) e s k = ob (mksA s es by_ z (x.ev e) (y.ev e)) fun r => k r.1 r.2 := rfl
theorem op_mkf {f : Nat} {xs : List RX} : opA X (.mkf f xs) e s k = k (.fn f (evs e xs)) s := by simp [opA, pureA]
theorem op_call {f : Nat} {xs : List RX} : opA X (.call f xs) e s k = X f (evs e xs) s k := rfl
theorem op_calld {x : RX} {xs : List RX} {f : Nat} {cs : List AV} (h : x.ev e = .fn f cs) : opA X (.calld x xs) e s k = X f (evs e xs ++ cs) s k := by simp only [opA, h]
theorem op_other {o : RO} (h : o.isPure = true) : opA X o e s k = ob (pureA o e) fun v => k v s := by cases o <;> simp [RO.isPure] at h <;> rfl

theorem offA_ptr {b o n : Nat} : offA n (.ptr b o) = some (.ptr b (o + n)) := rfl
theorem extA_tup {vs : List AV} {i : Nat} : extA i (.tup vs) = vs[i]? := rfl
theorem pickA_t {a b : AV} : pickA (.bool true) a b = some a := rfl
theorem pickA_f {a b : AV} : pickA (.bool false) a b = some b := rfl
theorem evs_nil : evs e [] = [] := rfl
theorem evs_cons {x : RX} {xs : List RX} : evs e (x :: xs) = x.ev e :: evs e xs := rfl
theorem evParts_nil : evParts e [] = [] := rfl
theorem evParts_cons {o n : Nat} {x : RX} {r : List (Nat × Nat × RX)} : evParts e ((o, n, x) :: r) = (o, n, x.ev e) :: evParts e r := rfl
theorem get_put {i j : Nat} {v : AV} : (e.put i v).get j = if j = i then v else e.get j := Env.get_put e i j v
theorem get_cons0 {a : AV} {l : List AV} : Env.get (a :: l) 0 = a := rfl
theorem get_cons {a : AV} {l : List AV} {n : Nat} : Env.get (a :: l) (n + 1) = Env.get l n := by simp [Env.get]
theorem get_nil {n : Nat} : Env.get [] n = .undef := rfl
end

/-! ### blocks -/
section
variable {s t : St}

/-- The store `t` has `s` at its beginning, as it was. -/
def Ext (s t : St) : Prop := ∃ l, t = s ++ l
theorem Ext.refl (s : St) : Ext s s := ⟨[], by simp⟩
theorem Ext.trans {a b c : St} (h : Ext a b) (k : Ext b c) : Ext a c := by
  obtain ⟨l, rfl⟩ := h
  obtain ⟨l', rfl⟩ := k
  exact ⟨l ++ l', by simp⟩
theorem Ext.app (h : Ext s t) (l : List Blk) : Ext s (t ++ l) := h.trans ⟨l, rfl⟩
theorem Ext.len (h : Ext s t) : s.length ≤ t.length := by obtain ⟨l, rfl⟩ := h; simp
theorem Ext.set (h : Ext s t) {i : Nat} (hi : s.length ≤ i) (b : Blk) : Ext s (t.set i b) := by
  obtain ⟨l, rfl⟩ := h
  exact ⟨l.set (i - s.length) b, List.set_append_right _ _ hi⟩
theorem Ext.get (h : Ext s t) {i : Nat} (hi : i < s.length) : t[i]? = s[i]? := by
  obtain ⟨l, rfl⟩ := h
  exact List.getElem?_append_left hi
theorem Ext.get_some (h : Ext s t) {i : Nat} {b : Blk} (hi : s[i]? = some b) : t[i]? = some b := by
  rw [h.get (List.getElem?_eq_some_iff.1 hi).1]; exact hi
theorem Ext.rd (h : Ext s t) {i : Nat} {cs : List AV} (hi : rdB s i = some cs) : rdB t i = some cs := by
  unfold rdB at hi ⊢
  split at hi
  · rename_i hs; rw [h.get_some hs]; exact hi
  · simp at hi
theorem Ext.ld (h : Ext s t) {n : Option Nat} {p v : AV} (hi : ldA s n p = some v) : ldA t n p = some v := by
  unfold ldA at hi ⊢
  split at hi
  · split at hi
    · rename_i hs; rw [h.rd hs]; exact hi
    · simp at hi
  · simp at hi
theorem Ext.cells (h : Ext s t) {e : Nat} {v : AV} {cs : List AV} (hi : cellsA s e v = some cs) : cellsA t e v = some cs := by
  unfold cellsA at hi ⊢
  split at hi
  · exact hi
  · split at hi
    · rename_i hs; rw [h.rd hs]; exact hi
    · simp at hi
  · simp at hi

theorem rd_own {b : Nat} {own : Bool} {cs : List AV} (h : s[b]? = some (.cells own cs)) : rdB s b = some cs := by unfold rdB; rw [h]
theorem ld_own {b o : Nat} {n : Option Nat} {own : Bool} {cs : List AV} (h : s[b]? = some (.cells own cs)) : ldA s n (.ptr b o) = partA n o cs := by simp only [ldA, rd_own h]
theorem get_last {b : Blk} : (s ++ [b])[s.length]? = some b := by simp
theorem wr_own {b o : Nat} {cs vs : List AV} (h : s[b]? = some (.cells true cs)) : wrA s b o vs = if o + vs.length ≤ cs.length ∧ vs.all AV.cell = true then some (s.set b (.cells true (setL cs o vs))) else none := by unfold wrA; rw [h]
end

/-! ### calls -/
/-- The call answers r, and leaves s'. -/
def RunD (T : Nat → Option RF) (f : Nat) (args : List AV) (s : St) (r : AV) (s' : St) : Prop := Run T f args s fun a t => a = r ∧ t = s'
theorem RunD.use {T : Nat → Option RF} {f : Nat} {args : List AV} {s : St} {r : AV} {s' : St} {k : AV → St → Prop} (h : RunD T f args s r s') (hk : k r s') : Run T f args s k :=
  Run.mono _ _ _ _ _ (fun v t hv => by obtain ⟨rfl, rfl⟩ := hv; exact hk) h
theorem RunD.eff {T : Nat → Option RF} {f : Nat} {args : List AV} {s : St} {r : AV} {s' : St} (h : RunD T f args s r s') : Run T f args s (fun v t => v = r ∧ t = s') := h
/-- A function whose body comes to its end. -/
theorem run_body {T : Nat → Option RF} {f : Nat} {F : RF} (hf : T f = some F) {args : List AV} {s : St} {k : AV → St → Prop} (hn : args.length ≤ F.N) (h : awp (Run T) F.body (endK F.res s k) args s) : Run T f args s k :=
  Run.body hf ⟨hn, h⟩

mutual
/-- All blocks that are named lie below n. -/
def AV.under (n : Nat) : AV → Bool
  | .ptr b _ => decide (b < n)
  | .sl b _ _ _ _ => decide (b < n)
  | .map b => decide (b < n)
  | .fn _ cs => unders n cs
  | .ifc _ v => AV.under n v
  | .agg cs => unders n cs
  | .tup cs => unders n cs
  | _ => true
def unders (n : Nat) : List AV → Bool
  | [] => true
  | a :: as => AV.under n a && unders n as
end

mutual
theorem under_ren {n : Nat} {f : Nat → Nat} (hf : ∀ i, i < n → f i = i) : ∀ (a : AV), a.under n = true → a.ren f = a
  | .undef, _ => rfl
  | .bool _, _ => rfl
  | .int _ _, _ => rfl
  | .str _, _ => rfl
  | .nilp, _ => rfl
  | .ptr b o, h => by simp [AV.under] at h; simp [AV.ren, hf b h]
  | .nils, _ => rfl
  | .sl b o e m c, h => by simp [AV.under] at h; simp [AV.ren, hf b h]
  | .nilm, _ => rfl
  | .map b, h => by simp [AV.under] at h; simp [AV.ren, hf b h]
  | .nilf, _ => rfl
  | .fn _ cs, h => by simp [AV.under] at h; simp [AV.ren, unders_ren hf cs h]
  | .nili, _ => rfl
  | .ifc _ v, h => by simp [AV.under] at h; simp [AV.ren, under_ren hf v h]
  | .agg cs, h => by simp [AV.under] at h; simp [AV.ren, unders_ren hf cs h]
  | .tup cs, h => by simp [AV.under] at h; simp [AV.ren, unders_ren hf cs h]
theorem unders_ren {n : Nat} {f : Nat → Nat} (hf : ∀ i, i < n → f i = i) : ∀ (as : List AV), unders n as = true → AV.rens f as = as
  | [], _ => rfl
  | a :: as, h => by
    simp [unders] at h
    simp [AV.rens, under_ren hf a h.1, unders_ren hf as h.2]
end

mutual
theorem ren_congr {n : Nat} {f g : Nat → Nat} (hf : ∀ i, i < n → f i = g i) : ∀ (a : AV), a.under n = true → a.ren f = a.ren g
  | .undef, _ => rfl
  | .bool _, _ => rfl
  | .int _ _, _ => rfl
  | .str _, _ => rfl
  | .nilp, _ => rfl
  | .ptr b o, h => by simp [AV.under] at h; simp [AV.ren, hf b h]
  | .nils, _ => rfl
  | .sl b o e m c, h => by simp [AV.under] at h; simp [AV.ren, hf b h]
  | .nilm, _ => rfl
  | .map b, h => by simp [AV.under] at h; simp [AV.ren, hf b h]
  | .nilf, _ => rfl
  | .fn _ cs, h => by simp [AV.under] at h; simp [AV.ren, rens_congr hf cs h]
  | .nili, _ => rfl
  | .ifc _ v, h => by simp [AV.under] at h; simp [AV.ren, ren_congr hf v h]
  | .agg cs, h => by simp [AV.under] at h; simp [AV.ren, rens_congr hf cs h]
  | .tup cs, h => by simp [AV.under] at h; simp [AV.ren, rens_congr hf cs h]
theorem rens_congr {n : Nat} {f g : Nat → Nat} (hf : ∀ i, i < n → f i = g i) : ∀ (as : List AV), unders n as = true → AV.rens f as = AV.rens g as
  | [], _ => rfl
  | a :: as, h => by
    simp [unders] at h
    simp [AV.rens, ren_congr hf a h.1, rens_congr hf as h.2]
end

/-- The end of a function that leaves the store alone: what it made for itself is dropped. -/
theorem ret_drop {s s1 : St} {r : AV} {k : AV → St → Prop} (hx : Ext s s1) (hb : r.under s.length = true) (hk : k r s) : Ret s r s1 k := by
  refine .inr ⟨r, s, ⟨[], [], ?_, rfl, List.nodup_nil, by simp, hx.len, ?_, ?_, by simp⟩, hk⟩
  · obtain ⟨l, rfl⟩ := hx; simp
  · intro i b hi h
    left; rw [← hx.get hi]; exact h
  · exact under_ren (fun i hi => by unfold keepF; rw [if_pos hi]) r hb

/-- The end of a function that answers with one block of its own, j: it becomes the first behind the caller's. -/
theorem ret_one {s s1 : St} {r r0 : AV} {k : AV → St → Prop} {j : Nat} {own : Bool} {cs : List AV} (hx : Ext s s1) (hj : s.length ≤ j) (hs : s1[j]? = some (.cells own cs))
    (hf : r.ren (fun i => if i = s.length then j else i) = r0) (hrb : r.under (s.length + 1) = true) (hb : unders s.length cs = true) (hk : k r (s ++ [.cells own cs])) : Ret s r0 s1 k := by
  have hfj : ∀ i, i < s.length + 1 → keepF s.length [j] s1.length i = if i = s.length then j else i := by
    intro i hi
    unfold keepF
    by_cases h : i < s.length
    · rw [if_pos h, if_neg (by omega)]
    · have : i = s.length := by omega
      subst this; simp
  refine .inr ⟨r, s ++ [.cells own cs], ⟨[j], [.cells own cs], ?_, rfl, by simp, by simpa using hj, hx.len, ?_, ?_, ?_⟩, hk⟩
  · obtain ⟨l, rfl⟩ := hx; simp
  · intro i b hi h
    left; rw [← hx.get hi]; exact h
  · rw [← hf]
    exact ren_congr hfj r hrb
  · intro i b x hb' hx'
    cases i with
    | zero =>
      simp at hb' hx'
      subst hb'; subst hx'
      rw [hs]
      simp only [Blk.ren]
      rw [unders_ren (n := s.length) (fun i hi => by unfold keepF; rw [if_pos hi]) cs hb]
    | succ i => simp at hb'

end Go.Ev
