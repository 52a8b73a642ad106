import Derived.Test.YtliiihocjdoamaaDoorZFilesExact2
import Derived.Test.YtliiihocjdoamaaDoorZFilesExact3
import Derived.Maps.RangeRun
/-! Sorting a slice: lists under exchanges, and where they lie. -/
namespace Go.Ev
/-- The parts of a text. -/
def RC.p1 : RC → RC
  | .seq a _ => a
  | c => c
def RC.p2 : RC → RC
  | .seq _ b => b
  | c => c
def RC.p0 : RC → RC
  | .block _ b => b
  | .loop b => b
  | c => c
namespace So
open Go.Ev
set_option linter.unusedVariables false
set_option linter.unusedSimpArgs false

theorem setL_nth {α : Type} : ∀ (vs cs : List α) (o i : Nat), o + vs.length ≤ cs.length → (setL cs o vs)[i]? = if o ≤ i ∧ i < o + vs.length then vs[i - o]? else cs[i]?
  | [], cs, o, i, h => by simp [setL]; intro h1 h2; omega
  | v :: vs, cs, o, i, h => by
    simp only [List.length_cons] at h
    rw [setL, setL_nth vs (cs.set o v) (o + 1) i (by simp; omega)]
    by_cases h1 : o + 1 ≤ i ∧ i < o + 1 + vs.length
    · rw [if_pos h1, if_pos (by simp; omega), show i - o = i - (o + 1) + 1 by omega, List.getElem?_cons_succ]
    · rw [if_neg h1]
      by_cases h2 : i = o
      · subst h2; rw [if_pos (by simp), List.getElem?_set_self (by omega), Nat.sub_self]; rfl
      · rw [if_neg (by simp; omega), List.getElem?_set, if_neg (by omega)]
theorem set_flat {α : Type} {e : Nat} {enc : α → List AV} (he : ∀ x, (enc x).length = e) (z : α) (cs : List AV) : ∀ (L : List α) (i : Nat), i < L.length → setL (L.flatMap enc ++ cs) (i * e) (enc z) = (L.set i z).flatMap enc ++ cs
  | [], i, h => by simp at h
  | x :: L, 0, h => by
    apply List.ext_getElem?
    intro k
    rw [setL_nth _ _ _ _ (by simp [he])]
    simp only [Nat.zero_mul, Nat.zero_le, true_and, Nat.zero_add, Nat.sub_zero, List.set_cons_zero, List.flatMap_cons, List.append_assoc]
    by_cases hk : k < (enc z).length
    · rw [if_pos hk, List.getElem?_append_left hk]
    · rw [if_neg hk, List.getElem?_append_right (l₁ := enc x) (by rw [he] at *; omega), List.getElem?_append_right (l₁ := enc z) (by omega), he, he]
  | x :: L, i + 1, h => by
    have ih := set_flat he z cs L i (by simpa using h)
    have hb : (i + 1) * e ≤ L.length * e := Nat.mul_le_mul_right _ (by simp at h; omega)
    rw [Nat.succ_mul] at hb
    have hfl := flat_len he L
    apply List.ext_getElem?
    intro k
    simp only [List.set_cons_succ, List.flatMap_cons, List.append_assoc]
    rw [setL_nth _ _ _ _ (by simp [he] at hfl ⊢; rw [Nat.succ_mul]; omega)]
    by_cases hk : k < e
    · rw [if_neg (by rw [Nat.succ_mul]; omega), List.getElem?_append_left (by rw [he]; exact hk), List.getElem?_append_left (by rw [he]; exact hk)]
    · rw [List.getElem?_append_right (l₁ := enc x) (by rw [he]; omega), List.getElem?_append_right (l₁ := enc x) (by rw [he]; omega), ← ih, setL_nth _ _ _ _ (by rw [List.length_append, hfl, he]; omega), he, he, Nat.succ_mul]
      by_cases h1 : i * e + e ≤ k ∧ k < i * e + e + e
      · rw [if_pos h1, if_pos (by omega), show k - (i * e + e) = k - e - i * e by omega]
      · rw [if_neg h1, if_neg (by omega)]

/-- A loop, what it comes back to being a mere name. -/
theorem awp_rounds {T : Nat → Option RF} {c : RC} {Q : XE → Env → St → Prop} {e : Env} {s : St} (I : Nat → Env → St → Prop) (d : Nat) (h0 : I d e s)
    (round : ∀ (J : Env → St → Prop) d e s, (∀ d' e' s', d' < d → I d' e' s' → J e' s') → I d e s → awp (Run T) c (loopK J Q) e s) : awp (Run T) (.loop c) Q e s :=
  awp_loop I d h0 fun d e s h => round _ d e s (fun d' e' s' hd hi => ⟨d', hd, hi⟩) h

/-- dr_call, what is known of the temporaries being put in last. -/
theorem dr_callE {T : Nat → Option RF} {n0 : Nat} {d : Option Nat} {f : Nat} {xs_ : List AV} {cl fr : List Nat} {i : Nat} {H : List (Nat × St × St)} {L : List (Nat × Nat)} {e : Env} {s : St} {next : DrK} {v : AV} (h : RunD T f xs_ s v s)
    (hn : ∀ e', e' = putO e d v → next ((i, s, s) :: H) L e' s) : drCall T n0 d f xs_ cl fr i H L e s next := dr_call h (hn _ rfl)

end So
end Go.Ev

/-! For proofs about functions: strings, bytes, maps, arrays. -/
namespace Go.Ev
set_option linter.unusedVariables false
set_option linter.unusedSimpArgs false

def cviY (k : IntKind) : AV → Option AV
  | .int _ n => some (.int k (k.wrap n))
  | _ => none
def cvsY : AV → Option AV
  | .str s => some (.str s)
  | _ => none
def lensY : AV → Option AV
  | .str s => some (.int .i64 s.size)
  | _ => none
def ixsY (x i : AV) : Option AV := match x, i with
  | .str s, .int _ j => if h : 0 ≤ j ∧ j.toNat < s.size then some (.int .u8 (s[j.toNat]'h.2).toNat) else none
  | _, _ => none
def ixpY (es len : Nat) (x i : AV) : Option AV := match x, i with
  | .ptr b o, .int _ j => if 0 ≤ j ∧ j < (len : Int) then some (.ptr b (o + j.toNat * es)) else none
  | _, _ => none
def ixvY (n : Option Nat) (es len : Nat) (x i : AV) : Option AV := match x, i with
  | .agg cs, .int _ j => if 0 ≤ j ∧ j < (len : Int) then partA n (j.toNat * es) cs else none
  | _, _ => none
def nckY : AV → Option AV
  | .ptr b o => some (.ptr b o)
  | .ifc t v => some (.ifc t v)
  | .fn f cs => some (.fn f cs)
  | _ => none
section
variable {X : Oracle} {e : Env} {s : St} {q : AV → St → Prop}
theorem y_cvi {k : IntKind} {x : RX} : opA X (.cvi k x) e s q = ob (cviY k (x.ev e)) fun v => q v s := rfl
theorem y_cvs {x : RX} : opA X (.cvs x) e s q = ob (cvsY (x.ev e)) fun v => q v s := rfl
theorem y_lens {x : RX} : opA X (.lens x) e s q = ob (lensY (x.ev e)) fun v => q v s := rfl
theorem y_sls {x : RX} {lo hi : Option RX} : opA X (.sls x lo hi) e s q = ob (slsA (x.ev e) (optX e lo) (optX e hi)) fun v => q v s := rfl
theorem y_ixs {x i : RX} : opA X (.ixs x i) e s q = ob (ixsY (x.ev e) (i.ev e)) fun v => q v s := rfl
theorem y_ixp {es len : Nat} {x i : RX} : opA X (.ixp es len x i) e s q = ob (ixpY es len (x.ev e) (i.ev e)) fun v => q v s := rfl
theorem y_ixv {n : Option Nat} {es len : Nat} {x i : RX} : opA X (.ixv n es len x i) e s q = ob (ixvY n es len (x.ev e) (i.ev e)) fun v => q v s := rfl
theorem y_nck {x : RX} : opA X (.nck x) e s q = ob (nckY (x.ev e)) fun v => q v s := rfl
theorem y_xp {o : XP} {xs : List RX} : opA X (.xp o xs) e s q = ob (xpA o (evs e xs)) fun v => q v s := rfl
theorem y_xt {o : XO} {xs : List RX} : opA X (.xt o xs) e s q = ob (xtA s o (evs e xs)) fun r => q r.1 r.2 := rfl
theorem z_cvi {k : IntKind} {x : RX} : pureA (.cvi k x) e = cviY k (x.ev e) := rfl
theorem z_cvs {x : RX} : pureA (.cvs x) e = cvsY (x.ev e) := rfl
theorem z_lens {x : RX} : pureA (.lens x) e = lensY (x.ev e) := rfl
theorem z_sls {x : RX} {lo hi : Option RX} : pureA (.sls x lo hi) e = slsA (x.ev e) (optX e lo) (optX e hi) := rfl
theorem z_ixs {x i : RX} : pureA (.ixs x i) e = ixsY (x.ev e) (i.ev e) := rfl
theorem z_ixp {es len : Nat} {x i : RX} : pureA (.ixp es len x i) e = ixpY es len (x.ev e) (i.ev e) := rfl
theorem z_ixv {n : Option Nat} {es len : Nat} {x i : RX} : pureA (.ixv n es len x i) e = ixvY n es len (x.ev e) (i.ev e) := rfl
theorem z_nck {x : RX} : pureA (.nck x) e = nckY (x.ev e) := rfl
theorem z_xp {o : XP} {xs : List RX} : pureA (.xp o xs) e = xpA o (evs e xs) := rfl
theorem cviY_int {k k' : IntKind} {n : Int} : cviY k (.int k' n) = some (.int k (k.wrap n)) := rfl
theorem cvsY_str {a : ByteArray} : cvsY (.str a) = some (.str a) := rfl
theorem lensY_str {a : ByteArray} : lensY (.str a) = some (.int .i64 a.size) := rfl
theorem nckY_ptr {b o : Nat} : nckY (.ptr b o) = some (.ptr b o) := rfl
theorem nckY_fn {f : Nat} {cs : List AV} : nckY (.fn f cs) = some (.fn f cs) := rfl
/-- an effect of the further ones, in a region that draws its order -/
theorem z_xt {n0 : Nat} {bs : List Blk} {d : Option Nat} {g : Option (Nat × Bool)} {o : XO} {xs : List RX} {cl fr : List Nat} {i : Nat} {H : List (Nat × St × St)} {L : List (Nat × Nat)} {next : DrK} : drStep X n0 bs ⟨⟨d, g, .xt o xs⟩, .eff, cl, fr⟩ i H L e s next =
    ob (xtA s o (evs e xs)) fun r => frOk n0 fr s r.2 ∧ clOk cl L s r.2 ∧ next ((i, s, r.2) :: H) L (putO e d r.1) r.2 := by
  apply propext
  simp only [drStep, opA, ob]
  constructor
  · rintro ⟨v, s', ⟨r, h1, rfl, rfl⟩, h2, h3, h4⟩; exact ⟨r, h1, h2, h3, h4⟩
  · rintro ⟨r, h1, h2, h3, h4⟩; exact ⟨r.1, r.2, ⟨r, h1, rfl, rfl⟩, h2, h3, h4⟩
end
theorem YY : type_of% (And.intro @y_cvi (And.intro @y_cvs (And.intro @y_lens (And.intro @y_sls (And.intro @y_ixs (And.intro @y_ixp (And.intro @y_ixv (And.intro @y_nck (And.intro @y_xp (And.intro @y_xt (And.intro @z_cvi (And.intro @z_cvs (And.intro @z_lens (And.intro @z_sls (And.intro @z_ixs (And.intro @z_ixp (And.intro @z_ixv (And.intro @z_nck (And.intro @z_xp (And.intro @cviY_int (And.intro @cvsY_str (And.intro @lensY_str (And.intro @nckY_ptr (And.intro @nckY_fn @z_xt)))))))))))))))))))))))) :=
  And.intro @y_cvi (And.intro @y_cvs (And.intro @y_lens (And.intro @y_sls (And.intro @y_ixs (And.intro @y_ixp (And.intro @y_ixv (And.intro @y_nck (And.intro @y_xp (And.intro @y_xt (And.intro @z_cvi (And.intro @z_cvs (And.intro @z_lens (And.intro @z_sls (And.intro @z_ixs (And.intro @z_ixp (And.intro @z_ixv (And.intro @z_nck (And.intro @z_xp (And.intro @cviY_int (And.intro @cvsY_str (And.intro @lensY_str (And.intro @nckY_ptr (And.intro @nckY_fn @z_xt)))))))))))))))))))))))
end Go.Ev

/-! Sums of 32 bits, and parts of strings: the program's and the reference's. -/
namespace Go.Ev
set_option linter.unusedVariables false
set_option linter.unusedSimpArgs false
open Go.Ev.So
variable {T : Nat → Option RF} [Has T]

theorem toList_size (a : ByteArray) : a.toList.length = a.size := by
  rw [ByteArray.toList_eq]; rfl
theorem ixs_get {a : ByteArray} {i : Nat} {k : IntKind} {b : UInt8} (h : a.toList[i]? = some b) : ixsY (.str a) (.int k (i : Int)) = some (.int .u8 b.toNat) := by
  have hil := (List.getElem?_eq_some_iff.1 h).1
  have hi : i < a.size := by rw [toList_size] at hil; exact hil
  have hb : b = a.toList[i] := (List.getElem?_eq_some_iff.1 h).2.symm
  unfold ixsY
  simp only
  rw [dif_pos ⟨by omega, by simpa using hi⟩, hb]
  congr 3
  simp only [ByteArray.toList_eq]
  rfl

end Go.Ev

/-! Parts of strings, numbers in strings: the program's and the reference's. -/
namespace Go.Ev
set_option linter.unusedVariables false
set_option linter.unusedSimpArgs false
open Go.Ev.So
variable {T : Nat → Option RF} [Has T]

theorem ext_size (s : ByteArray) (a b : Nat) (h : b ≤ s.size) : (s.extract a b).size = b - a := by
  simp [ByteArray.size_extract]; omega
end Go.Ev

/-! Numbers as strings: the program's and the reference's. -/
namespace Go.Ev
set_option linter.unusedVariables false
set_option linter.unusedSimpArgs false
open Go.Ev.So
variable {T : Nat → Option RF} [Has T]

theorem w8 (x : Nat) : IntKind.u8.wrap (x : Int) = ((x % 256 : Nat) : Int) := by
  have : IntKind.u8.wrap (x : Int) = (x : Int) % 256 := by simp [IntKind.wrap, IntKind.bits, IntKind.signed]
  rw [this]; omega
end Go.Ev

/-! Frames: the program's Frame, the reference's Frame, one, Scan; the law's same. -/
namespace Go.Ev
set_option linter.unusedVariables false
set_option linter.unusedSimpArgs false
open Go.Ev.So
variable {T : Nat → Option RF} [Has T]

theorem add_s {a b : ByteArray} (h : a.size + b.size ≤ 4611686018427387904) : binA .add (.str a) (.str b) = some (.str (a ++ b)) := by
  simp only [binA]; rw [if_pos h]
theorem app_size (a b : ByteArray) : (a ++ b).size = a.size + b.size := by simp
def cS (b : ByteArray) : List AV := [.str b]
theorem cS_len (b : ByteArray) : (cS b).length = 1 := id rfl
theorem cS_cell (b : ByteArray) : (cS b).all AV.cell = true := id rfl
theorem cS_un (b : ByteArray) : unders 0 (cS b) = true := id rfl

theorem rdS {t : St} {v : AV} {l : List ByteArray} (hv : Rd 1 cS t v l) {i : Nat} {q : ByteArray} (hi : l[i]? = some q) :
    ∃ b o, (∀ k : IntKind, ixaA 1 v (.int k (i : Int)) = some (.ptr b o)) ∧ ldA t none (.ptr b o) = some (.str q) ∧ ∀ l, ldA (t ++ l) none (.ptr b o) = some (.str q) := by
  obtain ⟨b, o, h1, h2⟩ := hv.get cS_len hi
  have a1 : ldA t none (.ptr b o) = some (.str q) := h2 none 0 (.str q) rfl
  exact ⟨b, o, h1, a1, ldA_ext a1⟩
theorem eq_S (a b : ByteArray) : eqA .s (.str a) (.str b) = some (decide (a = b)) := by
  simp only [eqA]
  congr 1
  rw [Bool.eq_iff_iff, beq_iff_eq, decide_eq_true_iff]
  constructor
  · intro h
    rw [ByteArray.toList_eq, ByteArray.toList_eq] at h
    exact ByteArray.ext (Array.toList_inj.1 h)
  · intro h; rw [h]
theorem take_snocS {α : Type} {l : List α} {i : Nat} {q : α} (h : l[i]? = some q) : l.take (i + 1) = l.take i ++ [q] := by
  rw [List.take_add_one, h]; rfl
end Go.Ev

/-! strings.Trim of a set of letters. -/
namespace Go.Ev
set_option linter.unusedVariables false
set_option linter.unusedSimpArgs false
open Go.Ev.So Go.Proofs
variable {T : Nat → Option RF} [Has T]

def z256 : List AV := List.replicate 256 (.bool false)
def strings_Trim_z (z : List AV) : RC :=
  (.seq (.reg [⟨(some 4), none, (.mv (.k (.str (bts []))))⟩]) (.seq (.seq (.reg [⟨(some 7), none, (.mv (.t 0))⟩, 
  ⟨(some 8), none, (.eq false .s (.t 7) (.k (.str (bts []))))⟩, ⟨(some 9), none, (.mv (.t 8))⟩, ⟨(some 10), (some (9, false)), (.mv (.t 1))⟩, 
  ⟨(some 11), (some (9, false)), (.eq false .s (.t 10) (.k (.str (bts []))))⟩, ⟨(some 12), none, (.pick (.t 9) (.k (.bool true)) (.t 11))⟩]) (.cond (.t 12) (.seq 
  (.reg [⟨(some 13), none, (.mv (.t 0))⟩, ⟨(some 4), none, (.mv (.t 13))⟩]) .ret) .skip)) (.seq (.seq (.reg [⟨(some 14), none, (.mv (.t 1))⟩, ⟨(some 15), none, (.lens (.t 14))⟩, 
  ⟨(some 16), none, (.eq false .i (.t 15) (.k (.int .i64 1)))⟩, ⟨(some 17), none, (.mv (.t 16))⟩, ⟨(some 18), (some (17, true)), (.mv (.t 1))⟩, 
  ⟨(some 19), (some (17, true)), (.ixs (.t 18) (.k (.int .i64 0)))⟩, ⟨(some 20), (some (17, true)), (.bin .lss (.t 19) (.k (.int .u8 128)))⟩, 
  ⟨(some 21), none, (.pick (.t 17) (.t 20) (.k (.bool false)))⟩]) (.cond (.t 21) (.seq (.drw 0 [⟨⟨(some 22), none, (.mv (.t 0))⟩, .pure, [], []⟩, 
  ⟨⟨(some 23), none, (.mv (.t 1))⟩, .pure, [], []⟩, ⟨⟨(some 24), none, (.ixs (.t 23) (.k (.int .i64 0)))⟩, .pure, [], []⟩, 
  ⟨⟨(some 25), none, (.call f_strings_trimRightByte [(.t 22), (.t 24)])⟩, .eff, [], []⟩, ⟨⟨(some 26), none, (.mv (.t 1))⟩, .pure, [], []⟩, 
  ⟨⟨(some 27), none, (.ixs (.t 26) (.k (.int .i64 0)))⟩, .pure, [], []⟩, ⟨⟨(some 28), none, (.call f_strings_trimLeftByte [(.t 25), (.t 27)])⟩, .eff, [], []⟩, 
  ⟨⟨(some 4), none, (.mv (.t 28))⟩, .pure, [], []⟩]) .ret) .skip)) (.seq (.seq (.reg [⟨(some 30), none, (.mv (.t 1))⟩, ⟨(some 31), none, (.call f_strings_makeASCIISet [(.t 30)])⟩, 
  ⟨(some 29), none, (.mv (.t 31))⟩, ⟨(some 32), none, (.ext 0 (.t 29))⟩, ⟨(some 33), none, (.ext 1 (.t 29))⟩, 
  ⟨(some 5), none, (.new z)⟩, 
  ⟨none, none, (.st (some 256) (.t 5) (.t 32))⟩, ⟨(some 6), none, (.mv (.t 33))⟩]) (.seq (.reg [⟨(some 34), none, (.mv (.t 6))⟩]) (.cond (.t 34) (.seq 
  (.reg [⟨(some 35), none, (.mv (.t 0))⟩, ⟨(some 36), none, (.call f_strings_trimRightASCII [(.t 35), (.t 5)])⟩, 
  ⟨(some 37), none, (.call f_strings_trimLeftASCII [(.t 36), (.t 5)])⟩, ⟨(some 4), none, (.mv (.t 37))⟩]) .ret) .skip))) (.seq (.reg [⟨(some 38), none, (.mv (.t 0))⟩, 
  ⟨(some 39), none, (.mv (.t 1))⟩, ⟨(some 40), none, (.call f_strings_trimRightUnicode [(.t 38), (.t 39)])⟩, ⟨(some 41), none, (.mv (.t 1))⟩, 
  ⟨(some 42), none, (.call f_strings_trimLeftUnicode [(.t 40), (.t 41)])⟩, ⟨(some 4), none, (.mv (.t 42))⟩]) .ret)))))
theorem strings_Trim_is : r_strings_Trim.body = strings_Trim_z z256 := by kernel_rfl
def strings_makeASCIISet_z (z : List AV) : RC :=
  (.seq 
  (.reg [⟨(some 2), none, (.new z)⟩, 
  ⟨(some 3), none, (.mv (.k (.bool false)))⟩]) (.seq (.seq (.reg [⟨(some 4), none, (.mv (.k (.int .i64 0)))⟩]) (.block 0 (.loop (.seq (.seq (.reg [⟨(some 6), none, (.mv (.t 4))⟩, 
  ⟨(some 7), none, (.mv (.t 0))⟩, ⟨(some 8), none, (.lens (.t 7))⟩, ⟨(some 9), none, (.bin .lss (.t 6) (.t 8))⟩]) (.cond (.t 9) .skip (.exit 0))) (.seq (.block 1 (.seq 
  (.reg [⟨(some 12), none, (.mv (.t 0))⟩, ⟨(some 13), none, (.mv (.t 4))⟩, ⟨(some 14), none, (.ixs (.t 12) (.t 13))⟩, ⟨(some 5), none, (.mv (.t 14))⟩]) (.seq (.seq 
  (.reg [⟨(some 15), none, (.mv (.t 5))⟩, ⟨(some 16), none, (.bin .geq (.t 15) (.k (.int .u8 128)))⟩]) (.cond (.t 16) (.seq (.reg [⟨(some 17), none, (.ld (some 256) (.t 2))⟩, 
  ⟨none, none, (.st (some 256) (.t 2) (.t 17))⟩, ⟨(some 3), none, (.mv (.k (.bool false)))⟩]) .ret) .skip)) (.reg [⟨(some 18), none, (.mv (.t 5))⟩, 
  ⟨(some 19), none, (.ixp 1 256 (.t 2) (.t 18))⟩, ⟨none, none, (.st none (.t 19) (.k (.bool true)))⟩])))) (.reg [⟨(some 10), none, (.mv (.t 4))⟩, 
  ⟨(some 11), none, (.bin .add (.t 10) (.k (.int .i64 1)))⟩, ⟨(some 4), none, (.mv (.t 11))⟩])))))) (.seq (.reg [⟨(some 20), none, (.ld (some 256) (.t 2))⟩, 
  ⟨none, none, (.st (some 256) (.t 2) (.t 20))⟩, ⟨(some 3), none, (.mv (.k (.bool true)))⟩]) .ret)))
theorem strings_makeASCIISet_is : r_strings_makeASCIISet.body = strings_makeASCIISet_z z256 := by kernel_rfl

theorem z256_len : z256.length = 256 := by unfold z256; rw [List.length_replicate]
theorem z256_cell : z256.all AV.cell = true := by unfold z256; rw [List.all_replicate]; rfl
theorem z256_get {i : Nat} (h : i < 256) : z256[i]? = some (.bool false) := by unfold z256; rw [List.getElem?_replicate, if_pos h]
/-- the set of some bytes -/
def setT (l : List UInt8) (T : List AV) : List AV := l.foldl (fun T b => T.set b.toNat (.bool true)) T
theorem setT_len : ∀ (l : List UInt8) (T : List AV), (setT l T).length = T.length
  | [], T => rfl
  | b :: l, T => by show (setT l (T.set b.toNat (.bool true))).length = _; rw [setT_len, List.length_set]
theorem set_cell : ∀ (T : List AV) (i : Nat), T.all AV.cell = true → (T.set i (.bool true)).all AV.cell = true
  | [], _, _ => rfl
  | x :: T, 0, h => by simp only [List.set_cons_zero, List.all_cons, Bool.and_eq_true] at h ⊢; exact ⟨rfl, h.2⟩
  | x :: T, i + 1, h => by simp only [List.set_cons_succ, List.all_cons, Bool.and_eq_true] at h ⊢; exact ⟨h.1, set_cell T i h.2⟩
theorem setT_cell : ∀ (l : List UInt8) (T : List AV), T.all AV.cell = true → (setT l T).all AV.cell = true
  | [], T, h => h
  | b :: l, T, h => setT_cell l _ (set_cell T _ h)
theorem setT_get : ∀ (l : List UInt8) (T : List AV) (i : Nat), i < T.length → (setT l T)[i]? = if l.any (fun b => b.toNat == i) then some (.bool true) else T[i]?
  | [], T, i, h => rfl
  | b :: l, T, i, h => by
    show (setT l (T.set b.toNat (.bool true)))[i]? = _
    rw [setT_get l _ i (by rw [List.length_set]; exact h), List.any_cons, List.getElem?_set]
    by_cases c1 : l.any (fun b => b.toNat == i) = true
    · rw [if_pos c1, if_pos (by rw [c1, Bool.or_true])]
    · rw [if_neg c1]
      by_cases c2 : b.toNat = i
      · rw [if_pos c2, if_pos (show b.toNat < T.length by omega), if_pos (by simp [c2])]
      · rw [if_neg c2, if_neg (by simp only [Bool.not_eq_true] at c1; rw [c1]; simp [c2])]
def isB : AV → Bool
  | .bool _ => true
  | _ => false
theorem allB_un {n : Nat} : ∀ (T : List AV), T.all isB = true → unders n T = true
  | [], _ => rfl
  | x :: T, h => by
    rw [List.all_cons, Bool.and_eq_true] at h
    obtain ⟨h1, h2⟩ := h
    have := allB_un (n := n) T h2
    cases x with
    | bool b => simp only [unders, this, AV.under, Bool.and_true]
    | _ => cases h1
theorem setB : ∀ (T : List AV) (i : Nat), T.all isB = true → (T.set i (.bool true)).all isB = true
  | [], _, _ => rfl
  | x :: T, 0, h => by simp only [List.set_cons_zero, List.all_cons, Bool.and_eq_true] at h ⊢; exact ⟨rfl, h.2⟩
  | x :: T, i + 1, h => by simp only [List.set_cons_succ, List.all_cons, Bool.and_eq_true] at h ⊢; exact ⟨h.1, setB T i h.2⟩
theorem setTB : ∀ (l : List UInt8) (T : List AV), T.all isB = true → (setT l T).all isB = true
  | [], T, h => h
  | b :: l, T, h => setTB l _ (setB T _ h)
theorem z256_B : z256.all isB = true := by unfold z256; rw [List.all_replicate]; rfl
theorem setT_snoc (l : List UInt8) (b : UInt8) (T : List AV) : setT (l ++ [b]) T = (setT l T).set b.toNat (.bool true) := by unfold setT; rw [List.foldl_append]; rfl
theorem ld256 {t : St} {b : Nat} {T : List AV} (h : t[b]? = some (.cells true T)) (hl : T.length = 256) : ldA t (some 256) (.ptr b 0) = some (.agg T) := by
  rw [ld_own h]
  simp only [partA]
  rw [if_pos (by omega), List.drop_zero, List.take_of_length_le (by omega)]
theorem setL_all {α : Type} : ∀ (vs cs r : List α) (p : List α), vs.length = cs.length → setL (p ++ cs ++ r) p.length vs = p ++ vs ++ r
  | [], cs, r, p, h => by rw [List.length_eq_zero_iff.1 h.symm]; rfl
  | v :: vs, cs, r, p, h => by
    cases cs with
    | nil => simp at h
    | cons c cs =>
      rw [setL_cons]
      have h1 := setL_all vs cs r (p ++ [v]) (by simpa using h)
      have e : (p ++ c :: cs ++ r).set p.length v = p ++ [v] ++ cs ++ r := by simp
      rw [e]
      rw [List.length_append] at h1
      rw [show p.length + 1 = p.length + [v].length by rfl, h1]
      simp
theorem st256 {t : St} {b : Nat} {T T' : List AV} (h : t[b]? = some (.cells true T)) (hl : T.length = 256) (hl' : T'.length = 256) (hc : T'.all AV.cell = true) : stA t (some 256) (.ptr b 0) (.agg T') = some (t.set b (.cells true T')) := by
  rw [st_agg hl', wr_own h, if_pos ⟨by omega, hc⟩]
  have := setL_all T' T [] [] (by omega)
  simp only [List.append_nil, List.nil_append, List.length_nil] at this
  rw [this]

set_option maxHeartbeats 2000000 in
theorem mkset_r (s : St) (a : ByteArray) (ha : a.size < 1000000) (hb : ∀ b ∈ a.toList, b.toNat < 128) : RunD T f_strings_makeASCIISet [.str a] s (.tup [.agg (setT a.toList z256), .bool true]) s := by
  refine run_body (F := r_strings_makeASCIISet) (has rfl) (show (1 : Nat) ≤ 21 by decide) ?_
  have hlen := toList_size a
  have hz := z256_len
  have hzc := z256_cell
  have hzB := z256_B
  rw [strings_makeASCIISet_is]
  have hres : r_strings_makeASCIISet.res = [.cell (some 256) 2, .tmp 3] := rfl
  rw [hres]
  generalize z256 = z at *
  simp only [strings_makeASCIISet_z, XX, CC, YY, Nat.reduceAdd, Nat.reduceSub, Nat.reduceLeDiff, Nat.reduceLT, Nat.reduceEqDiff, reduceIte, ↓reduceIte, Nat.reduceBEq]
  refine awp_rounds (fun d e t => ∃ (i : Nat), t = s ++ [.cells true (setT (a.toList.take i) z)] ∧ i + d = a.size ∧ e.get 0 = .str a ∧ e.get 2 = .ptr s.length 0 ∧ e.get 4 = .int .i64 i) a.size ?_ ?_
  · refine ⟨0, rfl, by omega, ?_, ?_, ?_⟩ <;> (try simp only [XX, CC, YY, Nat.reduceAdd, Nat.reduceSub, Nat.reduceLeDiff, Nat.reduceLT, Nat.reduceEqDiff, reduceIte, ↓reduceIte, Nat.reduceBEq]) <;> rfl
  rintro J d e t hJ ⟨i, rfl, hi, g0, g2, g4⟩
  have hTl : (setT (a.toList.take i) z).length = 256 := by rw [setT_len, hz]
  have hTc := setT_cell (a.toList.take i) z hzc
  have hat : (s ++ [Blk.cells true (setT (a.toList.take i) z)])[s.length]? = some (.cells true (setT (a.toList.take i) z)) := by simp
  simp only [XX, CC, YY, Nat.reduceAdd, Nat.reduceSub, Nat.reduceLeDiff, Nat.reduceLT, Nat.reduceEqDiff, reduceIte, ↓reduceIte, Nat.reduceBEq, g0, g2, g4]
  by_cases h : i < a.size
  · have hq : a.toList[i]? = some (a.toList[i]'(by omega)) := List.getElem?_eq_getElem _
    generalize a.toList[i]'(by omega) = c at hq
    have hc := hb c (List.mem_of_getElem? hq)
    have hl : ixsY (.str a) (.int .i64 (i : Int)) = some (.int .u8 c.toNat) := ixs_get hq
    have hx : ixpY 1 256 (.ptr s.length 0) (.int .u8 (c.toNat : Int)) = some (.ptr s.length c.toNat) := by
      simp only [ixpY]; rw [if_pos (by omega)]; simp
    have hw1 : IntKind.i64.wrap ((i : Int) + 1) = ((i + 1 : Nat) : Int) := by rw [w64_in (by omega) (by omega)]; omega
    have hst : stA (s ++ [Blk.cells true (setT (a.toList.take i) z)]) none (.ptr s.length c.toNat) (.bool true) = some (s ++ [.cells true (setT (a.toList.take (i + 1)) z)]) := by
      rw [st_one (by rfl), wr_own hat, if_pos ⟨by simp [hTl]; omega, by rfl⟩, take_snocS hq, setT_snoc]
      simp [setL]
    have hst2 : wrA [Blk.cells true (setT (a.toList.take i) z)] 0 c.toNat [AV.bool true] = some [.cells true (setT (a.toList.take (i + 1)) z)] := by
      rw [wr_own (s := [Blk.cells true (setT (a.toList.take i) z)]) (b := 0) (cs := setT (a.toList.take i) z) (by rfl), if_pos ⟨by simp [hTl]; omega, by rfl⟩, take_snocS hq, setT_snoc]
      rfl
    simp only [dec_t (show (i : Int) < a.size by omega), XX, CC, YY, Nat.reduceAdd, Nat.reduceSub, Nat.reduceLeDiff, Nat.reduceLT, Nat.reduceEqDiff, reduceIte, ↓reduceIte, Nat.reduceBEq, g0, g2, g4, hl, dec_f (show ¬ (c.toNat : Int) ≥ 128 by omega), hx, hst2, hw1]
    refine hJ (d - 1) _ _ (by omega) ⟨i + 1, rfl, by omega, ?_, ?_, ?_⟩ <;> (try simp only [XX, CC, YY, Nat.reduceAdd, Nat.reduceSub, Nat.reduceLeDiff, Nat.reduceLT, Nat.reduceEqDiff, reduceIte, ↓reduceIte, Nat.reduceBEq, g0, g2, g4])
  · rw [List.take_of_length_le (by omega)] at hTl hTc hat ⊢
    have k1 := ld256 hat hTl
    have k2 := st256 hat hTl hTl hTc
    have k3 := ld256 (t := [Blk.cells true (setT a.toList z)]) (b := 0) rfl hTl
    have k4 : stA [Blk.cells true (setT a.toList z)] (some 256) (.ptr 0 0) (.agg (setT a.toList z)) = some [.cells true (setT a.toList z)] := st256 (t := [Blk.cells true (setT a.toList z)]) (b := 0) rfl hTl hTl hTc
    simp only [dec_f (show ¬ (i : Int) < a.size by omega), XX, CC, YY, Nat.reduceAdd, Nat.reduceSub, Nat.reduceLeDiff, Nat.reduceLT, Nat.reduceEqDiff, reduceIte, ↓reduceIte, Nat.reduceBEq, g2, k1, k3, k4]
    have hun := allB_un (n := s.length) _ (setTB a.toList z hzB)
    exact ret_drop ⟨_, rfl⟩ (by simp only [AV.under, unders, hun, Bool.and_true, Bool.true_and]) ⟨rfl, rfl⟩
end Go.Ev

/-! strings.Trim; names. -/
namespace Go.Ev
set_option linter.unusedVariables false
set_option linter.unusedSimpArgs false
open Go.Ev.So Go.Proofs
variable {T : Nat → Option RF} [Has T]

def inS (l : List UInt8) (b : UInt8) : Bool := l.any fun c => c.toNat == b.toNat
theorem contains_r (t : St) (k : Nat) (M : List AV) (b : UInt8) (x : Bool) (ht : t[k]? = some (.cells true M)) (hg : M[b.toNat]? = some (.bool x)) : RunD T f_strings_asciiSet_contains [.ptr k 0, .int .u8 b.toNat] t (.bool x) t := by
  refine run_body (F := r_strings_asciiSet_contains) (has rfl) (by simp [r_strings_asciiSet_contains]) ?_
  have hx : ixpY 1 256 (.ptr k 0) (.int .u8 (b.toNat : Int)) = some (.ptr k b.toNat) := by
    have := b.toNat_lt
    simp only [ixpY]; rw [if_pos (by omega)]; simp
  have hl : ldA t none (.ptr k b.toNat) = some (.bool x) := by rw [ld_own ht]; exact hg
  simp only [r_strings_asciiSet_contains, XX, CC, YY, Nat.reduceAdd, Nat.reduceSub, Nat.reduceLeDiff, Nat.reduceLT, Nat.reduceEqDiff, reduceIte, ↓reduceIte, Nat.reduceBEq, hx, hl]
  exact .inl ⟨rfl, rfl⟩
theorem set_in {t : St} {k : Nat} {l : List UInt8} (ht : t[k]? = some (.cells true (setT l z256))) (b : UInt8) : RunD T f_strings_asciiSet_contains [.ptr k 0, .int .u8 b.toNat] t (.bool (inS l b)) t := by
  have hb : b.toNat < 256 := b.toNat_lt
  refine contains_r t k _ b (inS l b) ht ?_
  rw [setT_get l z256 b.toNat (by rw [z256_len]; exact hb), z256_get hb]
  unfold inS
  cases (l.any fun c => c.toNat == b.toNat) <;> rfl

/-- What is left when letters were taken off: nothing, or something that has another. -/
def Left (p : UInt8 → Bool) (a x : ByteArray) : Prop := x.size ≤ a.size ∧ x.toList.all p = a.toList.all p ∧ (a.toList.all p = true → x.size = 0)
theorem toList_ext (a : ByteArray) (i j : Nat) : (a.extract i j).toList = (a.toList.take j).drop i := by
  rw [ByteArray.toList_eq, ByteArray.toList_eq, ByteArray.data_extract, Array.toList_extract, List.extract_eq_take_drop, List.drop_take]
theorem toList_nil {a : ByteArray} (h : a.size = 0) : a.toList = [] := List.length_eq_zero_iff.1 (by rw [toList_size]; exact h)

set_option maxHeartbeats 1000000 in
theorem trimR_r (t : St) (k : Nat) (l : List UInt8) (a : ByteArray) (ha : a.size < 140737488355328) (ht : t[k]? = some (.cells true (setT l z256))) :
    Run T f_strings_trimRightASCII [.str a, .ptr k 0] t fun v t' => t' = t ∧ ∃ x, v = .str x ∧ Left (inS l) a x := by
  refine run_body (F := r_strings_trimRightASCII) (has rfl) (by simp [r_strings_trimRightASCII]) ?_
  have hin := set_in (T := T) ht
  clear ht
  simp only [r_strings_trimRightASCII, XX, CC, YY, Nat.reduceAdd, Nat.reduceSub, Nat.reduceLeDiff, Nat.reduceLT, Nat.reduceEqDiff, reduceIte, ↓reduceIte, Nat.reduceBEq]
  refine awp_rounds (fun d e t' => t' = t ∧ ∃ x : ByteArray, x.size = d ∧ x.size ≤ a.size ∧ x.toList.all (inS l) = a.toList.all (inS l) ∧ e.get 0 = .str x ∧ e.get 1 = .ptr k 0) a.size ?_ ?_
  · refine ⟨rfl, a, rfl, Nat.le_refl _, rfl, ?_, ?_⟩ <;> (try simp only [XX, CC, YY, Nat.reduceAdd, Nat.reduceSub, Nat.reduceLeDiff, Nat.reduceLT, Nat.reduceEqDiff, reduceIte, ↓reduceIte, Nat.reduceBEq]) <;> rfl
  rintro J d e t' hJ ⟨rfl, x, hd, hxa, hall, g0, g1⟩
  simp only [XX, CC, YY, Nat.reduceAdd, Nat.reduceSub, Nat.reduceLeDiff, Nat.reduceLT, Nat.reduceEqDiff, reduceIte, ↓reduceIte, Nat.reduceBEq, g0, g1]
  by_cases h : 0 < x.size
  · have hxl := toList_size x
    have hq : x.toList[x.size - 1]? = some (x.toList[x.size - 1]'(by omega)) := List.getElem?_eq_getElem _
    generalize x.toList[x.size - 1]'(by omega) = c at hq
    have hw : IntKind.i64.wrap ((x.size : Int) - 1) = ((x.size - 1 : Nat) : Int) := by rw [w64_in (by omega) (by omega)]; omega
    have hl : ixsY (.str x) (.int .i64 ((x.size - 1 : Nat) : Int)) = some (.int .u8 c.toNat) := ixs_get hq
    have hsp : x.toList = x.toList.take (x.size - 1) ++ [c] := by
      rw [← take_snocS hq, show x.size - 1 + 1 = x.size by omega, List.take_of_length_le (by omega)]
    simp only [dec_t (show (x.size : Int) > 0 by omega), XX, CC, YY, Nat.reduceAdd, Nat.reduceSub, Nat.reduceLeDiff, Nat.reduceLT, Nat.reduceEqDiff, reduceIte, ↓reduceIte, Nat.reduceBEq, g0, g1, hw, hl]
    refine (hin c).use ?_
    cases hc : inS l c with
    | false =>
      have hf : x.toList.all (inS l) = false := by rw [hsp, List.all_append]; simp [hc]
      simp only [XX, CC, YY, Nat.reduceAdd, Nat.reduceSub, Nat.reduceLeDiff, Nat.reduceLT, Nat.reduceEqDiff, reduceIte, ↓reduceIte, Nat.reduceBEq, Bool.not_false, g0]
      refine .inl ⟨rfl, x, rfl, hxa, hall, fun h => ?_⟩
      rw [← hall, hf] at h; cases h
    | true =>
      have hs : slsA (.str x) none (some (.int .i64 ((x.size - 1 : Nat) : Int))) = some (.str (x.extract 0 (x.size - 1))) := by
        simp only [slsA, boundA]
        rw [if_pos (by omega)]
        simp
      have hy : (x.extract 0 (x.size - 1)).toList = x.toList.take (x.size - 1) := by rw [toList_ext, List.drop_zero]
      simp only [XX, CC, YY, Nat.reduceAdd, Nat.reduceSub, Nat.reduceLeDiff, Nat.reduceLT, Nat.reduceEqDiff, reduceIte, ↓reduceIte, Nat.reduceBEq, Bool.not_true, g0, hw, hs]
      refine hJ (d - 1) _ _ (by omega) ⟨rfl, x.extract 0 (x.size - 1), by rw [ext_size _ _ _ (by omega)]; omega, by rw [ext_size _ _ _ (by omega)]; omega, ?_, ?_, ?_⟩ <;> (try simp only [XX, CC, YY, Nat.reduceAdd, Nat.reduceSub, Nat.reduceLeDiff, Nat.reduceLT, Nat.reduceEqDiff, reduceIte, ↓reduceIte, Nat.reduceBEq, g0, g1])
      rw [hy, ← hall]
      conv => rhs; rw [hsp]
      rw [List.all_append]; simp [hc]
  · simp only [dec_f (show ¬ (x.size : Int) > 0 by omega), XX, CC, YY, Nat.reduceAdd, Nat.reduceSub, Nat.reduceLeDiff, Nat.reduceLT, Nat.reduceEqDiff, reduceIte, ↓reduceIte, Nat.reduceBEq, g0]
    exact .inl ⟨rfl, x, rfl, hxa, hall, fun _ => by omega⟩
set_option maxHeartbeats 1000000 in
theorem trimL_r (t : St) (k : Nat) (l : List UInt8) (a : ByteArray) (ha : a.size < 140737488355328) (ht : t[k]? = some (.cells true (setT l z256))) :
    Run T f_strings_trimLeftASCII [.str a, .ptr k 0] t fun v t' => t' = t ∧ ∃ x, v = .str x ∧ Left (inS l) a x := by
  refine run_body (F := r_strings_trimLeftASCII) (has rfl) (by simp [r_strings_trimLeftASCII]) ?_
  have hin := set_in (T := T) ht
  clear ht
  simp only [r_strings_trimLeftASCII, XX, CC, YY, Nat.reduceAdd, Nat.reduceSub, Nat.reduceLeDiff, Nat.reduceLT, Nat.reduceEqDiff, reduceIte, ↓reduceIte, Nat.reduceBEq]
  refine awp_rounds (fun d e t' => t' = t ∧ ∃ x : ByteArray, x.size = d ∧ x.size ≤ a.size ∧ x.toList.all (inS l) = a.toList.all (inS l) ∧ e.get 0 = .str x ∧ e.get 1 = .ptr k 0) a.size ?_ ?_
  · refine ⟨rfl, a, rfl, Nat.le_refl _, rfl, ?_, ?_⟩ <;> (try simp only [XX, CC, YY, Nat.reduceAdd, Nat.reduceSub, Nat.reduceLeDiff, Nat.reduceLT, Nat.reduceEqDiff, reduceIte, ↓reduceIte, Nat.reduceBEq]) <;> rfl
  rintro J d e t' hJ ⟨rfl, x, hd, hxa, hall, g0, g1⟩
  simp only [XX, CC, YY, Nat.reduceAdd, Nat.reduceSub, Nat.reduceLeDiff, Nat.reduceLT, Nat.reduceEqDiff, reduceIte, ↓reduceIte, Nat.reduceBEq, g0, g1]
  by_cases h : 0 < x.size
  · have hxl := toList_size x
    have hq : x.toList[0]? = some (x.toList[0]'(by omega)) := List.getElem?_eq_getElem _
    generalize x.toList[0]'(by omega) = c at hq
    have hl : ixsY (.str x) (.int .i64 0) = some (.int .u8 c.toNat) := ixs_get (i := 0) hq
    have hsp : x.toList = c :: x.toList.drop 1 := by
      cases e : x.toList with
      | nil => rw [e] at hxl; simp at hxl; omega
      | cons y r => rw [e] at hq; simp at hq; rw [hq]; rfl
    simp only [dec_t (show (x.size : Int) > 0 by omega), XX, CC, YY, Nat.reduceAdd, Nat.reduceSub, Nat.reduceLeDiff, Nat.reduceLT, Nat.reduceEqDiff, reduceIte, ↓reduceIte, Nat.reduceBEq, g0, g1, hl]
    refine (hin c).use ?_
    cases hc : inS l c with
    | false =>
      have hf : x.toList.all (inS l) = false := by rw [hsp, List.all_cons, hc]; rfl
      simp only [XX, CC, YY, Nat.reduceAdd, Nat.reduceSub, Nat.reduceLeDiff, Nat.reduceLT, Nat.reduceEqDiff, reduceIte, ↓reduceIte, Nat.reduceBEq, Bool.not_false, g0]
      refine .inl ⟨rfl, x, rfl, hxa, hall, fun h => ?_⟩
      rw [← hall, hf] at h; cases h
    | true =>
      have hs : slsA (.str x) (some (.int .i64 1)) none = some (.str (x.extract 1 x.size)) := by
        simp only [slsA, boundA]
        rw [if_pos (by omega)]
        rfl
      have hy : (x.extract 1 x.size).toList = x.toList.drop 1 := by rw [toList_ext, List.take_of_length_le (by omega)]
      simp only [XX, CC, YY, Nat.reduceAdd, Nat.reduceSub, Nat.reduceLeDiff, Nat.reduceLT, Nat.reduceEqDiff, reduceIte, ↓reduceIte, Nat.reduceBEq, Bool.not_true, g0, hs]
      refine hJ (d - 1) _ _ (by omega) ⟨rfl, x.extract 1 x.size, by rw [ext_size _ _ _ (by omega)]; omega, by rw [ext_size _ _ _ (by omega)]; omega, ?_, ?_, ?_⟩ <;> (try simp only [XX, CC, YY, Nat.reduceAdd, Nat.reduceSub, Nat.reduceLeDiff, Nat.reduceLT, Nat.reduceEqDiff, reduceIte, ↓reduceIte, Nat.reduceBEq, g0, g1])
      rw [hy, ← hall]
      conv => rhs; rw [hsp]
      rw [List.all_cons, hc, Bool.true_and]
  · simp only [dec_f (show ¬ (x.size : Int) > 0 by omega), XX, CC, YY, Nat.reduceAdd, Nat.reduceSub, Nat.reduceLeDiff, Nat.reduceLT, Nat.reduceEqDiff, reduceIte, ↓reduceIte, Nat.reduceBEq, g0]
    exact .inl ⟨rfl, x, rfl, hxa, hall, fun _ => by omega⟩
end Go.Ev

/-! strings.Trim of the letters of names; names, the program's and the reference's. -/
namespace Go.Ev
set_option linter.unusedVariables false
set_option linter.unusedSimpArgs false
open Go.Ev.So Go.Proofs
variable {T : Nat → Option RF} [Has T]

def letS : ByteArray := bts [97, 98, 99, 100, 101, 102, 103, 104, 105, 106, 107, 108, 109, 110, 111, 112, 113, 114, 115, 116, 117, 118, 119, 120, 121, 122, 48, 49, 50, 51, 52, 53, 54, 55, 56, 57, 46, 45]
theorem letS_size : letS.size = 38 := rfl
theorem letS_low : ∀ b ∈ letS.toList, b.toNat < 128 := by
  rw [ByteArray.toList_eq]
  have : (letS.data.toList.all fun b => decide (b.toNat < 128)) = true := by decide +kernel
  intro b hb
  simpa using List.all_eq_true.1 this b hb
def okC (c : Nat) : Bool := (decide (97 ≤ c) && decide (c ≤ 122)) || ((decide (48 ≤ c) && decide (c ≤ 57)) || (c == 46 || c == 45))
theorem inS_ok (b : UInt8) : inS letS.toList b = okC b.toNat := by
  rw [ByteArray.toList_eq]
  have h : ((List.range 256).all fun n => letS.data.toList.any (fun c => c.toNat == n) == okC n) = true := by decide +kernel
  have := List.all_eq_true.1 h b.toNat (List.mem_range.2 b.toNat_lt)
  simpa [inS] using this
theorem str_eq (a b : ByteArray) : eqA .s (.str a) (.str b) = some (decide (a = b)) := eq_S a b
theorem emp_iff (a : ByteArray) : a = bts [] ↔ a.size = 0 := by
  constructor
  · rintro rfl; rfl
  · intro h
    apply ByteArray.ext
    have : a.data.size = 0 := h
    have h2 : (bts []).data = #[] := rfl
    rw [h2]
    exact Array.eq_empty_of_size_eq_zero this

set_option maxHeartbeats 2000000 in
theorem trim_r (t : St) (a : ByteArray) (ha : a.size < 140737488355328) : Run T f_strings_Trim [.str a, .str letS] t fun v t' => t' = t ∧ ∃ x, v = .str x ∧ Left (inS letS.toList) a x := by
  refine run_body (F := r_strings_Trim) (has rfl) (show (2 : Nat) ≤ 43 by decide) ?_
  have hz := z256_len
  have hzc := z256_cell
  have hmk := mkset_r (T := T) t letS (by rw [letS_size]; decide) letS_low
  have hSl : (setT letS.toList z256).length = 256 := by rw [setT_len, hz]
  have hSc := setT_cell letS.toList z256 hzc
  have hR := fun t' ht => trimR_r (T := T) t' t.length letS.toList a ha ht
  have hL := fun t' x (hx : x.size < 140737488355328) ht => trimL_r (T := T) t' t.length letS.toList x hx ht
  have h38 : (((letS.size : Nat) : Int) == 1) = false := rfl
  have hne : decide (letS = bts []) = false := by rw [decide_eq_false_iff_not, emp_iff]; decide
  rw [strings_Trim_is]
  have hres : r_strings_Trim.res = [.tmp 4] := rfl
  rw [hres]
  generalize letS = L at *
  generalize hM : setT L.toList z256 = M at *
  generalize z256 = z at *
  by_cases c : a = bts []
  · simp only [strings_Trim_z, XX, CC, YY, Nat.reduceAdd, Nat.reduceSub, Nat.reduceLeDiff, Nat.reduceLT, Nat.reduceEqDiff, reduceIte, ↓reduceIte, Nat.reduceBEq, str_eq, dec_t c, gv_ft]
    refine .inl ⟨rfl, a, rfl, Nat.le_refl _, rfl, fun _ => (emp_iff a).1 c⟩
  · have hst : stA [Blk.cells true z] (some 256) (.ptr 0 0) (.agg M) = some [.cells true M] := st256 (t := [Blk.cells true z]) (b := 0) rfl hz hSl hSc
    simp only [strings_Trim_z, XX, CC, YY, Nat.reduceAdd, Nat.reduceSub, Nat.reduceLeDiff, Nat.reduceLT, Nat.reduceEqDiff, reduceIte, ↓reduceIte, Nat.reduceBEq, str_eq, dec_f c, gv_ff, hne, h38, gv_tf]
    refine hmk.use ?_
    simp only [XX, CC, YY, Nat.reduceAdd, Nat.reduceSub, Nat.reduceLeDiff, Nat.reduceLT, Nat.reduceEqDiff, reduceIte, ↓reduceIte, Nat.reduceBEq, hst]
    refine Run.mono _ _ _ _ _ ?_ (hR (t ++ [.cells true M]) (by simp))
    rintro v u ⟨hu, x, rfl, hx1, hx2, hx3⟩
    rw [hu]
    (try simp only [XX, CC, YY, Nat.reduceAdd, Nat.reduceSub, Nat.reduceLeDiff, Nat.reduceLT, Nat.reduceEqDiff, reduceIte, ↓reduceIte, Nat.reduceBEq])
    refine Run.mono _ _ _ _ _ ?_ (hL (t ++ [.cells true M]) x (by omega) (by simp))
    rintro v u' ⟨hu', y, rfl, hy1, hy2, hy3⟩
    rw [hu']
    (try simp only [XX, CC, YY, Nat.reduceAdd, Nat.reduceSub, Nat.reduceLeDiff, Nat.reduceLT, Nat.reduceEqDiff, reduceIte, ↓reduceIte, Nat.reduceBEq])
    exact ret_drop ⟨_, rfl⟩ rfl ⟨rfl, y, rfl, by omega, by rw [hy2, hx2], fun h => hy3 (by rw [hx2]; exact h)⟩

def nameB (s : ByteArray) : Bool := decide (1 ≤ s.size ∧ s.size ≤ 32) && s.toList.all fun b => okC b.toNat
theorem name_r (t : St) (a : ByteArray) (ha : a.size < 140737488355328) : RunD T f_files_isName [.str a] t (.bool (nameB a)) t := by
  refine run_body (F := r_files_isName) (has rfl) (by simp [r_files_isName]) ?_
  have hl : bts [97, 98, 99, 100, 101, 102, 103, 104, 105, 106, 107, 108, 109, 110, 111, 112, 113, 114, 115, 116, 117, 118, 119, 120, 121, 122, 48, 49, 50, 51, 52, 53, 54, 55, 56, 57, 46, 45] = letS := rfl
  have hp : a.toList.all (inS letS.toList) = a.toList.all fun b => okC b.toNat := by
    congr 1; funext b; exact inS_ok b
  by_cases c : a = bts []
  · have h0 := (emp_iff a).1 c
    have hn : nameB a = false := by unfold nameB; rw [decide_eq_false (by omega)]; rfl
    simp only [r_files_isName, XX, CC, YY, Nat.reduceAdd, Nat.reduceSub, Nat.reduceLeDiff, Nat.reduceLT, Nat.reduceEqDiff, reduceIte, ↓reduceIte, Nat.reduceBEq, str_eq, dec_t c, Bool.not_true, gv_tf]
    exact .inl ⟨by rw [hn], rfl⟩
  · have h0 : a.size ≠ 0 := fun h => c ((emp_iff a).2 h)
    by_cases c1 : (a.size : Int) ≤ 32
    · simp only [r_files_isName, XX, CC, YY, Nat.reduceAdd, Nat.reduceSub, Nat.reduceLeDiff, Nat.reduceLT, Nat.reduceEqDiff, reduceIte, ↓reduceIte, Nat.reduceBEq, str_eq, dec_f c, Bool.not_false, gv_tt, dec_t c1, hl]
      refine Run.mono _ _ _ _ _ ?_ (trim_r t a ha)
      rintro v u ⟨hu, x, rfl, hx1, hx2, hx3⟩
      rw [hu]
      simp only [XX, CC, YY, Nat.reduceAdd, Nat.reduceSub, Nat.reduceLeDiff, Nat.reduceLT, Nat.reduceEqDiff, reduceIte, ↓reduceIte, Nat.reduceBEq, str_eq]
      refine .inl ⟨?_, rfl⟩
      congr 1
      unfold nameB
      rw [decide_eq_true (show 1 ≤ a.size ∧ a.size ≤ 32 by omega), Bool.true_and, ← hp, Bool.eq_iff_iff, decide_eq_true_iff, emp_iff]
      constructor
      · intro h; rw [← hx2, toList_nil h]; rfl
      · exact hx3
    · have hn : nameB a = false := by unfold nameB; rw [decide_eq_false (by omega)]; rfl
      simp only [r_files_isName, XX, CC, YY, Nat.reduceAdd, Nat.reduceSub, Nat.reduceLeDiff, Nat.reduceLT, Nat.reduceEqDiff, reduceIte, ↓reduceIte, Nat.reduceBEq, str_eq, dec_f c, Bool.not_false, gv_tt, gv_tf, dec_f c1]
      exact .inl ⟨by rw [hn], rfl⟩

set_option maxHeartbeats 2000000 in
theorem rname_r (t : St) (a : ByteArray) (ha : a.size < 140737488355328) : RunD T f_r06_Name [.str a] t (.bool (nameB a)) t := by
  refine run_body (F := r_r06_Name) (has rfl) (by simp [r_r06_Name]) ?_
  have hlen := toList_size a
  by_cases c0 : (a.size : Int) < 1
  · have hn : nameB a = false := by unfold nameB; rw [decide_eq_false (by omega)]; rfl
    simp only [r_r06_Name, XX, CC, YY, Nat.reduceAdd, Nat.reduceSub, Nat.reduceLeDiff, Nat.reduceLT, Nat.reduceEqDiff, reduceIte, ↓reduceIte, Nat.reduceBEq, dec_t c0, gv_ft]
    exact .inl ⟨by rw [hn], rfl⟩
  by_cases c1 : (a.size : Int) > 32
  · have hn : nameB a = false := by unfold nameB; rw [decide_eq_false (by omega)]; rfl
    simp only [r_r06_Name, XX, CC, YY, Nat.reduceAdd, Nat.reduceSub, Nat.reduceLeDiff, Nat.reduceLT, Nat.reduceEqDiff, reduceIte, ↓reduceIte, Nat.reduceBEq, dec_f c0, gv_ff, dec_t c1]
    exact .inl ⟨by rw [hn], rfl⟩
  have hn : nameB a = a.toList.all fun b => okC b.toNat := by unfold nameB; rw [decide_eq_true (by omega)]; rfl
  simp only [r_r06_Name, XX, CC, YY, Nat.reduceAdd, Nat.reduceSub, Nat.reduceLeDiff, Nat.reduceLT, Nat.reduceEqDiff, reduceIte, ↓reduceIte, Nat.reduceBEq, dec_f c0, gv_ff, dec_f c1]
  refine awp_rounds (fun d e t' => t' = t ∧ ∃ i : Nat, i + d = a.size ∧ e.get 0 = .str a ∧ e.get 3 = .int .i64 i ∧ (a.toList.all fun b => okC b.toNat) = ((a.toList.drop i).all fun b => okC b.toNat)) a.size ?_ ?_
  · refine ⟨rfl, 0, by omega, ?_, ?_, rfl⟩ <;> (try simp only [XX, CC, YY, Nat.reduceAdd, Nat.reduceSub, Nat.reduceLeDiff, Nat.reduceLT, Nat.reduceEqDiff, reduceIte, ↓reduceIte, Nat.reduceBEq]) <;> rfl
  rintro J d e t' hJ ⟨rfl, i, hi, g0, g3, hall⟩
  simp only [XX, CC, YY, Nat.reduceAdd, Nat.reduceSub, Nat.reduceLeDiff, Nat.reduceLT, Nat.reduceEqDiff, reduceIte, ↓reduceIte, Nat.reduceBEq, g0, g3]
  by_cases h : i < a.size
  · have hq : a.toList[i]? = some (a.toList[i]'(by omega)) := List.getElem?_eq_getElem _
    have hd : a.toList.drop i = a.toList[i]'(by omega) :: a.toList.drop (i + 1) := List.drop_eq_getElem_cons _
    generalize a.toList[i]'(by omega) = c at hq hd
    rw [hd, List.all_cons] at hall
    have hl : ixsY (.str a) (.int .i64 (i : Int)) = some (.int .u8 c.toNat) := ixs_get hq
    have hw1 : IntKind.i64.wrap ((i : Int) + 1) = ((i + 1 : Nat) : Int) := by rw [w64_in (by omega) (by omega)]; omega
    generalize hN : c.toNat = n at *
    have yes : okC n = true → ∀ e' : Env, e'.get 0 = .str a → e'.get 3 = .int .i64 (i + 1 : Nat) → J e' t' := fun hk e' q0 q3 => hJ (d - 1) _ _ (by omega) ⟨rfl, i + 1, by omega, q0, q3, by rw [hall, hk, Bool.true_and]⟩
    have no : okC n = false → Ret t' (.bool false) t' fun v s' => v = .bool (nameB a) ∧ s' = t' := fun hk => .inl ⟨by rw [hn, hall, hk, Bool.false_and], rfl⟩
    have hk : okC n = ((decide (97 ≤ n) && decide (n ≤ 122)) || ((decide (48 ≤ n) && decide (n ≤ 57)) || (n == 46 || n == 45))) := rfl
    by_cases a1 : (n : Int) ≥ 97
    · by_cases a2 : (n : Int) ≤ 122
      · simp only [dec_t (show (i : Int) < a.size by omega), XX, CC, YY, Nat.reduceAdd, Nat.reduceSub, Nat.reduceLeDiff, Nat.reduceLT, Nat.reduceEqDiff, reduceIte, ↓reduceIte, Nat.reduceBEq, g0, g3, hl, dec_t a1, gv_tt, dec_t a2, gv_ft, gv_u, Bool.not_true, hw1]
        refine yes (by rw [hk, decide_eq_true (by omega), decide_eq_true (by omega)]; rfl) _ ?_ ?_ <;> (try simp only [XX, CC, YY, Nat.reduceAdd, Nat.reduceSub, Nat.reduceLeDiff, Nat.reduceLT, Nat.reduceEqDiff, reduceIte, ↓reduceIte, Nat.reduceBEq, g0, g3])
      · have b1 : ¬ (n : Int) ≤ 57 := by omega
        have b2 : ((n : Int) == 46) = false := by simp; omega
        have b3 : ((n : Int) == 45) = false := by simp; omega
        simp only [dec_t (show (i : Int) < a.size by omega), XX, CC, YY, Nat.reduceAdd, Nat.reduceSub, Nat.reduceLeDiff, Nat.reduceLT, Nat.reduceEqDiff, reduceIte, ↓reduceIte, Nat.reduceBEq, g0, g3, hl, dec_t a1, gv_tt, dec_f a2, gv_ff, dec_t (show (n : Int) ≥ 48 by omega), dec_f b1, b2, b3, Bool.not_false]
        exact no (by rw [hk, decide_eq_false (show ¬ n ≤ 122 by omega), decide_eq_false (show ¬ n ≤ 57 by omega), Bool.and_false, Bool.and_false]; simp; omega)
    · by_cases a2 : (n : Int) ≥ 48
      · by_cases a3 : (n : Int) ≤ 57
        · simp only [dec_t (show (i : Int) < a.size by omega), XX, CC, YY, Nat.reduceAdd, Nat.reduceSub, Nat.reduceLeDiff, Nat.reduceLT, Nat.reduceEqDiff, reduceIte, ↓reduceIte, Nat.reduceBEq, g0, g3, hl, dec_f a1, gv_tf, gv_ff, dec_t a2, gv_tt, dec_t a3, gv_ft, gv_u, Bool.not_true, hw1]
          refine yes (by rw [hk, decide_eq_true (show 48 ≤ n by omega), decide_eq_true (show n ≤ 57 by omega)]; simp) _ ?_ ?_ <;> (try simp only [XX, CC, YY, Nat.reduceAdd, Nat.reduceSub, Nat.reduceLeDiff, Nat.reduceLT, Nat.reduceEqDiff, reduceIte, ↓reduceIte, Nat.reduceBEq, g0, g3])
        · have b2 : ((n : Int) == 46) = false := by simp; omega
          have b3 : ((n : Int) == 45) = false := by simp; omega
          simp only [dec_t (show (i : Int) < a.size by omega), XX, CC, YY, Nat.reduceAdd, Nat.reduceSub, Nat.reduceLeDiff, Nat.reduceLT, Nat.reduceEqDiff, reduceIte, ↓reduceIte, Nat.reduceBEq, g0, g3, hl, dec_f a1, gv_tf, gv_ff, dec_t a2, gv_tt, dec_f a3, b2, b3, Bool.not_false]
          exact no (by rw [hk, decide_eq_false (show ¬ 97 ≤ n by omega), decide_eq_false (show ¬ n ≤ 57 by omega), Bool.and_false, Bool.false_and]; simp; omega)
      · by_cases b2 : n = 46
        · have b2' : ((n : Int) == 46) = true := by simp; omega
          simp only [dec_t (show (i : Int) < a.size by omega), XX, CC, YY, Nat.reduceAdd, Nat.reduceSub, Nat.reduceLeDiff, Nat.reduceLT, Nat.reduceEqDiff, reduceIte, ↓reduceIte, Nat.reduceBEq, g0, g3, hl, dec_f a1, gv_tf, gv_ff, dec_f a2, gv_tt, b2', gv_ft, Bool.not_true, hw1]
          refine yes (by rw [hk, b2]; rfl) _ ?_ ?_ <;> (try simp only [XX, CC, YY, Nat.reduceAdd, Nat.reduceSub, Nat.reduceLeDiff, Nat.reduceLT, Nat.reduceEqDiff, reduceIte, ↓reduceIte, Nat.reduceBEq, g0, g3])
        · have b2' : ((n : Int) == 46) = false := by simp; omega
          by_cases b3 : n = 45
          · have b3' : ((n : Int) == 45) = true := by simp; omega
            simp only [dec_t (show (i : Int) < a.size by omega), XX, CC, YY, Nat.reduceAdd, Nat.reduceSub, Nat.reduceLeDiff, Nat.reduceLT, Nat.reduceEqDiff, reduceIte, ↓reduceIte, Nat.reduceBEq, g0, g3, hl, dec_f a1, gv_tf, gv_ff, dec_f a2, gv_tt, b2', b3', gv_ft, Bool.not_true, hw1]
            refine yes (by rw [hk, b3]; rfl) _ ?_ ?_ <;> (try simp only [XX, CC, YY, Nat.reduceAdd, Nat.reduceSub, Nat.reduceLeDiff, Nat.reduceLT, Nat.reduceEqDiff, reduceIte, ↓reduceIte, Nat.reduceBEq, g0, g3])
          · have b3' : ((n : Int) == 45) = false := by simp; omega
            simp only [dec_t (show (i : Int) < a.size by omega), XX, CC, YY, Nat.reduceAdd, Nat.reduceSub, Nat.reduceLeDiff, Nat.reduceLT, Nat.reduceEqDiff, reduceIte, ↓reduceIte, Nat.reduceBEq, g0, g3, hl, dec_f a1, gv_tf, gv_ff, dec_f a2, gv_tt, b2', b3', gv_ft, Bool.not_false]
            exact no (by rw [hk, decide_eq_false (show ¬ 97 ≤ n by omega), decide_eq_false (show ¬ 48 ≤ n by omega), Bool.false_and, Bool.false_and]; simp [b2, b3])
  · rw [List.drop_of_length_le (by omega)] at hall
    simp only [dec_f (show ¬ (i : Int) < a.size by omega), XX, CC, YY, Nat.reduceAdd, Nat.reduceSub, Nat.reduceLeDiff, Nat.reduceLT, Nat.reduceEqDiff, reduceIte, ↓reduceIte, Nat.reduceBEq]
    exact .inl ⟨by rw [hn, hall]; rfl, rfl⟩
end Go.Ev

/-! The disk: where it lies; New, check, find, Read. -/
namespace Go.Ev
set_option linter.unusedVariables false
set_option linter.unusedSimpArgs false
open Go.Ev.So Go.Proofs
variable {T : Nat → Option RF} [Has T]

/-- A file: its name, its bytes, how many are safe; where it lies. -/
structure Fil where
  name : ByteArray
  data : ByteArray
  safe : Int
  fb : Nat
/-- A disk; where its map lies, its files (with the map's stamps). -/
structure Dsk where
  down : Bool
  armed : Bool
  left : Int
  keep : Int
  steps : Int
  mb : Nat
  clock : Nat
  fs : List (Fil × Nat)
def entF (f : Fil × Nat) : AV × AV × Nat := (.str f.1.name, .ptr f.1.fb 0, f.2)
def cF (f : Fil) : List AV := [.str f.data, .int .i64 f.safe]
def cD (D : Dsk) : List AV := [.map D.mb, .bool D.down, .bool D.armed, .int .i64 D.left, .int .i64 D.keep, .int .i64 D.steps]
structure DAt (t : St) (n b : Nat) (D : Dsk) : Prop where
  low : n ≤ b
  cells : t[b]? = some (.cells true (cD D))
  mlow : n ≤ D.mb
  map : t[D.mb]? = some (.map (D.fs.map entF) D.clock)
  file : ∀ f ∈ D.fs, n ≤ f.1.fb ∧ t[f.1.fb]? = some (.cells true (cF f.1))
  apart : (b :: D.mb :: D.fs.map (·.1.fb)).Nodup
  names : (D.fs.map (·.1.name)).Nodup
theorem DAt.ext {t t' : St} {n b : Nat} {D : Dsk} (h : DAt t n b D) (x : Ext t t') : DAt t' n b D :=
  ⟨h.low, x.get_some h.cells, h.mlow, x.get_some h.map, fun f hf => ⟨(h.file f hf).1, x.get_some (h.file f hf).2⟩, h.apart, h.names⟩
def getF (D : Dsk) (name : ByteArray) : Option Fil := (D.fs.find? fun f => decide (name = f.1.name)).map (·.1)
def ptrF : Option Fil → AV
  | some f => .ptr f.fb 0
  | none => .nilp
theorem find_ent (name : ByteArray) : ∀ fs : List (Fil × Nat), ∃ r, findM .s (.str name) (fs.map entF) = some r ∧
    (match r with | some x => ∃ f, (fs.find? fun f => decide (name = f.1.name)) = some f ∧ fs[x.1]? = some f ∧ x.2 = .ptr f.1.fb 0 | none => (fs.find? fun f => decide (name = f.1.name)) = none)
  | [] => ⟨none, rfl, rfl⟩
  | f :: fs => by
    obtain ⟨r, h1, h2⟩ := find_ent name fs
    by_cases c : name = f.1.name
    · refine ⟨some (0, .ptr f.1.fb 0), ?_, f, ?_, rfl, rfl⟩
      · simp only [List.map_cons, entF, findM, eq_S, dec_t c]
      · rw [List.find?_cons, decide_eq_true c]
    · have hf : ((f :: fs).find? fun f => decide (name = f.1.name)) = fs.find? fun f => decide (name = f.1.name) := by rw [List.find?_cons, decide_eq_false c]
      refine ⟨r.map fun x => (x.1 + 1, x.2), ?_, ?_⟩
      · simp only [List.map_cons, entF, findM, eq_S, dec_f c]
        rw [h1]; rfl
      · cases r with
        | none => rw [hf]; exact h2
        | some x =>
          obtain ⟨g, a1, a2, a3⟩ := h2
          exact ⟨g, by rw [hf]; exact a1, by simpa using a2, a3⟩
theorem look_r {t : St} {n b : Nat} {D : Dsk} (h : DAt t n b D) (name : ByteArray) : xtA t (.lku .s .nilp false) [.map D.mb, .str name] = some (ptrF (getF D name), t) := by
  obtain ⟨r, h1, h2⟩ := find_ent name D.fs
  have hm : mapB t D.mb = some (D.fs.map entF, D.clock) := by unfold mapB; rw [h.map]
  show lkuA t .s .nilp false (.map D.mb) (.str name) = _
  unfold lkuA getF
  simp only [hm, h1]
  cases r with
  | none => simp only at h2; rw [h2]; rfl
  | some x =>
    obtain ⟨f, a1, a2, a3⟩ := h2
    obtain ⟨i, v⟩ := x
    simp only at a3
    rw [a1, a3]; rfl
theorem DAt.ld {t : St} {n b : Nat} {D : Dsk} (h : DAt t n b D) : ldA t none (.ptr b 0) = some (.map D.mb) ∧ ldA t none (.ptr b 1) = some (.bool D.down) ∧ ldA t none (.ptr b 2) = some (.bool D.armed) ∧
    ldA t none (.ptr b 3) = some (.int .i64 D.left) ∧ ldA t none (.ptr b 4) = some (.int .i64 D.keep) ∧ ldA t none (.ptr b 5) = some (.int .i64 D.steps) := by
  refine ⟨?_, ?_, ?_, ?_, ?_, ?_⟩ <;> rw [ld_own h.cells] <;> rfl
theorem getF_mem {D : Dsk} {name : ByteArray} {f : Fil} (h : getF D name = some f) : ∃ k, (f, k) ∈ D.fs ∧ f.name = name := by
  unfold getF at h
  obtain ⟨g, h1, rfl⟩ := Option.map_eq_some_iff.1 h
  exact ⟨g.2, List.mem_of_find?_eq_some h1, by have := List.find?_some h1; simp at this; exact this.symm⟩
theorem eqp_t : eqA .p .nilp .nilp = some true := rfl
theorem eqp_f {b o : Nat} : eqA .p (.ptr b o) .nilp = some false := rfl

/-- the errors of names -/
def chkV (D : Dsk) (ns : List ByteArray) : Int := if D.down then 60 else if ns.all nameB then 0 else 61
theorem checknil_r (t : St) (v : AV) : RunD T f_files_Disk_check [.nilp, v] t (.int .i64 2) t := by
  refine run_body (F := r_files_Disk_check) (has rfl) (by simp [r_files_Disk_check]) ?_
  simp only [r_files_Disk_check, XX, CC, YY, Nat.reduceAdd, Nat.reduceSub, Nat.reduceLeDiff, Nat.reduceLT, Nat.reduceEqDiff, reduceIte, ↓reduceIte, Nat.reduceBEq, eqp_t]
  exact .inl ⟨rfl, rfl⟩
set_option maxHeartbeats 1000000 in
theorem check_r (t : St) (n b : Nat) (D : Dsk) (v : AV) (ns : List ByteArray) (hD : DAt t n b D) (hv : Rd 1 cS t v ns) (hl : ns.length < 1000000) (hs : ∀ a ∈ ns, a.size < 140737488355328) : RunD T f_files_Disk_check [.ptr b 0, v] t (.int .i64 (chkV D ns)) t := by
  refine run_body (F := r_files_Disk_check) (has rfl) (by simp [r_files_Disk_check]) ?_
  have hd := hD.ld.2.1
  unfold chkV
  cases c : D.down with
  | true =>
    rw [c] at hd
    simp only [r_files_Disk_check, XX, CC, YY, Nat.reduceAdd, Nat.reduceSub, Nat.reduceLeDiff, Nat.reduceLT, Nat.reduceEqDiff, reduceIte, ↓reduceIte, Nat.reduceBEq, eqp_f, hd]
    exact .inl ⟨rfl, rfl⟩
  | false =>
    rw [c] at hd
    simp only [r_files_Disk_check, XX, CC, YY, Nat.reduceAdd, Nat.reduceSub, Nat.reduceLeDiff, Nat.reduceLT, Nat.reduceEqDiff, reduceIte, ↓reduceIte, Nat.reduceBEq, eqp_f, hd, hv.len]
    refine awp_rounds (fun d e t' => t' = t ∧ ∃ i : Nat, i + d = ns.length ∧ e.get 13 = v ∧ e.get 14 = .int .i64 ns.length ∧ e.get 15 = .int .i64 i ∧ ns.all nameB = (ns.drop i).all nameB) ns.length ?_ ?_
    · refine ⟨rfl, 0, by omega, ?_, ?_, ?_, rfl⟩ <;> (try simp only [XX, CC, YY, Nat.reduceAdd, Nat.reduceSub, Nat.reduceLeDiff, Nat.reduceLT, Nat.reduceEqDiff, reduceIte, ↓reduceIte, Nat.reduceBEq]) <;> rfl
    rintro J d e t' hJ ⟨ht, i, hi, g13, g14, g15, hall⟩
    rw [ht]
    simp only [XX, CC, YY, Nat.reduceAdd, Nat.reduceSub, Nat.reduceLeDiff, Nat.reduceLT, Nat.reduceEqDiff, reduceIte, ↓reduceIte, Nat.reduceBEq, g13, g14, g15]
    by_cases h : i < ns.length
    · have hq : ns[i]? = some (ns[i]'h) := List.getElem?_eq_getElem _
      have hd' : ns.drop i = ns[i]'h :: ns.drop (i + 1) := List.drop_eq_getElem_cons _
      generalize ns[i]'h = q at hq hd'
      rw [hd', List.all_cons] at hall
      obtain ⟨b1, o1, j1, j2, _⟩ := rdS hv hq
      have hw1 : IntKind.i64.wrap ((i : Int) + 1) = ((i + 1 : Nat) : Int) := by rw [w64_in (by omega) (by omega)]; omega
      simp only [dec_t (show (i : Int) < ns.length by omega), XX, CC, YY, Nat.reduceAdd, Nat.reduceSub, Nat.reduceLeDiff, Nat.reduceLT, Nat.reduceEqDiff, reduceIte, ↓reduceIte, Nat.reduceBEq, g13, g15, j1, j2]
      refine (name_r t q (hs q (List.mem_of_getElem? hq))).use ?_
      cases cq : nameB q with
      | true =>
        rw [cq, Bool.true_and] at hall
        simp only [XX, CC, YY, Nat.reduceAdd, Nat.reduceSub, Nat.reduceLeDiff, Nat.reduceLT, Nat.reduceEqDiff, reduceIte, ↓reduceIte, Nat.reduceBEq, Bool.not_true, g15, hw1]
        refine hJ (d - 1) _ _ (by omega) ⟨rfl, i + 1, by omega, ?_, ?_, ?_, hall⟩ <;> (try simp only [XX, CC, YY, Nat.reduceAdd, Nat.reduceSub, Nat.reduceLeDiff, Nat.reduceLT, Nat.reduceEqDiff, reduceIte, ↓reduceIte, Nat.reduceBEq, g13, g14, g15])
      | false =>
        rw [cq, Bool.false_and] at hall
        simp only [XX, CC, YY, Nat.reduceAdd, Nat.reduceSub, Nat.reduceLeDiff, Nat.reduceLT, Nat.reduceEqDiff, reduceIte, ↓reduceIte, Nat.reduceBEq, Bool.not_false]
        exact .inl ⟨by rw [hall]; rfl, rfl⟩
    · rw [List.drop_of_length_le (by omega)] at hall
      simp only [dec_f (show ¬ (i : Int) < ns.length by omega), XX, CC, YY, Nat.reduceAdd, Nat.reduceSub, Nat.reduceLeDiff, Nat.reduceLT, Nat.reduceEqDiff, reduceIte, ↓reduceIte, Nat.reduceBEq]
      exact .inl ⟨by rw [hall]; rfl, rfl⟩

/-- a file, and how the look went -/
def findV (D : Dsk) (name : ByteArray) : AV := if chkV D [name] ≠ 0 then .tup [.nilp, .int .i64 (chkV D [name])] else match getF D name with
  | some f => .tup [.ptr f.fb 0, .int .i64 0]
  | none => .tup [.nilp, .int .i64 62]
set_option maxHeartbeats 1000000 in
theorem find_r (t : St) (n b : Nat) (D : Dsk) (name : ByteArray) (hD : DAt t n b D) (hs : name.size < 140737488355328) : RunD T f_files_Disk_find [.ptr b 0, .str name] t (findV D name) t := by
  refine run_body (F := r_files_Disk_find) (has rfl) (by simp [r_files_Disk_find]) ?_
  have x1 : Ext t (t ++ [.cells true [.str name]]) := ⟨_, rfl⟩
  have hD1 := hD.ext x1
  have hc := check_r (T := T) (t ++ [.cells true [.str name]]) n b D (.sl t.length 0 1 1 (some 1)) [name] hD1 (rd_lit (l := [name]) (by simp [cS]) cS_len rfl) (by simp) (by intro a ha; simp at ha; rw [ha]; exact hs)
  have hl := look_r hD1 name
  have hm := hD1.ld.1
  unfold findV
  simp only [r_files_Disk_find, XX, CC, YY, Nat.reduceAdd, Nat.reduceSub, Nat.reduceLeDiff, Nat.reduceLT, Nat.reduceEqDiff, reduceIte, ↓reduceIte, Nat.reduceBEq]
  refine hc.use ?_
  generalize chkV D [name] = e at *
  have em : e = 0 ∨ ¬ e = 0 := Classical.em _
  rcases em with c | c
  · subst c
    rw [if_neg (by simp)]
    simp only [XX, CC, YY, Nat.reduceAdd, Nat.reduceSub, Nat.reduceLeDiff, Nat.reduceLT, Nat.reduceEqDiff, reduceIte, ↓reduceIte, Nat.reduceBEq, show ((0 : Int) == 0) = true from rfl, Bool.not_true, hm, hl]
    cases hg : getF D name with
    | none =>
      simp only [ptrF, XX, CC, YY, Nat.reduceAdd, Nat.reduceSub, Nat.reduceLeDiff, Nat.reduceLT, Nat.reduceEqDiff, reduceIte, ↓reduceIte, Nat.reduceBEq, eqp_t]
      exact ret_drop x1 rfl ⟨rfl, rfl⟩
    | some f =>
      obtain ⟨k, hk, _⟩ := getF_mem hg
      have hlt := (List.getElem?_eq_some_iff.1 (hD.file _ hk).2).1
      simp only [ptrF, XX, CC, YY, Nat.reduceAdd, Nat.reduceSub, Nat.reduceLeDiff, Nat.reduceLT, Nat.reduceEqDiff, reduceIte, ↓reduceIte, Nat.reduceBEq, eqp_f]
      exact ret_drop x1 (by simp [AV.under, unders, hlt]) ⟨rfl, rfl⟩
  · have c' : (e == 0) = false := by simp [c]
    rw [if_pos c]
    simp only [XX, CC, YY, Nat.reduceAdd, Nat.reduceSub, Nat.reduceLeDiff, Nat.reduceLT, Nat.reduceEqDiff, reduceIte, ↓reduceIte, Nat.reduceBEq, c', Bool.not_false]
    exact ret_drop x1 rfl ⟨rfl, rfl⟩
end Go.Ev

/-! The disk: New, Read, spend (no loss), Append (no loss). -/
namespace Go.Ev
set_option linter.unusedVariables false
set_option linter.unusedSimpArgs false
open Go.Ev.So Go.Proofs
variable {T : Nat → Option RF} [Has T]

/-- a file's bytes, and how it went -/
def readV (D : Dsk) (name : ByteArray) : ByteArray × Int := if chkV D [name] ≠ 0 then (bts [], chkV D [name]) else match getF D name with
  | some f => (f.data, 0)
  | none => (bts [], 62)
set_option maxHeartbeats 1000000 in
theorem read_r (t : St) (n b : Nat) (D : Dsk) (name : ByteArray) (hD : DAt t n b D) (hs : name.size < 140737488355328) : RunD T f_files_Disk_Read [.ptr b 0, .str name] t (.tup [.str (readV D name).1, .int .i64 (readV D name).2]) t := by
  refine run_body (F := r_files_Disk_Read) (has rfl) (by simp [r_files_Disk_Read]) ?_
  simp only [r_files_Disk_Read, XX, CC, YY, Nat.reduceAdd, Nat.reduceSub, Nat.reduceLeDiff, Nat.reduceLT, Nat.reduceEqDiff, reduceIte, ↓reduceIte, Nat.reduceBEq]
  refine (find_r t n b D name hD hs).use ?_
  unfold findV readV
  generalize chkV D [name] = e
  have em : e = 0 ∨ ¬ e = 0 := Classical.em _
  rcases em with c | c
  · subst c
    rw [if_neg (by simp), if_neg (by simp)]
    cases hg : getF D name with
    | none =>
      simp only [XX, CC, YY, Nat.reduceAdd, Nat.reduceSub, Nat.reduceLeDiff, Nat.reduceLT, Nat.reduceEqDiff, reduceIte, ↓reduceIte, Nat.reduceBEq, show ((62 : Int) == 0) = false from rfl, Bool.not_false]
      exact .inl ⟨rfl, rfl⟩
    | some f =>
      obtain ⟨k, hk, _⟩ := getF_mem hg
      have hl : ldA t none (.ptr f.fb 0) = some (.str f.data) := by rw [ld_own (hD.file _ hk).2]; rfl
      simp only [XX, CC, YY, Nat.reduceAdd, Nat.reduceSub, Nat.reduceLeDiff, Nat.reduceLT, Nat.reduceEqDiff, reduceIte, ↓reduceIte, Nat.reduceBEq, show ((0 : Int) == 0) = true from rfl, Bool.not_true, hl]
      exact .inl ⟨rfl, rfl⟩
  · have c' : (e == 0) = false := by simp [c]
    rw [if_pos c, if_pos c]
    simp only [XX, CC, YY, Nat.reduceAdd, Nat.reduceSub, Nat.reduceLeDiff, Nat.reduceLT, Nat.reduceEqDiff, reduceIte, ↓reduceIte, Nat.reduceBEq, c', Bool.not_false]
    exact .inl ⟨rfl, rfl⟩

/-- one operation is done -/
def spendD (D : Dsk) : Dsk := { D with left := IntKind.i64.wrap (D.left - 1), steps := IntKind.i64.wrap (D.steps + 1) }
theorem DAt.setD {t : St} {n b : Nat} {D D' : Dsk} (h : DAt t n b D) (hm : D'.mb = D.mb) (hc : D'.clock = D.clock) (hf : D'.fs = D.fs) : DAt (t.set b (.cells true (cD D'))) n b D' := by
  have hlt := (List.getElem?_eq_some_iff.1 h.cells).1
  have ha := h.apart
  simp only [List.nodup_cons, List.mem_cons, not_or, List.mem_map, not_exists, not_and] at ha
  refine ⟨h.low, key_set hlt, by rw [hm]; exact h.mlow, ?_, fun f hf' => ?_, by rw [hm, hf]; exact h.apart, by rw [hf]; exact h.names⟩
  · rw [hm, hc, hf, List.getElem?_set, if_neg ha.1.1]; exact h.map
  · rw [hf] at hf'
    refine ⟨(h.file f hf').1, ?_⟩
    rw [List.getElem?_set, if_neg (fun e => ha.1.2 f hf' e.symm)]
    exact (h.file f hf').2
set_option maxHeartbeats 1000000 in
theorem spend_r (t : St) (n b : Nat) (D : Dsk) (hD : DAt t n b D) (hn : ¬ (D.armed = true ∧ D.left = 0)) : RunD T f_files_Disk_spend [.ptr b 0] t (.int .i64 0) (t.set b (.cells true (cD (spendD D)))) := by
  refine run_body (F := r_files_Disk_spend) (has rfl) (by simp [r_files_Disk_spend]) ?_
  obtain ⟨_, _, l2, l3, _, l5⟩ := hD.ld
  have hlt := (List.getElem?_eq_some_iff.1 hD.cells).1
  have s1 : stA t none (.ptr b 3) (.int .i64 (IntKind.i64.wrap (D.left - 1))) = some (t.set b (.cells true (cD { D with left := IntKind.i64.wrap (D.left - 1) }))) := by
    rw [st_one (by rfl), wr_own hD.cells, if_pos ⟨by simp [cD], by rfl⟩]; rfl
  have hD2 := hD.setD (D' := { D with left := IntKind.i64.wrap (D.left - 1) }) rfl rfl rfl
  have l5' := hD2.ld.2.2.2.2.2
  have s2 : stA (t.set b (.cells true (cD { D with left := IntKind.i64.wrap (D.left - 1) }))) none (.ptr b 5) (.int .i64 (IntKind.i64.wrap (D.steps + 1))) = some (t.set b (.cells true (cD (spendD D)))) := by
    rw [st_one (by rfl), wr_own hD2.cells, if_pos ⟨by simp [cD], by rfl⟩, List.set_set]; rfl
  have fin : ∀ x : Bool, x = false → True := fun _ _ => trivial
  cases ca : D.armed with
  | false =>
    rw [ca] at l2
    simp only [r_files_Disk_spend, XX, CC, YY, Nat.reduceAdd, Nat.reduceSub, Nat.reduceLeDiff, Nat.reduceLT, Nat.reduceEqDiff, reduceIte, ↓reduceIte, Nat.reduceBEq, l2, gv_tf, l3, s1, l5', s2]
    exact .inl ⟨rfl, rfl⟩
  | true =>
    rw [ca] at l2
    have hz : (D.left == 0) = false := by simp; exact fun h => hn ⟨ca, h⟩
    simp only [r_files_Disk_spend, XX, CC, YY, Nat.reduceAdd, Nat.reduceSub, Nat.reduceLeDiff, Nat.reduceLT, Nat.reduceEqDiff, reduceIte, ↓reduceIte, Nat.reduceBEq, l2, gv_tt, l3, hz, s1, l5', s2]
    exact .inl ⟨rfl, rfl⟩

/-- a new disk -/
def newD (mb : Nat) : Dsk := ⟨false, false, 0, 0, 0, mb, 0, []⟩
theorem mkm_r (t : St) : xtA t .mkm [] = some (.map t.length, t ++ [.map [] 0]) := rfl
theorem new_r (t : St) : Run T f_files_New [] t fun v t' => v = .ptr (t.length + 1) 0 ∧ t' = t ++ [.map [] 0, .cells true (cD (newD t.length))] := by
  refine run_body (F := r_files_New) (has rfl) (by simp [r_files_New]) ?_
  have hf : fillA [AV.nilm, .bool false, .bool false, .int .i64 0, .int .i64 0, .int .i64 0] [(0, 1, .map t.length)] = some (cD (newD t.length)) := rfl
  have hb : boxA (some 6) (.agg (cD (newD t.length))) = some (cD (newD t.length)) := rfl
  simp only [r_files_New, XX, CC, YY, Nat.reduceAdd, Nat.reduceSub, Nat.reduceLeDiff, Nat.reduceLT, Nat.reduceEqDiff, reduceIte, ↓reduceIte, Nat.reduceBEq, mkm_r, hf, hb]
  exact .inl ⟨by simp, by simp; rfl⟩
theorem new_at (t : St) : DAt (t ++ [.map [] 0, .cells true (cD (newD t.length))]) t.length (t.length + 1) (newD t.length) :=
  ⟨by omega, by simp, Nat.le_refl _, by simp [newD], by simp [newD], by simp [newD], by simp [newD]⟩
end Go.Ev

/-! The disk: Append, where no power goes. -/
namespace Go.Ev
set_option linter.unusedVariables false
set_option linter.unusedSimpArgs false
open Go.Ev.So Go.Proofs

def updF (name : ByteArray) (g : Fil → Fil) (f : Fil × Nat) : Fil × Nat := if name = f.1.name then (g f.1, f.2) else f
/-- a file changed -/
def setF (D : Dsk) (name : ByteArray) (g : Fil → Fil) : Dsk := { D with fs := D.fs.map (updF name g) }
theorem nodup_eq {fs : List (Fil × Nat)} (h : (fs.map (·.1.name)).Nodup) {a b : Fil × Nat} (ha : a ∈ fs) (hb : b ∈ fs) (e : a.1.name = b.1.name) : a = b := by
  induction fs with
  | nil => simp at ha
  | cons x fs ih =>
    rw [List.map_cons, List.nodup_cons] at h
    rcases List.mem_cons.1 ha with r1 | r1
    · rcases List.mem_cons.1 hb with r2 | r2
      · rw [r1, r2]
      · exfalso; apply h.1; rw [← r1, e]; exact List.mem_map_of_mem r2
    · rcases List.mem_cons.1 hb with r2 | r2
      · exfalso; apply h.1; rw [← r2, ← e]; exact List.mem_map_of_mem r1
      · exact ih h.2 r1 r2
theorem nodup_fb {fs : List (Fil × Nat)} (h : (fs.map (·.1.fb)).Nodup) {a b : Fil × Nat} (ha : a ∈ fs) (hb : b ∈ fs) (e : a.1.fb = b.1.fb) : a = b := by
  induction fs with
  | nil => simp at ha
  | cons x fs ih =>
    rw [List.map_cons, List.nodup_cons] at h
    rcases List.mem_cons.1 ha with r1 | r1
    · rcases List.mem_cons.1 hb with r2 | r2
      · rw [r1, r2]
      · exfalso; apply h.1; rw [← r1, e]; exact List.mem_map_of_mem r2
    · rcases List.mem_cons.1 hb with r2 | r2
      · exfalso; apply h.1; rw [← r2, ← e]; exact List.mem_map_of_mem r1
      · exact ih h.2 r1 r2
/-- A file's block is written. -/
theorem DAt.setF {t : St} {n b : Nat} {D : Dsk} (h : DAt t n b D) {name : ByteArray} {f : Fil} (hg : getF D name = some f) (g : Fil → Fil) (hn : ∀ x, (g x).name = x.name) (hb : ∀ x, (g x).fb = x.fb) :
    DAt (t.set f.fb (.cells true (cF (g f)))) n b (setF D name g) := by
  obtain ⟨k, hk, hfn⟩ := getF_mem hg
  have hlt := (List.getElem?_eq_some_iff.1 (h.file _ hk).2).1
  have ha := h.apart
  simp only [List.nodup_cons, List.mem_cons, not_or, List.mem_map, not_exists, not_and] at ha
  have hent : (D.fs.map (updF name g)).map entF = D.fs.map entF := by
    rw [List.map_map]
    apply List.map_congr_left
    intro x _
    simp only [Function.comp, updF]
    split
    · simp only [entF, hn, hb]
    · rfl
  have hfb : (D.fs.map (updF name g)).map (·.1.fb) = D.fs.map (·.1.fb) := by
    rw [List.map_map]
    apply List.map_congr_left
    intro x _
    simp only [Function.comp, updF]
    split
    · simp only [hb]
    · rfl
  have hnm : (D.fs.map (updF name g)).map (·.1.name) = D.fs.map (·.1.name) := by
    rw [List.map_map]
    apply List.map_congr_left
    intro x _
    simp only [Function.comp, updF]
    split
    · simp only [hn]
    · rfl
  refine ⟨h.low, ?_, h.mlow, ?_, ?_, ?_, ?_⟩
  · show _ = some (Blk.cells true (cD D))
    rw [List.getElem?_set, if_neg (ha.1.2 _ hk)]; exact h.cells
  · show _ = some (Blk.map ((D.fs.map (updF name g)).map entF) D.clock)
    rw [hent, List.getElem?_set, if_neg (show ¬ f.fb = (Ev.setF D name g).mb from ha.2.1 _ hk)]; exact h.map
  · intro x hx
    obtain ⟨y, hy, rfl⟩ := List.mem_map.1 hx
    unfold updF
    split
    · rename_i c
      have e := nodup_eq h.names hy hk (by rw [← c, hfn])
      subst e
      exact ⟨by rw [hb]; exact (h.file _ hy).1, by rw [hb]; exact key_set hlt⟩
    · rename_i c
      refine ⟨(h.file _ hy).1, ?_⟩
      rw [List.getElem?_set, if_neg (fun e => c (by rw [← nodup_fb ha.2.2 hk hy e, hfn]))]
      exact (h.file _ hy).2
  · show (b :: D.mb :: (D.fs.map (updF name g)).map (·.1.fb)).Nodup
    rw [hfb]; exact h.apart
  · show ((D.fs.map (updF name g)).map (·.1.name)).Nodup
    rw [hnm]; exact h.names

theorem set_sameL {α : Type} {l : List α} {i : Nat} {x : α} (h : l[i]? = some x) : l.set i x = l := by
  apply List.ext_getElem?
  intro j
  rw [List.getElem?_set]
  split
  · rename_i e
    subst e
    rw [if_pos (List.getElem?_eq_some_iff.1 h).1, h]
  · rfl
/-- The map is told a file that it holds. -/
theorem mup_same {t : St} {n b : Nat} {D : Dsk} (h : DAt t n b D) {name : ByteArray} {f : Fil} (hg : getF D name = some f) : xtA t (.mup .s) [.map D.mb, .str name, .ptr f.fb 0] = some (.undef, t) := by
  obtain ⟨r, h1, h2⟩ := find_ent name D.fs
  have hm : mapB t D.mb = some (D.fs.map entF, D.clock) := by unfold mapB; rw [h.map]
  show mupA t .s (.map D.mb) (.str name) (.ptr f.fb 0) = _
  unfold mupA
  simp only [hm, h1]
  unfold getF at hg
  cases r with
  | none => simp only at h2; rw [h2] at hg; cases hg
  | some x =>
    obtain ⟨i, v⟩ := x
    obtain ⟨fk, a1, a2, a3⟩ := h2
    rw [a1] at hg
    obtain rfl : fk.1 = f := by simpa using hg
    have hn : fk.1.name = name := by have := List.find?_some a1; simp at this; exact this.symm
    simp only
    have e : putM (D.fs.map entF) i (.str name) (.ptr fk.1.fb 0) = D.fs.map entF := by
      unfold putM
      rw [List.getElem?_map, a2]
      show (D.fs.map entF).set i (.str name, .ptr fk.1.fb 0, fk.2) = _
      rw [← hn]
      exact set_sameL (by rw [List.getElem?_map, a2]; rfl)
    rw [e, set_same h.map]
end Go.Ev

/-! The disk where the power goes: what is left of the files, and the store that holds it. -/
namespace Go.Ev
set_option linter.unusedVariables false
set_option linter.unusedSimpArgs false
open Go.Ev.So Go.Proofs

/-- how many bytes are kept -/
def keptF (keep : Int) (d : ByteArray) (safe : Int) : Int := if keep > 0 then safe + keep % ((d.size : Int) - safe + 1) else safe
def loseF (keep : Int) (f : Fil) : Fil := { f with data := f.data.extract 0 (keptF keep f.data f.safe).toNat, safe := keptF keep f.data f.safe }
/-- A file's bytes and safe ones are as they may be. -/
def FOk (d : ByteArray) (safe : Int) : Prop := 0 ≤ safe ∧ safe ≤ (d.size : Int) ∧ d.size ≤ 1048576
theorem kept_in {keep : Int} {d : ByteArray} {safe : Int} (h : FOk d safe) : safe ≤ keptF keep d safe ∧ keptF keep d safe ≤ (d.size : Int) := by
  unfold FOk at h
  unfold keptF
  split
  · have h1 := Int.emod_nonneg keep (b := (d.size : Int) - safe + 1) (by omega)
    have h2 := Int.emod_lt_of_pos keep (b := (d.size : Int) - safe + 1) (by omega)
    omega
  · omega
theorem extract_size {d : ByteArray} {n : Int} (h0 : 0 ≤ n) (h : n ≤ (d.size : Int)) : ((d.extract 0 n.toNat).size : Int) = n := by
  rw [ByteArray.size_extract]; omega
theorem lose_ok {keep : Int} {d : ByteArray} {safe : Int} (h : FOk d safe) : FOk (d.extract 0 (keptF keep d safe).toNat) (keptF keep d safe) := by
  obtain ⟨h1, h2⟩ := kept_in (keep := keep) h
  have h3 := h
  unfold FOk at h3
  have e := extract_size (d := d) (n := keptF keep d safe) (by omega) h2
  refine ⟨by omega, by omega, ?_⟩
  have : ((d.extract 0 (keptF keep d safe).toNat).size : Int) ≤ 1048576 := by rw [e]; omega
  omega
/-- A disk as the program makes it. -/
structure DOk (D : Dsk) : Prop where
  files : ∀ f ∈ D.fs, FOk f.1.data f.1.safe
  few : D.fs.length ≤ 16
  clock : ∀ f ∈ D.fs, f.2 < D.clock
  stamps : (D.fs.map (·.2)).Nodup

/-- the store behind the loss, of those files whose stamps p tells -/
def loseP (p : Nat → Bool) (keep : Int) : List (Fil × Nat) → St → St
  | [], s => s
  | f :: fs, s => loseP p keep fs (if p f.2 = true then s.set f.1.fb (.cells true (cF (loseF keep f.1))) else s)
theorem loseP_len {p : Nat → Bool} {keep : Int} : ∀ {fs : List (Fil × Nat)} {s : St}, (loseP p keep fs s).length = s.length
  | [], s => rfl
  | f :: fs, s => by
    rw [loseP, loseP_len]
    split <;> simp
theorem loseP_out {p : Nat → Bool} {keep : Int} : ∀ {fs : List (Fil × Nat)} {s : St} {i : Nat}, (∀ f ∈ fs, p f.2 = true → f.1.fb ≠ i) → (loseP p keep fs s)[i]? = s[i]?
  | [], s, i, h => rfl
  | f :: fs, s, i, h => by
    rw [loseP, loseP_out fun g hg => h g (List.mem_cons_of_mem _ hg)]
    split
    · rename_i c
      exact List.getElem?_set_ne (h f (List.mem_cons_self ..) c)
    · rfl
theorem loseP_in {p : Nat → Bool} {keep : Int} : ∀ {fs : List (Fil × Nat)} {s : St} {f : Fil × Nat}, (fs.map (·.1.fb)).Nodup → (∀ g ∈ fs, g.1.fb < s.length) → f ∈ fs → p f.2 = true → (loseP p keep fs s)[f.1.fb]? = some (.cells true (cF (loseF keep f.1)))
  | g :: fs, s, f, hn, hl, hf, hp => by
    rw [List.map_cons, List.nodup_cons] at hn
    rcases List.mem_cons.1 hf with rfl | hf
    · rw [loseP, loseP_out fun g hg _ e => hn.1 (by rw [← e]; exact List.mem_map_of_mem hg), if_pos hp, List.getElem?_set_self (hl _ (List.mem_cons_self ..))]
    · rw [loseP]
      refine loseP_in hn.2 ?_ hf hp
      intro x hx
      have := hl x (List.mem_cons_of_mem _ hx)
      split
      · simpa using this
      · exact this
/-- One file more. -/
theorem loseP_step {p q : Nat → Bool} {keep : Int} {fs : List (Fil × Nat)} {s : St} {f : Fil × Nat} (hn : (fs.map (·.1.fb)).Nodup) (hs : (fs.map (·.2)).Nodup) (hl : ∀ g ∈ fs, g.1.fb < s.length) (hf : f ∈ fs)
    (hq : ∀ k, q k = true ↔ (p k = true ∨ k = f.2)) : (loseP p keep fs s).set f.1.fb (.cells true (cF (loseF keep f.1))) = loseP q keep fs s := by
  apply List.ext_getElem?
  intro i
  by_cases hi : i = f.1.fb
  · subst hi
    rw [List.getElem?_set_self (by rw [loseP_len]; exact hl f hf), loseP_in hn hl hf ((hq _).2 (.inr rfl))]
  · rw [List.getElem?_set_ne (fun e => hi e.symm)]
    by_cases hex : ∃ g ∈ fs, q g.2 = true ∧ g.1.fb = i
    · obtain ⟨g, hg, hgq, rfl⟩ := hex
      rw [loseP_in hn hl hg hgq]
      rcases (hq _).1 hgq with h | h
      · exact loseP_in hn hl hg h
      · exfalso
        apply hi
        have : g = f := by
          obtain ⟨a, ha, rfl⟩ := List.getElem_of_mem hg
          obtain ⟨b, hb, rfl⟩ := List.getElem_of_mem hf
          have hpw := List.pairwise_iff_getElem.1 hs
          rcases Nat.lt_trichotomy a b with k | k | k
          · exact absurd (by rw [List.getElem_map, List.getElem_map]; exact h) (hpw a b (by simpa using ha) (by simpa using hb) k)
          · subst k; rfl
          · exact absurd (by rw [List.getElem_map, List.getElem_map]; exact h.symm) (hpw b a (by simpa using hb) (by simpa using ha) k)
        rw [this]
    · have h1 : ∀ g ∈ fs, q g.2 = true → g.1.fb ≠ i := fun g hg hgq e => hex ⟨g, hg, hgq, e⟩
      rw [loseP_out h1, loseP_out fun g hg hgp => h1 g hg ((hq _).2 (.inl hgp))]

/-- The power goes. -/
def loseD (D : Dsk) (keep : Int) : Dsk := { D with down := true, armed := false, fs := D.fs.map fun f => (loseF keep f.1, f.2) }
def loseS (s : St) (b : Nat) (D : Dsk) (keep : Int) : St := (loseP (fun _ => true) keep D.fs s).set b (.cells true (cD (loseD D keep)))
/-- What the loss of power comes to. -/
def LoseR (args : List AV) (s : St) (v : AV) (s' : St) : Prop := ∃ n b D keep, args = [.ptr b 0, .int .i64 keep] ∧ DAt s n b D ∧ DOk D ∧ v = .tup [] ∧ s' = loseS s b D keep
/-- The blocks of a disk. -/
def DFoot (b : Nat) (D : Dsk) (i : Nat) : Prop := i = b ∨ i = D.mb ∨ ∃ f ∈ D.fs, i = f.1.fb
/-- From disk D to disk D'. -/
structure DStep (n b : Nat) (D D' : Dsk) (t t' : St) : Prop where
  at_ : DAt t' n b D'
  ok : DOk D'
  len : t.length ≤ t'.length
  same : ∀ i, i < t.length → ¬ DFoot b D i → t'[i]? = t[i]?
  foot : ∀ i, DFoot b D' i → DFoot b D i ∨ t.length ≤ i
theorem DStep.refl {n b : Nat} {D : Dsk} {t : St} (h : DAt t n b D) (ho : DOk D) : DStep n b D D t t := ⟨h, ho, Nat.le_refl _, fun _ _ _ => rfl, fun _ h => .inl h⟩
theorem DFoot.lt {t : St} {n b : Nat} {D : Dsk} (h : DAt t n b D) {i : Nat} (hi : DFoot b D i) : i < t.length := by
  rcases hi with rfl | rfl | ⟨f, hf, rfl⟩
  · exact (List.getElem?_eq_some_iff.1 h.cells).1
  · exact (List.getElem?_eq_some_iff.1 h.map).1
  · exact (List.getElem?_eq_some_iff.1 (h.file f hf).2).1
theorem DFoot.ge {t : St} {n b : Nat} {D : Dsk} (h : DAt t n b D) {i : Nat} (hi : DFoot b D i) : n ≤ i := by
  rcases hi with rfl | rfl | ⟨f, hf, rfl⟩
  · exact h.low
  · exact h.mlow
  · exact (h.file f hf).1
theorem DStep.trans {n b : Nat} {D D1 D2 : Dsk} {t t1 t2 : St} (h : DStep n b D D1 t t1) (k : DStep n b D1 D2 t1 t2) : DStep n b D D2 t t2 :=
  ⟨k.at_, k.ok, Nat.le_trans h.len k.len, fun i hi hn => by
    rw [k.same i (Nat.lt_of_lt_of_le hi h.len) fun hf => (h.foot i hf).elim hn (by omega)]
    exact h.same i hi hn, fun i hi => by
    have := h.len
    rcases k.foot i hi with e | e
    · exact h.foot i e
    · exact .inr (by omega)⟩
/-- Where other blocks are written. -/
theorem DAt.other {t t' : St} {n b : Nat} {D : Dsk} (h : DAt t n b D) (hs : ∀ i, DFoot b D i → t'[i]? = t[i]?) : DAt t' n b D :=
  ⟨h.low, by rw [hs b (.inl rfl)]; exact h.cells, h.mlow, by rw [hs _ (.inr (.inl rfl))]; exact h.map, fun f hf => ⟨(h.file f hf).1, by rw [hs _ (.inr (.inr ⟨f, hf, rfl⟩))]; exact (h.file f hf).2⟩, h.apart, h.names⟩
theorem DOk.same {D D' : Dsk} (h : DOk D) (hc : D'.clock = D.clock) (hf : D'.fs = D.fs) : DOk D' :=
  ⟨by rw [hf]; exact h.files, by rw [hf]; exact h.few, by rw [hf, hc]; exact h.clock, by rw [hf]; exact h.stamps⟩

theorem lose_step {t : St} {n b : Nat} {D : Dsk} (h : DAt t n b D) (ho : DOk D) (keep : Int) : DStep n b D (loseD D keep) t (loseS t b D keep) := by
  have ha := h.apart
  simp only [List.nodup_cons, List.mem_cons, not_or, List.mem_map, not_exists, not_and] at ha
  have hl : ∀ g ∈ D.fs, g.1.fb < t.length := fun g hg => (List.getElem?_eq_some_iff.1 (h.file g hg).2).1
  have hbl := (List.getElem?_eq_some_iff.1 h.cells).1
  have hmap : ∀ {β : Type} (k : Fil × Nat → β), (∀ f : Fil × Nat, k (loseF keep f.1, f.2) = k f) → (loseD D keep).fs.map k = D.fs.map k := fun k hk => by
    show (D.fs.map fun f => (loseF keep f.1, f.2)).map k = _
    rw [List.map_map]
    exact List.map_congr_left fun f _ => hk f
  refine ⟨⟨h.low, ?_, h.mlow, ?_, ?_, ?_, ?_⟩, ⟨?_, ?_, ?_, ?_⟩, ?_, ?_, ?_⟩
  · unfold loseS; rw [List.getElem?_set_self (by rw [loseP_len]; exact hbl)]
  · show (loseS t b D keep)[D.mb]? = some (Blk.map ((loseD D keep).fs.map entF) D.clock)
    unfold loseS
    rw [hmap entF fun f => rfl, List.getElem?_set_ne ha.1.1, loseP_out fun f hf _ => ha.2.1 f hf]
    exact h.map
  · intro f hf
    obtain ⟨g, hg, rfl⟩ := List.mem_map.1 hf
    refine ⟨(h.file g hg).1, ?_⟩
    show (loseS t b D keep)[g.1.fb]? = _
    unfold loseS
    rw [List.getElem?_set_ne (fun e => ha.1.2 g hg e.symm)]
    exact loseP_in ha.2.2 hl hg rfl
  · show (b :: D.mb :: (loseD D keep).fs.map fun f => f.1.fb).Nodup
    rw [hmap (fun f => f.1.fb) fun f => rfl]; exact h.apart
  · rw [hmap (fun f => f.1.name) fun f => rfl]; exact h.names
  · intro f hf
    obtain ⟨g, hg, rfl⟩ := List.mem_map.1 hf
    exact lose_ok (ho.files g hg)
  · show (D.fs.map fun f => (loseF keep f.1, f.2)).length ≤ 16
    rw [List.length_map]; exact ho.few
  · intro f hf
    obtain ⟨g, hg, rfl⟩ := List.mem_map.1 hf
    exact ho.clock g hg
  · rw [hmap (fun f => f.2) fun f => rfl]; exact ho.stamps
  · unfold loseS; rw [List.length_set, loseP_len]; exact Nat.le_refl _
  · intro i _ hn
    unfold loseS
    rw [List.getElem?_set_ne (fun e => hn (.inl e.symm)), loseP_out fun f hf _ e => hn (.inr (.inr ⟨f, hf, e.symm⟩))]
  · rintro i (rfl | rfl | ⟨f, hf, rfl⟩)
    · exact .inl (.inl rfl)
    · exact .inl (.inr (.inl rfl))
    · obtain ⟨g, hg, rfl⟩ := List.mem_map.1 hf
      exact .inl (.inr (.inr ⟨g, hg, rfl⟩))
end Go.Ev

/-! For a function whose contract is proved apart: parts of its code, where a call starts, regions part by part. -/
namespace Go.Ev
set_option linter.unusedVariables false
set_option linter.unusedSimpArgs false
variable {P : Program} {E : Ex} {dd : List Deferred}

def cfst : Code → Code
  | .seq a _ => a
  | c => c
def csnd : Code → Code
  | .seq _ b => b
  | c => c
def cinn : Code → Code
  | .block _ c => c
  | .loop c => c
  | c => c
def cops : Code → Array Oper
  | .region _ ops _ => ops
  | _ => #[]
def oper0 : Oper := { dst := none, op := .alloc 0, type := 0, pos := "", after := #[], guard := none }
def copN (c : Code) (i : Nat) : Oper := ((cops c)[i]?).getD oper0

/-- The start of a call. -/
theorem rel_start {m : Inj} {s : St} {w : World} (hS : Sim m s w) {args : List AV} {vs : Array Value} (hv : VRs m args vs.toList) {N : Nat} (hlen : args.length ≤ N) : Rel [] m s w N args s { tmps := vs ++ Array.replicate (N - vs.size) undef, defers := [] } w := by
  have hvl : vs.size = args.length := by rw [← Array.length_toList]; exact VRs.length hv
  refine ⟨m, hS, ?_, Goes.refl _ _ _, by simp; omega, rfl⟩
  intro t
  unfold Env.get
  by_cases ht : t < args.length
  · obtain ⟨v, hv1, hv2⟩ := VRs.get hv (i := t) (a := args[t]) (by simp [ht])
    have e1 : args.getD t .undef = args[t] := by simp [List.getD_eq_getElem?_getD, ht]
    rw [e1]
    have e2 : (vs ++ Array.replicate (N - vs.size) undef).getD t undef = v := by
      rw [Array.getD_eq_getD_getElem?, Array.getElem?_append_left (by omega), ← Array.getElem?_toList, hv1]; rfl
    rw [e2]
    exact hv2
  · have e1 : args.getD t AV.undef = .undef := by rw [List.getD_eq_getElem?_getD, List.getElem?_eq_none (by omega)]; rfl
    rw [e1]
    trivial

/-- A region in the order of its text, its first operations. -/
theorem reg_tail {X : Oracle} (hX : XS P X) (hE : ExOK P E) {ops : Array Oper} {N : Nat} {Q : Exit → Act → World → Prop} {k : Env → St → Prop} {m0 : Inj} {s0 : St} {w0 : World} {l2 : List Nat}
    (hQ : ∀ e s a w, k e s → Rel dd m0 s0 w0 N e s a w → wpOps P ops Q l2 a w) : ∀ (l : List Nat) (rs : List ROp), l.length = rs.length → (∀ (j i : Nat) (r : ROp), l[j]? = some i → rs[j]? = some r → ∃ o, ops[i]? = some o ∧ compR1 P E N ops o = some r) →
    ∀ (e : Env) (s : St) (a : Act) (w : World), Rel dd m0 s0 w0 N e s a w → opsA X rs e s k → wpOps P ops Q (l ++ l2) a w
  | [], rs, hlen, hc, e, s, a, w, hrel, h => by
    have : rs = [] := by simpa using hlen.symm
    subst this
    exact hQ _ _ _ _ h hrel
  | i :: l, [], hlen, _, _, _, _, _, _, _ => by simp at hlen
  | i :: l, r :: rs, hlen, hc, e, s, a, w, ⟨m, hS, hR, hG, hN, hD⟩, h => by
    obtain ⟨o, ho, hcr⟩ := hc 0 i r rfl rfl
    obtain ⟨h1, h2, h3, h4⟩ := compR1_spec hcr
    have rest : ∀ v s' m' u w', opsA X rs (putO e r.dst v) s' k → Sim m' s' w' → Goes m s w m' s' w' → VR m' v u → wpOps P ops Q (l ++ l2) (a.put o.dst u) w' := by
      intro v s' m' u w' hk hS' hG' hv
      refine reg_tail hX hE hQ l rs (by simpa using hlen) (fun j i' r' hj hr => hc (j + 1) i' r' (by simpa using hj) (by simpa using hr)) _ s' _ w' ⟨m', hS', ?_, hG.trans hG', by rw [put_size]; exact hN, by rw [put_defers]; exact hD⟩ hk
      rw [h1]
      exact ER.putO (ER.mono hG'.le hR) hN h2 hv
    have runs : opA X r.op e s (fun v s' => opsA X rs (putO e r.dst v) s' k) → o.wp P a w (wpOps P ops Q (l ++ l2)) Q := by
      intro hr
      rcases h4 with h4 | h4
      · exact op_sound hX hE h4 hR hS hr rest
      · rw [h4] at hr; exact absurd hr (by simp [opA, pureA])
    simp only [List.cons_append, wpOps, ho]
    simp only [opsA] at h
    split at h
    · rename_i hg
      rw [hg] at h3
      rw [guard_none_run h3, if_pos rfl]
      exact .inl (runs h)
    · rename_i t want hg
      rw [hg] at h3
      split at h
      · rename_i hb
        rw [guard_run h3 (hR t) hb, if_pos rfl]
        exact .inl (runs h)
      · rename_i hb
        rw [guard_run h3 (hR t) hb, if_neg (by decide)]
        exact rest (.tup []) s m undef w h hS (Goes.refl _ _ _) ⟨#[], rfl, rfl⟩
      · exact h.elim
/-- One operation by itself. -/
theorem one_op {ops : Array Oper} {Q : Exit → Act → World → Prop} {i : Nat} {l : List Nat} {o : Oper} (ho : ops[i]? = some o) (hg : o.guard = none) {a : Act} {w w' : World} {u : Value} (h : (execOp a.eval o).run P w = .ok (.value u) w') (hk : wpOps P ops Q l (a.put o.dst u) w') :
    wpOps P ops Q (i :: l) a w := by
  have hw : Region.wanted o (yielded ops a.tmps) = true := by simp [Region.wanted, hg]
  simp only [wpOps, ho, hw, if_true]
  exact .inl (wp_value h hk)
theorem filt_lt {α : Type} {p q : α → Bool} : ∀ {l : List α}, (∀ x ∈ l, q x = true → p x = true) → ∀ {a : α}, a ∈ l → p a = true → q a = false → (l.filter q).length < (l.filter p).length
  | x :: l, h, a, ha, hp, hq => by
    have hle : ∀ (l : List α), (∀ x ∈ l, q x = true → p x = true) → (l.filter q).length ≤ (l.filter p).length := by
      intro l
      induction l with
      | nil => intro _; exact Nat.le_refl _
      | cons y l ih =>
        intro h
        have := ih fun x hx => h x (List.mem_cons_of_mem _ hx)
        simp only [List.filter_cons]
        cases c : q y with
        | true => rw [h y (List.mem_cons_self ..) c]; simp; omega
        | false => cases p y <;> simp <;> omega
    have hl := hle l fun x hx => h x (List.mem_cons_of_mem _ hx)
    simp only [List.filter_cons]
    rcases List.mem_cons.1 ha with rfl | ha
    · rw [hp, hq]; simp; omega
    · have := filt_lt (fun x hx => h x (List.mem_cons_of_mem _ hx)) ha hp hq
      cases c : q x with
      | true => rw [h x (List.mem_cons_self ..) c]; simp; omega
      | false => cases p x <;> simp <;> omega
/-- The end of a call. -/
theorem cq_drop {m0 m : Inj} {s s1 s' : St} {w w1 : World} {v : Value} {r : AV} (h0 : Sim m0 s w) (hS : Sim m s1 w1) (hG : Goes m0 s w m s1 w1) (hv : VR m r v) (g : Gc s r s1 r s') : CQ m0 s w (fun a t => a = r ∧ t = s') (.returned v) w1 := by
  obtain ⟨m2, g1, g2, g3⟩ := g.sound h0 hS hG hv
  exact ⟨r, s', m2, v, ⟨rfl, rfl⟩, rfl, g1, g2, g3⟩
end Go.Ev

/-! The loss of power: the program's function comes to it, in whatever order the files come. -/
namespace Go.Ev
set_option linter.unusedVariables false
set_option linter.unusedSimpArgs false
open Go.Ev.So Go.Proofs
open Go.ChangeMaps (setBlock)

def RC.a1 : RC → RC
  | .seq a _ => a
  | c => c
def RC.a2 : RC → RC
  | .seq _ b => b
  | c => c
def RC.a0 : RC → RC
  | .block _ c => c
  | .loop c => c
  | c => c
noncomputable def lzC : Code := Tryd.f33.body.getD .skip
noncomputable def lzX : Code := cinn (cinn (csnd (cfst lzC)))
noncomputable def lzR0 : Code := cfst (cfst lzC)
noncomputable def lzR1 : Code := cfst lzX
noncomputable def lzR2 : Code := cfst (cinn (csnd (csnd lzX)))
noncomputable def lzB : Code := csnd (cinn (csnd (csnd lzX)))
noncomputable def lzE : Code := csnd lzC
theorem lz_body : Tryd.f33.body = some (.seq (.seq (.region 0 (cops lzR0) false) (.block 0 (.loop (.seq (.region 1 (cops lzR1) false) (.seq (.cond (.tmp 12) .skip (.exit 0)) (.block 1 (.seq (.region 2 (cops lzR2) false) lzB))))))) lzE) := by kernel_rfl
def rzX : RC := r_files_Disk_lose.body.a1.a2.a0.a0
def rzB : RC := rzX.a2.a2.a0.a2
def rzE : RC := r_files_Disk_lose.body.a2
theorem lz_cB : compC Tryd.prog ex0 55 lzB = some rzB := by kernel_rfl
theorem lz_cE : compC Tryd.prog ex0 55 lzE = some rzE := by kernel_rfl
theorem lz_o04 : (cops lzR0)[4]? = some (copN lzR0 4) ∧ (copN lzR0 4).op = Op.range 52 (.tmp 9) ∧ (copN lzR0 4).dst = some 10 ∧ (copN lzR0 4).guard = none ∧ (cops lzR0).size = 5 := ⟨by kernel_rfl, by kernel_rfl, by kernel_rfl, by kernel_rfl, by kernel_rfl⟩
theorem lz_o10 : (cops lzR1)[0]? = some (copN lzR1 0) ∧ (copN lzR1 0).op = Op.next (.tmp 10) false ∧ (copN lzR1 0).dst = some 11 ∧ (copN lzR1 0).guard = none ∧ (cops lzR1).size = 2 := ⟨by kernel_rfl, by kernel_rfl, by kernel_rfl, by kernel_rfl, by kernel_rfl⟩
theorem lz_o20 : (cops lzR2)[0]? = some (copN lzR2 0) ∧ (copN lzR2 0).op = Op.entry (.tmp 10) ∧ (copN lzR2 0).dst = some 13 ∧ (copN lzR2 0).guard = none ∧ (cops lzR2).size = 3 := ⟨by kernel_rfl, by kernel_rfl, by kernel_rfl, by kernel_rfl, by kernel_rfl⟩
theorem lz_map : Tryd.prog.underlying 52 = some (.map 9 55) := by kernel_rfl
def rops0 : List ROp := [⟨some 6, none, .mv (.t 0)⟩, ⟨some 7, none, .nck (.t 6)⟩, ⟨some 8, none, .off 0 (.t 7)⟩, ⟨some 9, none, .ld none (.t 8)⟩]
theorem lz_r0 : compR1 Tryd.prog ex0 55 (cops lzR0) (copN lzR0 0) = some ⟨some 6, none, .mv (.t 0)⟩ ∧ compR1 Tryd.prog ex0 55 (cops lzR0) (copN lzR0 1) = some ⟨some 7, none, .nck (.t 6)⟩ ∧
    compR1 Tryd.prog ex0 55 (cops lzR0) (copN lzR0 2) = some ⟨some 8, none, .off 0 (.t 7)⟩ ∧ compR1 Tryd.prog ex0 55 (cops lzR0) (copN lzR0 3) = some ⟨some 9, none, .ld none (.t 8)⟩ := ⟨by kernel_rfl, by kernel_rfl, by kernel_rfl, by kernel_rfl⟩
theorem lz_g0 : (cops lzR0)[0]? = some (copN lzR0 0) ∧ (cops lzR0)[1]? = some (copN lzR0 1) ∧ (cops lzR0)[2]? = some (copN lzR0 2) ∧ (cops lzR0)[3]? = some (copN lzR0 3) := ⟨by kernel_rfl, by kernel_rfl, by kernel_rfl, by kernel_rfl⟩
theorem lz_r1 : (cops lzR1)[1]? = some (copN lzR1 1) ∧ compR1 Tryd.prog ex0 55 (cops lzR1) (copN lzR1 1) = some ⟨some 12, none, .ext 0 (.t 11)⟩ := ⟨by kernel_rfl, by kernel_rfl⟩
theorem lz_r2 : (cops lzR2)[1]? = some (copN lzR2 1) ∧ (cops lzR2)[2]? = some (copN lzR2 2) ∧ compR1 Tryd.prog ex0 55 (cops lzR2) (copN lzR2 1) = some ⟨some 14, none, .ext 1 (.t 13)⟩ ∧ compR1 Tryd.prog ex0 55 (cops lzR2) (copN lzR2 2) = some ⟨some 5, none, .mv (.t 14)⟩ := ⟨by kernel_rfl, by kernel_rfl, by kernel_rfl, by kernel_rfl⟩

set_option maxHeartbeats 2000000 in
/-- One file's loss. -/
theorem lz_file (t : St) (f : Fil) (keep : Int) (e : Env) (hf : FOk f.data f.safe) (ht : t[f.fb]? = some (.cells true (cF f))) (g1 : e.get 1 = .int .i64 keep) (g5 : e.get 5 = .ptr f.fb 0) :
    awp (Run T0) rzB (fun x e' t' => x = .nrm ∧ t' = t.set f.fb (.cells true (cF (loseF keep f))) ∧ e'.get 0 = e.get 0 ∧ e'.get 1 = e.get 1 ∧ e'.get 10 = e.get 10) e t := by
  have hlt := (List.getElem?_eq_some_iff.1 ht).1
  have l0 : ldA t none (.ptr f.fb 0) = some (.str f.data) := by rw [ld_own ht]; rfl
  have l1 : ldA t none (.ptr f.fb (0 + 1)) = some (.int .i64 f.safe) := by rw [ld_own ht]; rfl
  obtain ⟨k1, k2⟩ := kept_in (keep := keep) hf
  have hf' := hf
  unfold FOk at hf'
  have hsl : slsA (.str f.data) none (some (.int .i64 (keptF keep f.data f.safe))) = some (.str (f.data.extract 0 (keptF keep f.data f.safe).toNat)) := by
    simp only [slsA, boundA]
    rw [if_pos (by omega)]
  have em : keep > 0 ∨ ¬ keep > 0 := Classical.em _
  rcases em with c | c
  · have w1 : IntKind.i64.wrap ((f.data.size : Int) - f.safe) = (f.data.size : Int) - f.safe := w64_in (by omega) (by omega)
    have w2 : IntKind.i64.wrap ((f.data.size : Int) - f.safe + 1) = (f.data.size : Int) - f.safe + 1 := w64_in (by omega) (by omega)
    have hrem : binA .rem (.int .i64 keep) (.int .i64 ((f.data.size : Int) - f.safe + 1)) = some (.int .i64 (keep % ((f.data.size : Int) - f.safe + 1))) := by
      simp only [binA]
      rw [if_pos ⟨trivial, by omega⟩, Int.tmod_eq_emod_of_nonneg (by omega)]
    have hk0 : f.safe + keep % ((f.data.size : Int) - f.safe + 1) = keptF keep f.data f.safe := by unfold keptF; rw [if_pos c]
    have w3 : IntKind.i64.wrap (f.safe + keep % ((f.data.size : Int) - f.safe + 1)) = keptF keep f.data f.safe := by rw [hk0]; exact w64_in (by omega) (by omega)
    have s1 : stA t none (.ptr f.fb (0 + 1)) (.int .i64 (keptF keep f.data f.safe)) = some (t.set f.fb (.cells true (cF { f with safe := keptF keep f.data f.safe }))) := by
      rw [st_one (by rfl), wr_own ht, if_pos ⟨by simp [cF], by rfl⟩]; rfl
    have ht2 : (t.set f.fb (.cells true (cF { f with safe := keptF keep f.data f.safe })))[f.fb]? = some (.cells true (cF { f with safe := keptF keep f.data f.safe })) := key_set hlt
    have l0' : ldA (t.set f.fb (.cells true (cF { f with safe := keptF keep f.data f.safe }))) none (.ptr f.fb 0) = some (.str f.data) := by rw [ld_own ht2]; rfl
    have l1' : ldA (t.set f.fb (.cells true (cF { f with safe := keptF keep f.data f.safe }))) none (.ptr f.fb (0 + 1)) = some (.int .i64 (keptF keep f.data f.safe)) := by rw [ld_own ht2]; rfl
    have s2 : stA (t.set f.fb (.cells true (cF { f with safe := keptF keep f.data f.safe }))) none (.ptr f.fb 0) (.str (f.data.extract 0 (keptF keep f.data f.safe).toNat)) = some (t.set f.fb (.cells true (cF (loseF keep f)))) := by
      rw [st_one (by rfl), wr_own ht2, if_pos ⟨by simp [cF], by rfl⟩, List.set_set]; rfl
    simp only [rzB, rzX, RC.a0, RC.a1, RC.a2, r_files_Disk_lose, XX, CC, YY, Nat.reduceAdd, Nat.reduceSub, Nat.reduceLeDiff, Nat.reduceLT, Nat.reduceEqDiff, reduceIte, ↓reduceIte, Nat.reduceBEq, g1, dec_t c]
    refine drw_in [] rfl ?_
    simp only [List.append_nil, DD, CC, YY, Nat.reduceAdd, Nat.reduceSub, Nat.reduceLeDiff, Nat.reduceLT, Nat.reduceEqDiff, reduceIte, ↓reduceIte, Nat.reduceBEq, g1, g5, l0, l1, w1, w2, hrem, w3, s1]
    refine drw_in [] rfl ?_
    simp only [List.append_nil, DD, CC, YY, Nat.reduceAdd, Nat.reduceSub, Nat.reduceLeDiff, Nat.reduceLT, Nat.reduceEqDiff, reduceIte, ↓reduceIte, Nat.reduceBEq, g1, g5, l0', l1', hsl, s2]
    all_goals (refine ⟨trivial, trivial, ?_, ?_, ?_⟩ <;> first | trivial | rfl)
  · have hk0 : keptF keep f.data f.safe = f.safe := by unfold keptF; rw [if_neg c]
    rw [hk0] at hsl
    have s2 : stA t none (.ptr f.fb 0) (.str (f.data.extract 0 f.safe.toNat)) = some (t.set f.fb (.cells true (cF (loseF keep f)))) := by
      rw [st_one (by rfl), wr_own ht, if_pos ⟨by simp [cF], by rfl⟩]
      unfold loseF
      rw [hk0]; rfl
    simp only [rzB, rzX, RC.a0, RC.a1, RC.a2, r_files_Disk_lose, XX, CC, YY, Nat.reduceAdd, Nat.reduceSub, Nat.reduceLeDiff, Nat.reduceLT, Nat.reduceEqDiff, reduceIte, ↓reduceIte, Nat.reduceBEq, g1, dec_f c]
    refine drw_in [] rfl ?_
    simp only [List.append_nil, DD, CC, YY, Nat.reduceAdd, Nat.reduceSub, Nat.reduceLeDiff, Nat.reduceLT, Nat.reduceEqDiff, reduceIte, ↓reduceIte, Nat.reduceBEq, g1, g5, l0, l1, hsl, s2]
    all_goals (refine ⟨trivial, trivial, ?_, ?_, ?_⟩ <;> first | trivial | rfl)

/-- The iterator over a map. -/
def iterO (c clock : Nat) (seen : Array Nat) : Obj := .mapIter (some c) clock seen clock
/-- Where the loop stands: some files are lost. -/
structure LzI (n b : Nat) (D : Dsk) (keep : Int) (s : St) (m0 : Inj) (w0 : World) (c r0 : Nat) (p : Nat → Bool) (seen : Array Nat) (e : Env) (m : Inj) (a : Act) (w : World) : Prop where
  sim : Sim m (loseP p keep D.fs s ++ [.obj (iterO c D.clock seen)]) w
  er : ER m e a
  goes : Goes m0 s w0 m (loseP p keep D.fs s ++ [.obj (iterO c D.clock seen)]) w
  size : a.tmps.size = 55
  defers : a.defers = []
  g0 : e.get 0 = .ptr b 0
  g1 : e.get 1 = .int .i64 keep
  g10 : e.get 10 = .ptr s.length 0
  it : m s.length = some ⟨r0, 0, 0⟩
  mp : ∃ d z, m D.mb = some ⟨c, d, z⟩
section
variable {n b : Nat} {D : Dsk} {keep : Int} {s : St} {m0 : Inj} {w0 : World} {c r0 : Nat} {p : Nat → Bool} {seen : Array Nat} {e : Env} {m : Inj} {a : Act} {w : World}
theorem lose_map (hD : DAt s n b D) (p : Nat → Bool) : (loseP p keep D.fs s)[D.mb]? = some (.map (D.fs.map entF) D.clock) := by
  have ha := hD.apart
  simp only [List.nodup_cons, List.mem_cons, not_or, List.mem_map, not_exists, not_and] at ha
  rw [loseP_out fun f hf _ => ha.2.1 f hf]; exact hD.map
theorem MR.mem {m : Inj} : ∀ {es : List (AV × AV × Nat)} {cs : List MapEntry}, MR m es cs → ∀ {x : MapEntry}, x ∈ cs → ∃ k v b, (k, v, b) ∈ es ∧ VR m k x.key ∧ VR m v x.val ∧ x.born = b
  | [], _, h, x, hx => by rw [show _ = [] from h] at hx; simp at hx
  | (k, v, b) :: es, _, ⟨y, r, rfl, h1, h2, h3, h⟩, x, hx => by
    rcases List.mem_cons.1 hx with rfl | hx
    · exact ⟨k, v, b, by simp, h1, h2, h3⟩
    · obtain ⟨k', v', b', g1, g2⟩ := h.mem hx
      exact ⟨k', v', b', by simp [g1], g2⟩
theorem MR.has {m : Inj} : ∀ {es : List (AV × AV × Nat)} {cs : List MapEntry}, MR m es cs → ∀ {k v : AV} {b : Nat}, (k, v, b) ∈ es → ∃ x ∈ cs, VR m k x.key ∧ VR m v x.val ∧ x.born = b
  | (k, v, b) :: es, _, ⟨y, r, rfl, h1, h2, h3, h⟩, k', v', b', hx => by
    rcases List.mem_cons.1 hx with e | hx
    · cases e; exact ⟨y, by simp, h1, h2, h3⟩
    · obtain ⟨x, g1, g2⟩ := h.has hx
      exact ⟨x, by simp [g1], g2⟩
theorem MR.born {m : Inj} : ∀ {es : List (AV × AV × Nat)} {cs : List MapEntry}, MR m es cs → cs.map (·.born) = es.map (·.2.2)
  | [], _, h => by rw [show _ = [] from h]; rfl
  | (k, v, b) :: es, _, ⟨y, r, rfl, h1, h2, h3, h⟩ => by simp [h3, h.born]
/-- The map and the iterator as the model has them. -/
theorem LzI.heap (hD : DAt s n b D) (I : LzI n b D keep s m0 w0 c r0 p seen e m a w) : ∃ cs : Array MapEntry, w.heap[c]? = some (.map cs D.clock) ∧ MR m (D.fs.map entF) cs.toList ∧ w.heap[r0]? = some (iterO c D.clock seen) ∧ a.tmps.getD 10 undef = .pointer (some ⟨r0, 0, none⟩) := by
  obtain ⟨d, z, hm⟩ := I.mp
  have hml := (List.getElem?_eq_some_iff.1 hD.map).1
  obtain ⟨cs, h1, h2⟩ := map_obj I.sim hm (es := D.fs.map entF) (c := D.clock) (by rw [List.getElem?_append_left (by rw [loseP_len]; exact hml)]; exact lose_map hD _)
  obtain ⟨bb, o, h3, h4, h5⟩ := I.sim.at_ _ _ I.it
  have e1 : (loseP p keep D.fs s ++ [Blk.obj (iterO c D.clock seen)])[s.length]? = some (.obj (iterO c D.clock seen)) := by
    rw [List.getElem?_append_right (by rw [loseP_len]; exact Nat.le_refl _), loseP_len, Nat.sub_self]; rfl
  rw [e1] at h3
  cases h3
  have h5' : o = iterO c D.clock seen := h5
  subst h5'
  have h6 := I.er 10
  rw [I.g10] at h6
  obtain ⟨l, h7, h8⟩ := h6
  rw [I.it] at h7
  cases h7
  exact ⟨cs, h1, h2, h4, h8⟩
end
end Go.Ev

/-! The loss of power: the loop over the files, and the function's contract. -/
namespace Go.Ev
set_option linter.unusedVariables false
set_option linter.unusedSimpArgs false
open Go.Ev.So Go.Proofs
open Go.ChangeMaps (setBlock)
open Go.MapKept (heap_set)

noncomputable def lzXc : Code := .seq (.region 1 (cops lzR1) false) (.seq (.cond (.tmp 12) .skip (.exit 0)) (.block 1 (.seq (.region 2 (cops lzR2) false) lzB)))
section
variable {n b : Nat} {D : Dsk} {keep : Int} {s : St} {m0 : Inj} {w0 : World} {c r0 : Nat} {p : Nat → Bool} {seen : Array Nat} {e : Env} {m : Inj} {a : Act} {w : World}
/-- On from a place of the loop. -/
theorem LzI.on (I : LzI n b D keep s m0 w0 c r0 p seen e m a w) {p' : Nat → Bool} {seen' : Array Nat} {e2 : Env} {s2 : St} {a2 : Act} {w2 : World} (R : Rel [] m (loseP p keep D.fs s ++ [.obj (iterO c D.clock seen)]) w 55 e2 s2 a2 w2)
    (hs : s2 = loseP p' keep D.fs s ++ [.obj (iterO c D.clock seen')]) (g0 : e2.get 0 = e.get 0) (g1 : e2.get 1 = e.get 1) (g10 : e2.get 10 = e.get 10) : ∃ m2, LzI n b D keep s m0 w0 c r0 p' seen' e2 m2 a2 w2 := by
  subst hs
  obtain ⟨m2, hS, hR, hG, hN, hd⟩ := R
  obtain ⟨d, z, hm⟩ := I.mp
  exact ⟨m2, hS, hR, I.goes.trans hG, hN, hd, g0.trans I.g0, g1.trans I.g1, g10.trans I.g10, hG.le _ _ I.it, d, z, hG.le _ _ hm⟩
theorem LzI.rel (I : LzI n b D keep s m0 w0 c r0 p seen e m a w) {t : Nat} (ht : t < 55) {v : AV} {u : Value} (hv : VR m v u) : Rel [] m (loseP p keep D.fs s ++ [.obj (iterO c D.clock seen)]) w 55 (e.put t v) (loseP p keep D.fs s ++ [.obj (iterO c D.clock seen)]) (a.put (some t) u) w :=
  ⟨m, I.sim, ER.put I.er (by rw [I.size]; exact ht) hv, Goes.refl _ _ _, by rw [put_size]; exact I.size, by rw [put_defers]; exact I.defers⟩
/-- The iterator's step, in the store. -/
theorem LzI.step (I : LzI n b D keep s m0 w0 c r0 p seen e m a w) {w1 : World} (h1 : w1 = w ∨ w1 = w.drew) (hr : w.heap[r0]? = some (iterO c D.clock seen)) (k : Nat) :
    Sim m (loseP p keep D.fs s ++ [.obj (iterO c D.clock (seen.push k))]) (setBlock w1 r0 (iterO c D.clock (seen.push k))) ∧
      Goes m (loseP p keep D.fs s ++ [.obj (iterO c D.clock seen)]) w m (loseP p keep D.fs s ++ [.obj (iterO c D.clock (seen.push k))]) (setBlock w1 r0 (iterO c D.clock (seen.push k))) := by
  have hS1 : Sim m (loseP p keep D.fs s ++ [.obj (iterO c D.clock seen)]) w1 := by rcases h1 with rfl | rfl; exact I.sim; exact I.sim.heap rfl
  have hG1 : Goes m (loseP p keep D.fs s ++ [.obj (iterO c D.clock seen)]) w m (loseP p keep D.fs s ++ [.obj (iterO c D.clock seen)]) w1 := by
    rcases h1 with rfl | rfl
    · exact Goes.refl _ _ _
    · exact Goes.heap rfl rfl rfl rfl
  have hr1 : w1.heap[r0]? = some (iterO c D.clock seen) := by rcases h1 with rfl | rfl <;> exact hr
  have eset : ∀ x : Obj, (loseP p keep D.fs s ++ [Blk.obj (iterO c D.clock seen)]).set s.length (.obj x) = loseP p keep D.fs s ++ [Blk.obj x] := fun x => by
    rw [List.set_append_right _ _ (by rw [loseP_len]; exact Nat.le_refl _), loseP_len, Nat.sub_self]; rfl
  have eget : ∀ x : Obj, (loseP p keep D.fs s ++ [Blk.obj x])[s.length]? = some (.obj x) := fun x => by
    rw [List.getElem?_append_right (by rw [loseP_len]; exact Nat.le_refl _), loseP_len, Nat.sub_self]; rfl
  have nro : ∀ x : Obj, ¬ ro (loseP p keep D.fs s ++ [Blk.obj x]) s.length := by
    rintro x (h | ⟨cs, h⟩) <;> rw [eget] at h <;> cases h
  have := hS1.put I.it (nro _) (B := .obj (iterO c D.clock (seen.push k))) (by rw [eset]; exact nro _) (w' := setBlock w1 r0 (iterO c D.clock (seen.push k))) (fun c' hc => (heap_set hr1).2 c' hc) (by simp [setBlock]) rfl rfl rfl ⟨_, (heap_set hr1).1, rfl⟩
  rw [eset] at this
  exact ⟨this.1, hG1.trans this.2⟩

theorem lz_in {f : Fil × Nat} (hf : f ∈ D.fs) : (AV.str f.1.name, AV.ptr f.1.fb 0, f.2) ∈ D.fs.map entF := List.mem_map_of_mem (f := entF) hf
theorem lz_of {k v : AV} {bb : Nat} (h : (k, v, bb) ∈ D.fs.map entF) : ∃ f ∈ D.fs, k = .str f.1.name ∧ v = .ptr f.1.fb 0 ∧ bb = f.2 := by
  obtain ⟨f, hf, e⟩ := List.mem_map.1 h
  cases e
  exact ⟨f, hf, rfl, rfl, rfl⟩
theorem lz_keep (hD : DAt s n b D) {f : Fil × Nat} (hf : f ∈ D.fs) (hp : p f.2 = false) (x : Obj) : (loseP p keep D.fs s ++ [Blk.obj x])[f.1.fb]? = some (.cells true (cF f.1)) := by
  have ha := hD.apart
  simp only [List.nodup_cons] at ha
  have hlt := (List.getElem?_eq_some_iff.1 (hD.file f hf).2).1
  rw [List.getElem?_append_left (by rw [loseP_len]; exact hlt), loseP_out]
  · exact (hD.file f hf).2
  · intro g hg hpg e
    have := nodup_fb ha.2.2 hg hf e
    subst this
    rw [hp] at hpg; cases hpg

set_option maxHeartbeats 4000000 in
theorem lz_round (hD : DAt s n b D) (hO : DOk D) {Q : Exit → Act → World → Prop}
    (hQ : ∀ p seen e m a w, LzI n b D keep s m0 w0 c r0 p seen e m a w → (∀ k, p k = seen.contains k) → (∀ f ∈ D.fs, seen.contains f.2 = true) → Q (.exit 0) a w)
    (p : Nat → Bool) (seen : Array Nat) (e : Env) (m : Inj) (a : Act) (w : World) (hp : ∀ k, p k = seen.contains k) (I : LzI n b D keep s m0 w0 c r0 p seen e m a w)
    (next : ∀ f ∈ D.fs, seen.contains f.2 = false → ∀ (p' : Nat → Bool) (e' : Env) (m' : Inj) (a' : Act) (w' : World), (∀ k, p' k = (seen.push f.2).contains k) → LzI n b D keep s m0 w0 c r0 p' (seen.push f.2) e' m' a' w' → LoopW Tryd.prog lzXc Q a' w') :
    LoopW Tryd.prog lzXc Q a w := by
  obtain ⟨cs, h1, h2, h3, h4⟩ := I.heap hD
  have hold : ∀ x ∈ cs.toList, x.born < D.clock := fun x hx => by
    obtain ⟨k, v, bb, g1, _, _, g2⟩ := h2.mem hx
    obtain ⟨f, hf, _, _, rfl⟩ := lz_of g1
    rw [g2]; exact hO.clock f hf
  have ev10 : a.eval (.tmp 10) = .pointer (some ⟨r0, 0, none⟩) := h4
  refine loopW_of ?_
  unfold lzXc
  refine wp_seq ?_
  refine wp_region ?_
  rw [lz_o10.2.2.2.2]
  show wpOps _ _ _ [0, 1] a w
  rcases run_next_at (P := Tryd.prog) w (copN lzR1 0).type r0 c D.clock D.clock seen cs D.clock h3 h1 hold (Nat.le_refl _) with ⟨h0, hrun⟩ | ⟨x, hx, w1, hal, hrun⟩
  · -- nothing is left
    refine one_op lz_o10.1 lz_o10.2.2.2.1 (u := .tuple #[.bool false]) (w' := w) (by simp [execOp, lz_o10.2.1, ev10, hrun, Result.andThen]) ?_
    rw [lz_o10.2.2.1]
    refine reg_sound (dd := []) sound0 exok (k := fun e2 s2 => s2 = loseP p keep D.fs s ++ [.obj (iterO c D.clock seen)] ∧ e2.get 12 = .bool false ∧ e2.get 0 = e.get 0 ∧ e2.get 1 = e.get 1 ∧ e2.get 10 = e.get 10) ?_ [1] [⟨some 12, none, .ext 0 (.t 11)⟩] rfl ?_ _ _ _ _
      (I.rel (t := 11) (v := .tup [.bool false]) (by decide) ⟨#[.bool false], rfl, _, _, rfl, rfl, rfl⟩) ?_
    · rintro e2 s2 a2 w2 ⟨hs2, g12, g0, g1, g10⟩ R
      have e12 : a2.eval (.tmp 12) = .bool false := by
        obtain ⟨_, _, hR, _⟩ := R
        have := hR 12
        rw [g12] at this; exact this
      obtain ⟨m2, I2⟩ := I.on R hs2 g0 g1 g10
      refine wp_seq (wp_cond_false e12 (wp_exit ?_))
      refine hQ p seen e2 m2 a2 w2 I2 hp fun f hf => ?_
      obtain ⟨x, hx, _, _, hb⟩ := h2.has (lz_in hf)
      have := all_seen cs seen h0 x hx
      rwa [hb] at this
    · rintro j i r hj hr
      cases j with
      | zero => cases hj; cases hr; exact ⟨_, lz_r1.1, lz_r1.2⟩
      | succ j => simp at hj
    · simp only [XX, CC, YY, Nat.reduceAdd, Nat.reduceSub, Nat.reduceLeDiff, Nat.reduceLT, Nat.reduceEqDiff, reduceIte, ↓reduceIte, Nat.reduceBEq]
  · -- an entry
    obtain ⟨hxm, hxs⟩ := mem_left hx
    obtain ⟨k, v, bb, g1, vk, vv, hb⟩ := h2.mem hxm
    obtain ⟨f, hf, rfl, rfl, rfl⟩ := lz_of g1
    rw [hb] at hxs hrun
    obtain ⟨hS1, hG1⟩ := I.step hal h3 f.2
    refine one_op lz_o10.1 lz_o10.2.2.2.1 (u := .tuple #[.bool true, x.key, x.val]) (w' := setBlock w1 r0 (iterO c D.clock (seen.push f.2))) (by simp [execOp, lz_o10.2.1, ev10, hrun, Result.andThen]; rfl) ?_
    rw [lz_o10.2.2.1]
    have hvt : VR m (.tup [.bool true, .str f.1.name, .ptr f.1.fb 0]) (.tuple #[.bool true, x.key, x.val]) := ⟨#[.bool true, x.key, x.val], rfl, _, _, rfl, rfl, _, _, rfl, vk, _, _, rfl, vv, rfl⟩
    refine reg_sound (dd := []) sound0 exok (m0 := m) (s0 := loseP p keep D.fs s ++ [.obj (iterO c D.clock seen)]) (w0 := w) (N := 55) (k := fun e2 s2 => s2 = loseP p keep D.fs s ++ [.obj (iterO c D.clock (seen.push f.2))] ∧ e2.get 12 = .bool true ∧ e2.get 0 = e.get 0 ∧ e2.get 1 = e.get 1 ∧ e2.get 10 = e.get 10) ?_ [1] [⟨some 12, none, .ext 0 (.t 11)⟩] rfl ?_
      (e.put 11 (.tup [.bool true, .str f.1.name, .ptr f.1.fb 0])) (loseP p keep D.fs s ++ [.obj (iterO c D.clock (seen.push f.2))]) _ _ ⟨m, hS1, ER.put I.er (by rw [I.size]; decide) hvt, hG1, by rw [put_size]; exact I.size, by rw [put_defers]; exact I.defers⟩ ?_
    · rintro e2 s2 a2 w2 ⟨hs2, g12, g0, g1, g10⟩ R
      have e12 : a2.eval (.tmp 12) = .bool true := by
        obtain ⟨_, _, hR, _⟩ := R
        have := hR 12
        rw [g12] at this; exact this
      obtain ⟨m2, I2⟩ := I.on (p' := p) (seen' := seen.push f.2) R hs2 g0 g1 g10
      refine wp_seq (wp_cond_true e12 (wp_skip ?_))
      refine wp_block (wp_seq (wp_region ?_))
      rw [lz_o20.2.2.2.2]
      show wpOps _ _ _ [0, 1, 2] a2 w2
      obtain ⟨cs2, q1, q2, q3, q4⟩ := I2.heap hD
      obtain ⟨x2, hx2, _, vv2, hb2⟩ := q2.has (lz_in hf)
      obtain ⟨_, _, _, _, vk2, _, _⟩ := q2.mem hx2
      have hnd : (cs2.toList.map (·.born)).Nodup := by
        rw [q2.born, List.map_map]; exact hO.stamps
      have hent := run_entry_at (P := Tryd.prog) w2 r0 c D.clock seen cs2 D.clock x2 (by rw [hb2]; exact q3) q1 hx2 hnd
      have ev10' : a2.eval (.tmp 10) = .pointer (some ⟨r0, 0, none⟩) := q4
      refine one_op lz_o20.1 lz_o20.2.2.2.1 (u := .tuple #[x2.key, x2.val]) (w' := w2) (by simp [execOp, lz_o20.2.1, ev10', hent, Result.andThen]) ?_
      rw [lz_o20.2.2.1]
      have hvt2 : VR m2 (.tup [.undef, .ptr f.1.fb 0]) (.tuple #[x2.key, x2.val]) := ⟨#[x2.key, x2.val], rfl, _, _, rfl, trivial, _, _, rfl, vv2, rfl⟩
      refine reg_sound (dd := []) sound0 exok (k := fun e3 s3 => s3 = loseP p keep D.fs s ++ [.obj (iterO c D.clock (seen.push f.2))] ∧ e3.get 5 = .ptr f.1.fb 0 ∧ e3.get 0 = e2.get 0 ∧ e3.get 1 = e2.get 1 ∧ e3.get 10 = e2.get 10) ?_ [1, 2] [⟨some 14, none, .ext 1 (.t 13)⟩, ⟨some 5, none, .mv (.t 14)⟩] rfl ?_ _ _ _ _
        (I2.rel (t := 13) (v := .tup [.undef, .ptr f.1.fb 0]) (by decide) hvt2) ?_
      · rintro e3 s3 a3 w3 ⟨hs3, g5, g0', g1', g10'⟩ R3
        subst hs3
        refine code_sound (dd := []) sound0 exok mixed lzB rzB lz_cB _ _ ?_ e3 _ a3 w3 R3 (lz_file _ f.1 keep e3 (hO.files f hf) (lz_keep hD hf (by rw [hp]; exact hxs) _) (g1'.trans I2.g1) g5)
        rintro xe e4 s4 a4 w4 ⟨rfl, hs4, j0, j1, j10⟩ R4
        have ha := hD.apart
        simp only [List.nodup_cons] at ha
        have hl : ∀ g ∈ D.fs, g.1.fb < s.length := fun g hg => (List.getElem?_eq_some_iff.1 (hD.file g hg).2).1
        have hs5 : s4 = loseP (fun k => (seen.push f.2).contains k) keep D.fs s ++ [.obj (iterO c D.clock (seen.push f.2))] := by
          rw [hs4, List.set_append_left _ _ (by rw [loseP_len]; exact hl f hf)]
          congr 1
          refine loseP_step ha.2.2 hO.stamps hl hf fun k => ?_
          rw [contains_push, hp]
          simp only [Bool.or_eq_true, beq_iff_eq]
        obtain ⟨m5, I5⟩ := I2.on R4 hs5 (j0.trans g0') (j1.trans g1') (j10.trans g10')
        exact next f hf hxs _ e4 m5 a4 w4 (fun _ => rfl) I5
      · rintro j i r hj hr
        match j with
        | 0 => cases hj; cases hr; exact ⟨_, lz_r2.1, lz_r2.2.2.1⟩
        | 1 => cases hj; cases hr; exact ⟨_, lz_r2.2.1, lz_r2.2.2.2⟩
        | j + 2 => simp at hj
      · simp only [XX, CC, YY, Nat.reduceAdd, Nat.reduceSub, Nat.reduceLeDiff, Nat.reduceLT, Nat.reduceEqDiff, reduceIte, ↓reduceIte, Nat.reduceBEq]
    · rintro j i r hj hr
      cases j with
      | zero => cases hj; cases hr; exact ⟨_, lz_r1.1, lz_r1.2⟩
      | succ j => simp at hj
    · simp only [XX, CC, YY, Nat.reduceAdd, Nat.reduceSub, Nat.reduceLeDiff, Nat.reduceLT, Nat.reduceEqDiff, reduceIte, ↓reduceIte, Nat.reduceBEq]

set_option maxHeartbeats 4000000 in
theorem lz_loop (hD : DAt s n b D) (hO : DOk D) {Q : Exit → Act → World → Prop}
    (hQ : ∀ p seen e m a w, LzI n b D keep s m0 w0 c r0 p seen e m a w → (∀ k, p k = seen.contains k) → (∀ f ∈ D.fs, seen.contains f.2 = true) → Q (.exit 0) a w) :
    ∀ (d : Nat) (p : Nat → Bool) (seen : Array Nat) (e : Env) (m : Inj) (a : Act) (w : World), (D.fs.filter fun f => !seen.contains f.2).length ≤ d → (∀ k, p k = seen.contains k) → LzI n b D keep s m0 w0 c r0 p seen e m a w → LoopW Tryd.prog lzXc Q a w := by
  intro d
  induction d with
  | zero =>
    intro p seen e m a w hd hp I
    exact lz_round hD hO hQ p seen e m a w hp I fun f hf hs => by
      exfalso
      have : f ∈ D.fs.filter fun f => !seen.contains f.2 := by rw [List.mem_filter]; exact ⟨hf, by rw [hs]; rfl⟩
      have := List.length_pos_of_mem this
      omega
  | succ d ih =>
    intro p seen e m a w hd hp I
    refine lz_round hD hO hQ p seen e m a w hp I fun f hf hs p' e' m' a' w' hp' I' => ih p' (seen.push f.2) e' m' a' w' ?_ hp' I'
    have := filt_lt (p := fun g : Fil × Nat => !seen.contains g.2) (q := fun g => !(seen.push f.2).contains g.2) (l := D.fs) (fun x _ hx => by
      simp only [Bool.not_eq_true', contains_push, Bool.or_eq_false_iff] at hx ⊢; exact hx.1) hf (by rw [hs]; rfl) (by simp [contains_push])
    omega

set_option maxHeartbeats 4000000 in
theorem lz_end (hD : DAt s n b D) (x : Obj) (g0 : e.get 0 = .ptr b 0) :
    awp (Run T0) rzE (fun y e' t' => y = .nrm ∧ t' = loseS s b D keep ++ [.obj x]) e (loseP (fun _ => true) keep D.fs s ++ [.obj x]) := by
  have ha := hD.apart
  simp only [List.nodup_cons, List.mem_cons, not_or, List.mem_map, not_exists, not_and] at ha
  have hbl := (List.getElem?_eq_some_iff.1 hD.cells).1
  have hb : (loseP (fun _ => true) keep D.fs s ++ [Blk.obj x])[b]? = some (.cells true (cD D)) := by
    rw [List.getElem?_append_left (by rw [loseP_len]; exact hbl), loseP_out fun f hf _ => ha.1.2 f hf]; exact hD.cells
  generalize ht : loseP (fun _ => true) keep D.fs s ++ [Blk.obj x] = t at *
  have hlt := (List.getElem?_eq_some_iff.1 hb).1
  have s1 : stA t none (.ptr b (0 + 1)) (.bool true) = some (t.set b (.cells true (cD { D with down := true }))) := by
    rw [st_one (by rfl), wr_own hb, if_pos ⟨by simp [cD], by rfl⟩]; rfl
  have s2 : stA (t.set b (.cells true (cD { D with down := true }))) none (.ptr b (0 + 2)) (.bool false) = some (t.set b (.cells true (cD (loseD D keep)))) := by
    rw [st_one (by rfl), wr_own (key_set hlt), if_pos ⟨by simp [cD], by rfl⟩, List.set_set]; rfl
  have s2' : wrA (t.set b (.cells true (cD { D with down := true }))) b 2 [AV.bool false] = some (t.set b (.cells true (cD (loseD D keep)))) := by
    rw [wr_own (key_set hlt), if_pos ⟨by simp [cD], by rfl⟩, List.set_set]; rfl
  simp only [rzE, RC.a2, r_files_Disk_lose, XX, CC, YY, Nat.reduceAdd, Nat.reduceSub, Nat.reduceLeDiff, Nat.reduceLT, Nat.reduceEqDiff, reduceIte, ↓reduceIte, Nat.reduceBEq, g0, s1, s2, s2']
  rw [← ht, List.set_append_left _ _ (by rw [loseP_len]; exact hbl)]; rfl

theorem lz_gc (hD : DAt s n b D) (x : Obj) : Gc s (.tup []) (loseS s b D keep ++ [.obj x]) (.tup []) (loseS s b D keep) := by
  have hll : (loseS s b D keep).length = s.length := by unfold loseS; rw [List.length_set, loseP_len]
  have ha := hD.apart
  simp only [List.nodup_cons, List.mem_cons, not_or, List.mem_map, not_exists, not_and] at ha
  refine ⟨⟨[], [], ?_, rfl, List.nodup_nil, by simp, by simp [hll], ?_, rfl, by simp⟩⟩
  · rw [List.take_append_of_le_length (by omega), List.take_of_length_le (by omega), List.append_nil]
  · intro i bl hi h
    rw [List.getElem?_append_left (by omega)] at h
    have hf : ∀ j, j < s.length → keepF s.length [] (loseS s b D keep ++ [Blk.obj x]).length j = j := fun j hj => by unfold keepF; rw [if_pos hj]
    by_cases hib : i = b
    · subst hib
      unfold loseS at h
      rw [List.getElem?_set_self (by rw [loseP_len]; exact hi)] at h
      cases h
      right
      have hm := hf D.mb (List.getElem?_eq_some_iff.1 hD.map).1
      simp only [Blk.ren, cD, AV.rens, AV.ren]
      rw [show (loseD D keep).mb = D.mb from rfl, hm]
    · unfold loseS at h
      rw [List.getElem?_set_ne (fun e => hib e.symm)] at h
      by_cases hex : ∃ f ∈ D.fs, f.1.fb = i
      · obtain ⟨f, hfm, rfl⟩ := hex
        have hl : ∀ g ∈ D.fs, g.1.fb < s.length := fun g hg => (List.getElem?_eq_some_iff.1 (hD.file g hg).2).1
        rw [loseP_in ha.2.2 hl hfm rfl] at h
        cases h
        right
        rfl
      · left
        rw [loseP_out fun f hfm _ e => hex ⟨f, hfm, e⟩] at h
        exact h
end
theorem loseP_all {p : Nat → Bool} {keep : Int} : ∀ {fs : List (Fil × Nat)} {s : St}, (∀ f ∈ fs, p f.2 = true) → loseP p keep fs s = loseP (fun _ => true) keep fs s
  | [], s, h => rfl
  | f :: fs, s, h => by
    rw [loseP, loseP, if_pos (h f (List.mem_cons_self ..)), if_pos rfl]
    exact loseP_all fun g hg => h g (List.mem_cons_of_mem _ hg)
set_option maxHeartbeats 4000000 in
theorem lose_calls (args : List AV) (s : St) (v : AV) (s' : St) (hR : LoseR args s v s') (m : Inj) (w : World) (vs : Array Value) (hS : Sim m s w) (hv : VRs m args vs.toList) :
    Calls Tryd.prog f_files_Disk_lose vs w (CQ m s w fun a t => a = v ∧ t = s') := by
  obtain ⟨n, b, D, keep, rfl, hD, hO, rfl, rfl⟩ := hR
  have hml := (List.getElem?_eq_some_iff.1 hD.map).1
  refine calls_of_wp Tryd.func33 lz_body ?_
  have R0 := rel_start hS hv (N := 55) (by simp)
  refine wp_seq (wp_seq (wp_region ?_))
  rw [lz_o04.2.2.2.2]
  show wpOps _ _ _ ([0, 1, 2, 3] ++ [4]) _ _
  refine reg_tail (dd := []) sound0 exok (k := fun e2 s2 => s2 = s ∧ e2.get 9 = .map D.mb ∧ e2.get 0 = .ptr b 0 ∧ e2.get 1 = .int .i64 keep) ?_ [0, 1, 2, 3] rops0 rfl ?_ _ _ _ _ R0 ?_
  · rintro e2 s2 a2 w2 ⟨rfl, g9, g0, g1⟩ R2
    obtain ⟨m2, hS2, hE2, hG2, hN2, hd2⟩ := R2
    have h9 := hE2 9
    rw [g9] at h9
    obtain ⟨l, hl, hv9⟩ := h9
    have ev9 : a2.eval (.tmp 9) = .map (some l.c) := hv9
    obtain ⟨cs, q1, q2⟩ := map_obj hS2 hl hD.map
    refine one_op lz_o04.1 lz_o04.2.2.2.1 (u := .pointer (some ⟨w2.heap.size, 0, none⟩)) (w' := w2.alloc (iterO l.c D.clock #[])) (by simp [execOp, lz_o04.2.1, ev9, run_range_map w2 _ _ _ _ _ _ lz_map q1, Result.andThen]; rfl) ?_
    rw [lz_o04.2.2.1]
    obtain ⟨hS3, hG3⟩ := hS2.lay (B := .obj (iterO l.c D.clock #[])) (o := iterO l.c D.clock #[]) (z := 0) (w' := w2.alloc (iterO l.c D.clock #[])) (fun _ _ => rfl) rfl rfl rfl rfl
    have hp0 : ∀ (fs : List (Fil × Nat)) (t : St), loseP (fun _ => false) keep fs t = t := by
      intro fs
      induction fs with
      | nil => intro t; rfl
      | cons f fs ih => intro t; rw [loseP, ih]; rfl
    have I0 : LzI n b D keep s2 m w l.c w2.heap.size (fun _ => false) #[] (e2.put 10 (.ptr s2.length 0)) (m2.put s2.length ⟨w2.heap.size, 0, 0⟩) (a2.put (some 10) (.pointer (some ⟨w2.heap.size, 0, none⟩))) (w2.alloc (iterO l.c D.clock #[])) := by
      refine ⟨by rw [hp0]; exact hS3, ER.put (ER.mono hG3.le hE2) (by rw [hN2]; decide) ⟨_, put_self _ _ _, rfl⟩, by rw [hp0]; exact hG2.trans hG3, by rw [put_size]; exact hN2, by rw [put_defers]; exact hd2, ?_, ?_, ?_, put_self _ _ _, l.d, l.z, hG3.le _ _ hl⟩
      · rw [Env.get_put, if_neg (by decide)]; exact g0
      · rw [Env.get_put, if_neg (by decide)]; exact g1
      · rw [Env.get_put, if_pos rfl]
    refine wp_block (wp_of_loopW (lz_loop hD hO ?_ D.fs.length _ #[] _ _ _ _ (List.length_filter_le _ _) (fun k => by simp) I0))
    intro p seen e m3 a3 w3 I hp hall
    have hS5 := I.sim
    have hG5 := I.goes
    rw [loseP_all (p := p) (fun f hf => by rw [hp]; exact hall f hf)] at hS5 hG5
    refine code_sound (dd := []) sound0 exok mixed lzE rzE lz_cE _ _ ?_ e _ a3 w3 (m0 := m) (s0 := s2) (w0 := w) (N := 55) ⟨m3, hS5, I.er, hG5, I.size, I.defers⟩ (lz_end hD _ I.g0)
    rintro x e4 s4 a4 w4 ⟨rfl, rfl⟩ ⟨m4, hS4, hE4, hG4, hN4, hd4⟩
    obtain ⟨u, hu, hru⟩ := results_run (P := Tryd.prog) (fn := Tryd.f33) (rs := []) (vs := []) hS4 hE4 (by kernel_rfl) rfl
    refine ⟨hd4, u, hru, ?_⟩
    exact cq_drop hS hS4 hG4 hu (lz_gc hD _)
  · rintro j i r hj hr
    match j with
    | 0 => cases hj; cases hr; exact ⟨_, lz_g0.1, lz_r0.1⟩
    | 1 => cases hj; cases hr; exact ⟨_, lz_g0.2.1, lz_r0.2.1⟩
    | 2 => cases hj; cases hr; exact ⟨_, lz_g0.2.2.1, lz_r0.2.2.1⟩
    | 3 => cases hj; cases hr; exact ⟨_, lz_g0.2.2.2, lz_r0.2.2.2⟩
    | j + 4 => simp at hj
  · have l9 := hD.ld.1
    simp only [rops0, XX, CC, YY, Nat.reduceAdd, Nat.reduceSub, Nat.reduceLeDiff, Nat.reduceLT, Nat.reduceEqDiff, reduceIte, ↓reduceIte, Nat.reduceBEq, l9]
end Go.Ev

/-! Calls as the model has them, as an oracle of the abstract machine. -/
namespace Go.Ev
set_option linter.unusedVariables false
set_option linter.unusedSimpArgs false
variable {P : Program} {E : Ex}

def SemX (P : Program) : Oracle := fun f args s k => Known P f ∧ ∀ m w (vs : Array Value), Sim m s w → VRs m args vs.toList → Calls P f vs w (CQ m s w k)
theorem sem_xs : XS P (SemX P) := fun f args s k h => h
theorem sem_mono : MonoX (SemX P) := fun f xs_ s k k' hk ⟨h1, h2⟩ => ⟨h1, fun m w vs hS hv => (h2 m w vs hS hv).mono fun e w' ⟨a, s', m', v, hk', r⟩ => ⟨a, s', m', v, hk a s' hk', r⟩⟩
theorem sem_run {X : Oracle} (hX : XS P X) {f : Nat} {args : List AV} {s : St} {k : AV → St → Prop} (h : X f args s k) : SemX P f args s k := hX f args s k h
theorem sem_body (hE : ExOK P E) (hm : P.follows .mixedOrders = true) {f : Nat} {fn : Func} {F : RF} (h1 : P.funcs[f]? = some fn) (h2 : (fn.name == "runtime.NumGoroutine") = false) (h3 : compF P E fn = some F) {args : List AV} {s : St} {k : AV → St → Prop} (h : bodyA (SemX P) F args s k) : SemX P f args s k := by
  obtain ⟨hlen, hb⟩ := h
  unfold compF at h3
  split at h3 <;> try (simp at h3; done)
  rename_i c hbody
  split at h3 <;> simp at h3
  rename_i b r hcb hcr
  subst h3
  refine ⟨⟨fn, h1, h2, by simp [hbody]⟩, fun m w vs hS hv => ?_⟩
  have hvl : vs.size = args.length := by rw [← Array.length_toList]; exact VRs.length hv
  refine calls_of_wp h1 hbody ?_
  simp only at hlen
  have hrel : Rel [] m s w fn.ntmps args s { tmps := vs ++ Array.replicate (fn.ntmps - vs.size) undef, defers := [] } w := by
    refine ⟨m, hS, ?_, Goes.refl _ _ _, by simp; omega, rfl⟩
    intro t
    unfold Env.get
    by_cases ht : t < args.length
    · obtain ⟨v, hv1, hv2⟩ := VRs.get hv (i := t) (a := args[t]) (by simp [ht])
      have e1 : args.getD t .undef = args[t] := by simp [List.getD_eq_getElem?_getD, ht]
      rw [e1]
      have e2 : (vs ++ Array.replicate (fn.ntmps - vs.size) undef).getD t undef = v := by
        rw [Array.getD_eq_getD_getElem?, Array.getElem?_append_left (by omega), ← Array.getElem?_toList, hv1]; rfl
      rw [e2]
      exact hv2
    · have e1 : args.getD t AV.undef = .undef := by rw [List.getD_eq_getElem?_getD, List.getElem?_eq_none (by omega)]; rfl
      rw [e1]
      trivial
  have hXS : XS P (SemX P) := sem_xs
  refine code_sound hXS hE hm c b hcb _ _ ?_ args s _ w hrel hb
  have fin : ∀ e s1 a w1, endA ⟨fn.ntmps, r, b⟩ s k e s1 → Rel [] m s w fn.ntmps e s1 a w1 → a.defers = [] ∧ ∃ v, (results fn a.tmps).run P w1 = .ok v w1 ∧ CQ m s w k (.returned v) w1 := by
    intro e s1 a w1 ⟨vs', hr, hret⟩ ⟨m1, hS1, hR1, hG1, hN1, hD1⟩
    obtain ⟨u, hu, hru⟩ := results_run hS1 hR1 hcr hr
    refine ⟨hD1, u, hru, ?_⟩
    rcases hret with hk | ⟨r', s', hg, hk⟩ | ⟨r', s', hg, hk⟩
    · exact ⟨_, s1, m1, u, hk, rfl, hS1, hG1, hu⟩
    · obtain ⟨m2, g1, g2, g3⟩ := hg.sound hS hS1 hG1 hu
      exact ⟨r', s', m2, u, hk, rfl, g1, g2, g3⟩
    · obtain ⟨g1, g2, g3⟩ := hg.sound hS1 hu hG1
      exact ⟨r', s', m1, u, hk, rfl, g1, g2, g3⟩
  intro x e s1 a w1 hx hr
  cases x with
  | nrm => exact fin e s1 a w1 hx hr
  | exit id => exact hx.elim
  | ret => exact fin e s1 a w1 hx hr
end Go.Ev

/-! Sorting strings: lists under exchanges, and where they lie. -/
namespace Go.Ev.So
open Go.Ev
set_option linter.unusedVariables false
set_option linter.unusedSimpArgs false

/-- What is sorted: how an element lies in a cell, its number. -/
structure SOr (α : Type) where
  val : α → AV
  key : α → Nat
  cell1 : ∀ x, (val x).cell = true
  un1 : ∀ x, (val x).under 0 = true
  run : ∀ t x y, RunD T0 f_cmp_Less_string [val x, val y] t (.bool (decide (key x < key y))) t
def SOr.enc {α : Type} (O : SOr α) (x : α) : List AV := [O.val x]
theorem SOr.len {α : Type} (O : SOr α) (x : α) : (O.enc x).length = 1 := rfl
theorem SOr.cell {α : Type} (O : SOr α) (x : α) : (O.enc x).all AV.cell = true := by unfold SOr.enc; simp [O.cell1 x]
theorem SOr.un {α : Type} (O : SOr α) (x : α) : unders 0 (O.enc x) = true := by unfold SOr.enc; simp [unders, O.un1 x]

section
variable {α : Type} (O : SOr α)
def K (l : List α) (i : Nat) : Nat := ((l[i]?).map O.key).getD 0
def swp (l : List α) (i j : Nat) : List α := match l[i]?, l[j]? with
  | some x, some y => (l.set i y).set j x
  | _, _ => l
variable {O}
theorem K_at {l : List α} {i : Nat} {x : α} (h : l[i]? = some x) : K O l i = O.key x := by unfold K; rw [h]; rfl
theorem swp_eq {l : List α} {i j : Nat} {x y : α} (hi : l[i]? = some x) (hj : l[j]? = some y) : (l.set i y).set j x = swp l i j := by unfold swp; rw [hi, hj]
theorem swp_len {l : List α} {i j : Nat} : (swp l i j).length = l.length := by
  unfold swp
  split <;> simp
theorem swp_K {l : List α} {i j : Nat} (hi : i < l.length) (hj : j < l.length) (k : Nat) : K O (swp l i j) k = if k = j then K O l i else if k = i then K O l j else K O l k := by
  have h1 : l[i]? = some l[i] := List.getElem?_eq_getElem hi
  have h2 : l[j]? = some l[j] := List.getElem?_eq_getElem hj
  rw [← swp_eq h1 h2]
  by_cases c : k = j
  · subst c
    rw [if_pos rfl, K_at h1]
    exact K_at (by rw [List.getElem?_set_self (by simp; omega)])
  · rw [if_neg c]
    by_cases c2 : k = i
    · subst c2
      rw [if_pos rfl, K_at h2]
      exact K_at (by rw [List.getElem?_set, if_neg (by omega), List.getElem?_set_self hi])
    · rw [if_neg c2]
      unfold K
      rw [List.getElem?_set, if_neg (by omega), List.getElem?_set, if_neg (by omega)]
theorem swp_perm {l : List α} {i j : Nat} (hi : i < l.length) (hj : j < l.length) : (swp l i j).Perm l := by
  rw [← swp_eq (List.getElem?_eq_getElem hi) (List.getElem?_eq_getElem hj)]
  exact List.set_set_perm hi hj

/-- l' comes from l by exchanges between the places from a to below b. -/
inductive Sw (a b : Nat) (l : List α) : List α → Prop
  | refl : Sw a b l l
  | step {l' : List α} {i j : Nat} : Sw a b l l' → a ≤ i → i < b → a ≤ j → j < b → Sw a b l (swp l' i j)
namespace Sw
variable {a b : Nat} {l l' l'' : List α}
theorem len (h : Sw a b l l') : l'.length = l.length := by
  induction h with
  | refl => rfl
  | step _ _ _ _ _ ih => rw [swp_len, ih]
theorem trans (h : Sw a b l l') (k : Sw a b l' l'') : Sw a b l l'' := by
  induction k with
  | refl => exact h
  | step _ h1 h2 h3 h4 ih => exact ih.step h1 h2 h3 h4
theorem mono {a' b' : Nat} (h : Sw a b l l') (ha : a' ≤ a) (hb : b ≤ b') : Sw a' b' l l' := by
  induction h with
  | refl => exact .refl
  | step _ h1 h2 h3 h4 ih => exact ih.step (by omega) (by omega) (by omega) (by omega)
theorem out (h : Sw a b l l') (hb : b ≤ l.length) {k : Nat} (hk : k < a ∨ b ≤ k) : K O l' k = K O l k := by
  induction h with
  | refl => rfl
  | step hs h1 h2 h3 h4 ih => rw [swp_K (by rw [hs.len]; omega) (by rw [hs.len]; omega), if_neg (by omega), if_neg (by omega), ih]
theorem all (h : Sw a b l l') (hb : b ≤ l.length) {P : Nat → Prop} (hp : ∀ k, a ≤ k → k < b → P (K O l k)) : ∀ k, a ≤ k → k < b → P (K O l' k) := by
  induction h with
  | refl => exact hp
  | step hs h1 h2 h3 h4 ih =>
    intro k k1 k2
    rw [swp_K (by rw [hs.len]; omega) (by rw [hs.len]; omega)]
    split
    · exact ih _ h1 h2
    · split
      · exact ih _ h3 h4
      · exact ih _ k1 k2
theorem perm (h : Sw a b l l') (hb : b ≤ l.length) : l'.Perm l := by
  induction h with
  | refl => exact .refl _
  | step hs h1 h2 h3 h4 ih => exact (swp_perm (by rw [hs.len]; omega) (by rw [hs.len]; omega)).trans ih
end Sw

/-- Rising from a to below b. -/
def Srt (f : Nat → Nat) (a b : Nat) : Prop := ∀ p q, a ≤ p → p ≤ q → q < b → f p ≤ f q
variable (O)
/-- Where the list lies. -/
structure AR where
  v : AV
  bk : Nat
  n : Nat
  cs : List AV
  ix : ∀ i, i < n → ixaA 1 v (.int .i64 (i : Int)) = some (.ptr bk i)
  big : n < 1000000000
  uncs : unders 0 cs = true
variable {O} (A : AR)
def AR.S (O : SOr α) (t : St) (l : List α) : St := t.set A.bk (.cells true (l.flatMap O.enc ++ A.cs))
variable {A} {t : St} {l : List α}
theorem S_len : (A.S O t l).length = t.length := by unfold AR.S; simp
theorem S_app {m : St} (hb : A.bk < t.length) : A.S O t l ++ m = A.S O (t ++ m) l := by unfold AR.S; rw [List.set_append_left _ _ hb]
theorem S_at (hb : A.bk < t.length) : (A.S O t l)[A.bk]? = some (.cells true (l.flatMap O.enc ++ A.cs)) := by unfold AR.S; rw [List.getElem?_set_self hb]
theorem S_out {k : Nat} (h : k ≠ A.bk) : (A.S O t l)[k]? = t[k]? := by unfold AR.S; rw [List.getElem?_set, if_neg (by omega)]
theorem flat_one : ∀ (l : List α) (i : Nat) (x : α), l[i]? = some x → (l.flatMap O.enc)[i]? = some (O.val x)
  | [], i, x, h => by simp at h
  | y :: l, 0, x, h => by simp at h; subst h; rfl
  | y :: l, i + 1, x, h => by
    show (O.val y :: l.flatMap O.enc)[i + 1]? = _
    rw [List.getElem?_cons_succ]
    exact flat_one l i x (by simpa using h)
theorem flat_len1 (l : List α) : (l.flatMap O.enc).length = l.length := by
  have := flat_len O.len l
  omega
theorem S_ld (hb : A.bk < t.length) {i : Nat} {x : α} (h : l[i]? = some x) : ldA (A.S O t l) none (.ptr A.bk i) = some (O.val x) := by
  rw [ld_own (S_at hb)]
  have h1 := flat_one (O := O) l i x h
  show (l.flatMap O.enc ++ A.cs)[i]? = _
  rw [List.getElem?_append_left (List.getElem?_eq_some_iff.1 h1).1, h1]
theorem S_wr (hb : A.bk < t.length) {i : Nat} (hi : i < l.length) (x : α) : wrA (A.S O t l) A.bk i [O.val x] = some (A.S O t (l.set i x)) := by
  have h1 := flat_len1 (O := O) l
  have h4 := set_flat O.len x A.cs l i hi
  rw [Nat.mul_one] at h4
  rw [wr_own (S_at hb), if_pos ⟨by rw [List.length_append, h1]; simp only [List.length_cons, List.length_nil]; omega, by simp [O.cell1 x]⟩]
  rw [show [O.val x] = O.enc x from rfl, h4]
  unfold AR.S
  rw [List.set_set]
theorem S_st (hb : A.bk < t.length) {i : Nat} (hi : i < l.length) (x : α) : stA (A.S O t l) none (.ptr A.bk i) (O.val x) = some (A.S O t (l.set i x)) := by
  rw [st_one (O.cell1 x), S_wr hb hi x]
/-- An exchange. -/
theorem S_swp (hb : A.bk < t.length) {i j : Nat} {x y : α} (hi : l[i]? = some x) (hj : l[j]? = some y) :
    stA (A.S O t l) none (.ptr A.bk i) (O.val y) = some (A.S O t (l.set i y)) ∧ stA (A.S O t (l.set i y)) none (.ptr A.bk j) (O.val x) = some (A.S O t (swp l i j)) := by
  have h1 := (List.getElem?_eq_some_iff.1 hi).1
  have h2 := (List.getElem?_eq_some_iff.1 hj).1
  refine ⟨S_st hb h1 y, ?_⟩
  rw [S_st hb (by simp; omega), swp_eq hi hj]
theorem unders_flat (h : ∀ x, unders 0 (O.enc x) = true) : ∀ l : List α, unders 0 (l.flatMap O.enc) = true
  | [] => rfl
  | x :: l => by rw [List.flatMap_cons, unders_app, h x, unders_flat h l]; rfl
/-- The end of a function that changed the list alone: what it made for itself is dropped. -/
theorem ret_S {r : AV} {k : AV → St → Prop} {l2 : List α} {x : Blk} (hb : A.bk < t.length) (hr : r.under t.length = true) (hk : k r (A.S O t l2)) : Ret (A.S O t l) r (A.S O (t ++ [x]) l2) k := by
  rw [← S_app hb]
  refine .inr (.inl ⟨r, A.S O t l2, ⟨[], [], ?_, rfl, List.nodup_nil, by simp, by simp [S_len], ?_, ?_, by simp⟩, hk⟩)
  · rw [List.append_nil, S_len, ← S_len (A := A) (O := O) (t := t) (l := l2), List.take_left]
  · intro i b hi h
    rw [S_len] at hi
    rw [List.getElem?_append_left (by rw [S_len]; exact hi)] at h
    by_cases c : i = A.bk
    · right
      subst c
      rw [S_at hb] at h
      cases h
      simp only [Blk.ren]
      rw [unders_ren (n := 0) (fun i hi => by omega) _ (by rw [unders_app, unders_flat O.un, A.uncs]; rfl)]
    · left
      rw [S_out c] at h ⊢
      exact h
  · exact under_ren (fun i hi => by unfold keepF; rw [S_len, if_pos hi]) r hr
theorem at_of {i : Nat} (h : i < l.length) : ∃ x, l[i]? = some x := ⟨_, List.getElem?_eq_getElem h⟩
end
end Go.Ev.So

/-! Insertion sort; a range turned round. -/
namespace Go.Ev.So
open Go.Ev
set_option linter.unusedVariables false
set_option linter.unusedSimpArgs false

/-- Rising but for the place j, which is below what is right of it. -/
def Ins (f : Nat → Nat) (a i j : Nat) : Prop := (∀ p q, a ≤ p → p ≤ q → q ≤ i → p ≠ j → q ≠ j → f p ≤ f q) ∧ ∀ q, j < q → q ≤ i → f j ≤ f q
theorem Ins.init {f : Nat → Nat} {a i : Nat} (h : Srt f a i) : Ins f a i i := ⟨fun p q h1 h2 h3 h4 h5 => h p q h1 h2 (by omega), fun q h1 h2 => by omega⟩
theorem Ins.done {f : Nat → Nat} {a i j : Nat} (h : Ins f a i j) (ha : a ≤ j) (hj : j ≤ a ∨ f (j - 1) ≤ f j) (h0 : j ≤ i) : Srt f a (i + 1) := by
  intro p q h1 h2 h3
  obtain ⟨g1, g2⟩ := h
  have a1 := g1 p q
  have a2 := g1 p (j - 1)
  have a3 := g2 q
  clear g1 g2
  grind
theorem Ins.next {f g : Nat → Nat} {a i j : Nat} (h : Ins f a i j) (ha : a < j) (hji : j ≤ i) (hlt : f j < f (j - 1)) (hg : ∀ k, g k = if k = j - 1 then f j else if k = j then f (j - 1) else f k) : Ins g a i (j - 1) := by
  obtain ⟨h1, h2⟩ := h
  constructor
  · intro p q _ a b c d
    have g1 := hg p; have g2 := hg q; have a1 := h1 p q; have a3 := h1 p (j-1); have a4 := h1 (j-1) q
    clear h1 h2 hg
    grind
  · intro q a b
    have g1 := hg (j-1); have g2 := hg q; have a1 := h2 q; have a3 := h1 (j-1) q
    clear h1 h2 hg
    grind

section
variable {α : Type} {O : SOr α} {A : AR}
set_option maxHeartbeats 4000000 in
theorem insert_r (t : St) (hb : A.bk < t.length) (l : List α) (hl : l.length = A.n) (a b : Nat) (ha : a ≤ A.n) (hbn : b ≤ A.n) :
    Run T0 f_slices_insertionSortOrdered_string [A.v, .int .i64 a, .int .i64 b] (A.S O t l) fun r t' => ∃ l', t' = A.S O t l' ∧ Sw a b l l' ∧ Srt (K O l') a b := by
  have hbig := A.big
  refine run_body (F := r_slices_insertionSortOrdered_string) rfl (by simp [r_slices_insertionSortOrdered_string]) ?_
  simp only [r_slices_insertionSortOrdered_string, XX, CC, Nat.reduceAdd, Nat.reduceSub, Nat.reduceLeDiff, Nat.reduceLT, Nat.reduceEqDiff, reduceIte, ↓reduceIte, Nat.reduceBEq, w64_nat (show a < 4611686018427387904 by omega)]
  refine awp_rounds (fun d e s => ∃ (i : Nat) (l1 : List α), s = A.S O t l1 ∧ d = b - i ∧ a + 1 ≤ i ∧ i ≤ max (a + 1) b ∧ Sw a b l l1 ∧ Srt (K O l1) a i ∧ e.get 0 = A.v ∧ e.get 1 = .int .i64 a ∧ e.get 2 = .int .i64 b ∧ e.get 3 = e.get 3 ∧ e.get 6 = .int .i64 i) (b - (a + 1)) ?_ ?_
  · refine ⟨a + 1, l, rfl, rfl, by omega, by omega, .refl, fun p q h1 h2 h3 => by rw [show p = q by omega]; exact Nat.le_refl _, ?_, ?_, ?_, ?_, ?_⟩ <;> (try simp only [XX, CC, Nat.reduceAdd, Nat.reduceSub, Nat.reduceLeDiff, Nat.reduceLT, Nat.reduceEqDiff, reduceIte, ↓reduceIte, Nat.reduceBEq])
  rintro J d e s hJ ⟨i, l1, rfl, hd, hi1, hi2, hs, hsr, g0, g1, g2, g3, g8⟩
  simp only [XX, CC, Nat.reduceAdd, Nat.reduceSub, Nat.reduceLeDiff, Nat.reduceLT, Nat.reduceEqDiff, reduceIte, ↓reduceIte, Nat.reduceBEq, g0, g1, g2, g3, g8]
  by_cases c : i < b
  · simp only [XX, CC, Nat.reduceAdd, Nat.reduceSub, Nat.reduceLeDiff, Nat.reduceLT, Nat.reduceEqDiff, reduceIte, ↓reduceIte, Nat.reduceBEq, dec_t (show (i : Int) < b by omega), g0, g1, g2, g3, g8]
    have hJ' : ∀ e' l2, Sw a b l l2 → Srt (K O l2) a (i + 1) → e'.get 0 = A.v → e'.get 1 = .int .i64 a → e'.get 2 = .int .i64 b → e'.get 3 = e'.get 3 → e'.get 6 = .int .i64 (i + 1 : Nat) → J e' (A.S O t l2) := fun e' l2 x1 x2 y0 y1 y2 y3 y8 => hJ (b - (i + 1)) e' _ (by omega) ⟨i + 1, l2, rfl, rfl, by omega, by omega, x1, x2, y0, y1, y2, y3, y8⟩
    clear hJ
    refine awp_rounds (fun d e s => ∃ (j : Nat) (l1 : List α), s = A.S O t l1 ∧ d = j - a ∧ a ≤ j ∧ j ≤ i ∧ Sw a b l l1 ∧ Ins (K O l1) a i j ∧ e.get 0 = A.v ∧ e.get 1 = .int .i64 a ∧ e.get 2 = .int .i64 b ∧ e.get 3 = e.get 3 ∧ e.get 6 = .int .i64 i ∧ e.get 7 = .int .i64 j) (i - a) ?_ ?_
    · refine ⟨i, l1, rfl, rfl, by omega, by omega, hs, .init hsr, ?_, ?_, ?_, ?_, ?_, ?_⟩ <;> (try simp only [XX, CC, Nat.reduceAdd, Nat.reduceSub, Nat.reduceLeDiff, Nat.reduceLT, Nat.reduceEqDiff, reduceIte, ↓reduceIte, Nat.reduceBEq, g0, g1, g2, g3, g8])
    clear hsr hs g0 g1 g2 g3 g8 e l1 hd
    rintro J2 d2 e s hJ2 ⟨j, l1, rfl, hd2, hj1, hj2, hs, hin, g0, g1, g2, g3, g8, g9⟩
    have hl1 : l1.length = A.n := hs.len.trans hl
    by_cases cj : a < j
    · obtain ⟨x, hx⟩ := at_of (show j < l1.length by omega)
      obtain ⟨y, hy⟩ := at_of (show j - 1 < l1.length by omega)
      have xj := A.ix j (by omega)
      have xj' := A.ix (j - 1) (by omega)
      have lx := S_ld (O := O) (A := A) hb hx
      have ly := S_ld (O := O) (A := A) hb hy
      obtain ⟨w1, w2⟩ := S_swp (O := O) (A := A) hb hx hy
      have hw := w64_sub (i := j) (by omega) (by omega)
      have kx := K_at (O := O) hx
      have ky := K_at (O := O) hy
      simp only [XX, CC, Nat.reduceAdd, Nat.reduceSub, Nat.reduceLeDiff, Nat.reduceLT, Nat.reduceEqDiff, reduceIte, ↓reduceIte, Nat.reduceBEq]
      refine drw_in [] rfl ?_
      simp only [List.append_nil, DD, CC, Nat.reduceAdd, Nat.reduceSub, Nat.reduceLeDiff, Nat.reduceLT, Nat.reduceEqDiff, reduceIte, ↓reduceIte, Nat.reduceBEq, g0, g1, g3, g9, dec_t (show (j : Int) > a by omega), xj, xj', lx, ly, hw]
      refine dr_call (O.run _ x y) ?_
      by_cases ck : O.key x < O.key y
      · simp only [DD, CC, Nat.reduceAdd, Nat.reduceSub, Nat.reduceLeDiff, Nat.reduceLT, Nat.reduceEqDiff, reduceIte, ↓reduceIte, Nat.reduceBEq, dec_t ck]
        refine drw_in [] rfl ?_
        simp only [List.append_nil, DD, CC, Nat.reduceAdd, Nat.reduceSub, Nat.reduceLeDiff, Nat.reduceLT, Nat.reduceEqDiff, reduceIte, ↓reduceIte, Nat.reduceBEq, g0, g9, xj, xj', lx, ly, hw, w1, w2, dr_stX]
        refine hJ2 (d2 - 1) _ _ (by omega) ⟨j - 1, swp l1 j (j - 1), rfl, by omega, by omega, by omega, hs.step (by omega) (by omega) (by omega) (by omega), hin.next cj hj2 (by rw [kx, ky]; exact ck) (swp_K (by omega) (by omega)), ?_, ?_, ?_, ?_, ?_, ?_⟩ <;> (try simp only [XX, CC, Nat.reduceAdd, Nat.reduceSub, Nat.reduceLeDiff, Nat.reduceLT, Nat.reduceEqDiff, reduceIte, ↓reduceIte, Nat.reduceBEq, g0, g1, g2, g3, g8, g9])
      · simp only [DD, CC, Nat.reduceAdd, Nat.reduceSub, Nat.reduceLeDiff, Nat.reduceLT, Nat.reduceEqDiff, reduceIte, ↓reduceIte, Nat.reduceBEq, dec_f ck, g8, w64_nat (show i < 4611686018427387904 by omega)]
        refine hJ' _ l1 hs (hin.done hj1 (.inr (by rw [kx, ky]; omega)) hj2) ?_ ?_ ?_ ?_ ?_ <;> (try simp only [XX, CC, Nat.reduceAdd, Nat.reduceSub, Nat.reduceLeDiff, Nat.reduceLT, Nat.reduceEqDiff, reduceIte, ↓reduceIte, Nat.reduceBEq, g0, g1, g2, g3, g8, g9])
    · simp only [XX, CC, Nat.reduceAdd, Nat.reduceSub, Nat.reduceLeDiff, Nat.reduceLT, Nat.reduceEqDiff, reduceIte, ↓reduceIte, Nat.reduceBEq]
      refine drw_in [] rfl ?_
      simp only [List.append_nil, DD, CC, Nat.reduceAdd, Nat.reduceSub, Nat.reduceLeDiff, Nat.reduceLT, Nat.reduceEqDiff, reduceIte, ↓reduceIte, Nat.reduceBEq, g0, g1, g3, g8, g9, dec_f (show ¬ (j : Int) > a by omega), w64_nat (show i < 4611686018427387904 by omega)]
      refine hJ' _ l1 hs (hin.done hj1 (.inl (by omega)) hj2) ?_ ?_ ?_ ?_ ?_ <;> (try simp only [XX, CC, Nat.reduceAdd, Nat.reduceSub, Nat.reduceLeDiff, Nat.reduceLT, Nat.reduceEqDiff, reduceIte, ↓reduceIte, Nat.reduceBEq, g0, g1, g2, g3, g8, g9])
  · simp only [XX, CC, Nat.reduceAdd, Nat.reduceSub, Nat.reduceLeDiff, Nat.reduceLT, Nat.reduceEqDiff, reduceIte, ↓reduceIte, Nat.reduceBEq, dec_f (show ¬ (i : Int) < b by omega)]
    exact .inl ⟨l1, rfl, hs, fun p q h1 h2 h3 => hsr p q h1 h2 (by omega)⟩

set_option maxHeartbeats 4000000 in
theorem reverse_r (t : St) (hb : A.bk < t.length) (l : List α) (hl : l.length = A.n) (a b : Nat) (hab : a < b) (hbn : b ≤ A.n) :
    Run T0 f_slices_reverseRangeOrdered_string [A.v, .int .i64 a, .int .i64 b] (A.S O t l) fun r t' => ∃ l', t' = A.S O t l' ∧ Sw a b l l' := by
  have hbig := A.big
  refine run_body (F := r_slices_reverseRangeOrdered_string) rfl (by simp [r_slices_reverseRangeOrdered_string]) ?_
  simp only [r_slices_reverseRangeOrdered_string, XX, CC, Nat.reduceAdd, Nat.reduceSub, Nat.reduceLeDiff, Nat.reduceLT, Nat.reduceEqDiff, reduceIte, ↓reduceIte, Nat.reduceBEq, w64_sub (show 0 < b by omega) (by omega)]
  refine awp_rounds (fun d e s => ∃ (i j : Nat) (l1 : List α), s = A.S O t l1 ∧ d = j - i ∧ a ≤ i ∧ j < b ∧ i ≤ j + 1 ∧ Sw a b l l1 ∧ e.get 0 = A.v ∧ e.get 6 = .int .i64 i ∧ e.get 7 = .int .i64 j) (b - 1 - a) ?_ ?_
  · refine ⟨a, b - 1, l, rfl, rfl, by omega, by omega, by omega, .refl, ?_, ?_, ?_⟩ <;> (try simp only [XX, CC, Nat.reduceAdd, Nat.reduceSub, Nat.reduceLeDiff, Nat.reduceLT, Nat.reduceEqDiff, reduceIte, ↓reduceIte, Nat.reduceBEq])
  rintro J d e s hJ ⟨i, j, l1, rfl, hd, hi, hj, hij, hs, g0, g8, g9⟩
  have hl1 : l1.length = A.n := hs.len.trans hl
  simp only [XX, CC, Nat.reduceAdd, Nat.reduceSub, Nat.reduceLeDiff, Nat.reduceLT, Nat.reduceEqDiff, reduceIte, ↓reduceIte, Nat.reduceBEq, g0, g8, g9]
  by_cases c : i < j
  · obtain ⟨x, hx⟩ := at_of (show i < l1.length by omega)
    obtain ⟨y, hy⟩ := at_of (show j < l1.length by omega)
    have xi := A.ix i (by omega)
    have xj := A.ix j (by omega)
    have lx := S_ld (O := O) (A := A) hb hx
    have ly := S_ld (O := O) (A := A) hb hy
    obtain ⟨w1, w2⟩ := S_swp (O := O) (A := A) hb hx hy
    simp only [XX, CC, Nat.reduceAdd, Nat.reduceSub, Nat.reduceLeDiff, Nat.reduceLT, Nat.reduceEqDiff, reduceIte, ↓reduceIte, Nat.reduceBEq, dec_t (show (i : Int) < j by omega), g0, g8, g9]
    refine drw_in [] rfl ?_
    simp only [List.append_nil, DD, CC, Nat.reduceAdd, Nat.reduceSub, Nat.reduceLeDiff, Nat.reduceLT, Nat.reduceEqDiff, reduceIte, ↓reduceIte, Nat.reduceBEq, g0, g8, g9, xi, xj, lx, ly, w1, w2, dr_stX, w64_nat (show i < 4611686018427387904 by omega), w64_sub (show 0 < j by omega) (by omega)]
    refine hJ (j - 1 - (i + 1)) _ _ (by omega) ⟨i + 1, j - 1, swp l1 i j, rfl, rfl, by omega, by omega, by omega, hs.step (by omega) (by omega) (by omega) (by omega), ?_, ?_, ?_⟩ <;> (try simp only [XX, CC, Nat.reduceAdd, Nat.reduceSub, Nat.reduceLeDiff, Nat.reduceLT, Nat.reduceEqDiff, reduceIte, ↓reduceIte, Nat.reduceBEq, g0, g8, g9])
  · simp only [XX, CC, Nat.reduceAdd, Nat.reduceSub, Nat.reduceLeDiff, Nat.reduceLT, Nat.reduceEqDiff, reduceIte, ↓reduceIte, Nat.reduceBEq, dec_f (show ¬ (i : Int) < j by omega)]
    exact .inl ⟨l1, rfl, hs⟩
end
end Go.Ev.So

/-! The pivot's choice. -/
namespace Go.Ev.So
open Go.Ev
set_option linter.unusedVariables false
set_option linter.unusedSimpArgs false

def nckA (v : AV) : Option AV := match v with
  | .ptr b o => some (.ptr b o)
  | .ifc t v => some (.ifc t v)
  | .fn f cs => some (.fn f cs)
  | _ => none
theorem op_nck {X : Oracle} {e : Env} {s : St} {q : AV → St → Prop} {x : RX} : opA X (.nck x) e s q = ob (nckA (x.ev e)) fun v => q v s := rfl
theorem pu_nck {e : Env} {x : RX} : pureA (.nck x) e = nckA (x.ev e) := rfl
theorem nck_ptr {b o : Nat} : nckA (.ptr b o) = some (.ptr b o) := rfl
theorem quoN {n k : Nat} (h : n < 1000000000) (h0 : 0 < k) : binA .quo (.int .i64 (n : Int)) (.int .i64 (k : Int)) = some (.int .i64 ((n / k : Nat) : Int)) := by
  have := Nat.div_le_self n k
  simp only [binA]
  rw [if_pos ⟨trivial, by omega⟩, Int.tdiv_eq_ediv_of_nonneg (by omega), ← Int.natCast_ediv]
  generalize n / k = z at this ⊢
  rw [w64_in (by omega) (by omega)]
theorem mulN {n k : Nat} (h : n < 1000000000) (h0 : k < 1000000000) : binA .mul (.int .i64 (n : Int)) (.int .i64 (k : Int)) = some (.int .i64 ((n * k : Nat) : Int)) := by
  have : n * k < 1000000000 * 1000000000 := Nat.mul_lt_mul_of_lt_of_lt h h0
  simp only [binA, if_true]
  rw [← Int.natCast_mul, w64_in (by omega) (by omega)]
theorem addN {n k : Nat} (h : n + k < 4611686018427387904) : IntKind.i64.wrap ((n : Int) + (k : Int)) = ((n + k : Nat) : Int) := by rw [w64_in (by omega) (by omega)]; omega
theorem subN {n k : Nat} (h0 : k ≤ n) (h : n < 4611686018427387904) : IntKind.i64.wrap ((n : Int) - (k : Int)) = ((n - k : Nat) : Int) := by rw [w64_in (by omega) (by omega)]; omega

section
variable {α : Type} {O : SOr α} {A : AR}
theorem S_set {t : St} {l : List α} {p : Nat} {x : Blk} (h : p ≠ A.bk) : (A.S O t l).set p x = A.S O (t.set p x) l := by unfold AR.S; exact List.set_comm _ _ (by omega)
def box (c : Int) : Blk := .cells true [.int .i64 c]
theorem box_at {t : St} {l : List α} {p : Nat} {c : Int} (h : p ≠ A.bk) (hp : t[p]? = some (box c)) (z : Int) : ldA (A.S O t l) none (.ptr p 0) = some (.int .i64 c) ∧ wrA (A.S O t l) p 0 [.int .i64 z] = some (A.S O (t.set p (box z)) l) := by
  have h1 : (A.S O t l)[p]? = some (.cells true [.int .i64 c]) := by rw [S_out h]; exact hp
  refine ⟨by rw [ld_own h1]; rfl, ?_⟩
  rw [wr_own h1, if_pos ⟨by simp, rfl⟩, S_set h]
  rfl
set_option maxHeartbeats 4000000 in
theorem order_r (t : St) (hb : A.bk < t.length) (l : List α) (hl : l.length = A.n) (i j p : Nat) (hi : i < A.n) (hj : j < A.n) (c : Int) (hp : t[p]? = some (box c)) (hpb : p ≠ A.bk) :
    Run T0 f_slices_order2Ordered_string [A.v, .int .i64 i, .int .i64 j, .ptr p 0] (A.S O t l) fun r t' => ∃ (c' : Int) (x y : Nat), r = .tup [.int .i64 x, .int .i64 y] ∧ (x = i ∧ y = j ∨ x = j ∧ y = i) ∧ t' = A.S O (t.set p (box c')) l := by
  have hbig := A.big
  have hp1 := (List.getElem?_eq_some_iff.1 hp).1
  have b1 := fun z => (box_at (O := O) (l := l) hpb hp z).1
  have b2 := fun z => (box_at (O := O) (l := l) hpb hp z).2
  have b1 := b1 0
  have hst : t.set p (box c) = t := by
    apply List.ext_getElem?
    intro k
    by_cases h : p = k
    · subst h; rw [List.getElem?_set_self hp1, hp]
    · rw [List.getElem?_set_ne h]
  refine run_body (F := r_slices_order2Ordered_string) rfl (by simp [r_slices_order2Ordered_string]) ?_
  obtain ⟨x, hx⟩ := at_of (show j < l.length by omega)
  obtain ⟨y, hy⟩ := at_of (show i < l.length by omega)
  have xj := A.ix j (by omega)
  have xi := A.ix i (by omega)
  have lx := S_ld (O := O) (A := A) hb hx
  have ly := S_ld (O := O) (A := A) hb hy
  simp only [r_slices_order2Ordered_string, XX, CC, Nat.reduceAdd, Nat.reduceSub, Nat.reduceLeDiff, Nat.reduceLT, Nat.reduceEqDiff, reduceIte, ↓reduceIte, Nat.reduceBEq]
  refine drw_in [] rfl ?_
  simp only [List.append_nil, DD, CC, Nat.reduceAdd, Nat.reduceSub, Nat.reduceLeDiff, Nat.reduceLT, Nat.reduceEqDiff, reduceIte, ↓reduceIte, Nat.reduceBEq, xj, xi, lx, ly]
  refine dr_call (O.run _ x y) ?_
  by_cases ck : O.key x < O.key y
  · simp only [DD, CC, Nat.reduceAdd, Nat.reduceSub, Nat.reduceLeDiff, Nat.reduceLT, Nat.reduceEqDiff, reduceIte, ↓reduceIte, Nat.reduceBEq, dec_t ck, op_nck, nck_ptr, b1, b2]
    exact .inl ⟨_, j, i, rfl, .inr ⟨rfl, rfl⟩, rfl⟩
  · simp only [DD, CC, Nat.reduceAdd, Nat.reduceSub, Nat.reduceLeDiff, Nat.reduceLT, Nat.reduceEqDiff, reduceIte, ↓reduceIte, Nat.reduceBEq, dec_f ck]
    exact .inl ⟨c, i, j, rfl, .inl ⟨rfl, rfl⟩, by rw [hst]⟩

theorem set_at' {t : St} {p : Nat} {c c' : Int} (hp : t[p]? = some (box c)) : (t.set p (box c'))[p]? = some (box c') := key_set (List.getElem?_eq_some_iff.1 hp).1
set_option maxHeartbeats 4000000 in
theorem median_r (t : St) (hb : A.bk < t.length) (l : List α) (hl : l.length = A.n) (i j k p : Nat) (hi : i < A.n) (hj : j < A.n) (hk : k < A.n) (c : Int) (hp : t[p]? = some (box c)) (hpb : p ≠ A.bk) :
    Run T0 f_slices_medianOrdered_string [A.v, .int .i64 i, .int .i64 j, .int .i64 k, .ptr p 0] (A.S O t l) fun r t' => ∃ (c' : Int) (x : Nat), r = .int .i64 x ∧ (x = i ∨ x = j ∨ x = k) ∧ t' = A.S O (t.set p (box c')) l := by
  refine run_body (F := r_slices_medianOrdered_string) rfl (by simp [r_slices_medianOrdered_string]) ?_
  simp only [r_slices_medianOrdered_string, XX, CC, Nat.reduceAdd, Nat.reduceSub, Nat.reduceLeDiff, Nat.reduceLT, Nat.reduceEqDiff, reduceIte, ↓reduceIte, Nat.reduceBEq]
  refine Run.mono _ _ _ _ _ ?_ (order_r t hb l hl i j p hi hj c hp hpb)
  rintro r t' ⟨c1, a1, a2, rfl, h1, rfl⟩
  (try simp only [XX, CC, Nat.reduceAdd, Nat.reduceSub, Nat.reduceLeDiff, Nat.reduceLT, Nat.reduceEqDiff, reduceIte, ↓reduceIte, Nat.reduceBEq])
  refine Run.mono _ _ _ _ _ ?_ (order_r (t.set p (box c1)) (by simpa using hb) l hl a2 k p (by omega) hk c1 (set_at' hp) hpb)
  rintro r t' ⟨c2, a3, a4, rfl, h2, rfl⟩
  rw [List.set_set]
  (try simp only [XX, CC, Nat.reduceAdd, Nat.reduceSub, Nat.reduceLeDiff, Nat.reduceLT, Nat.reduceEqDiff, reduceIte, ↓reduceIte, Nat.reduceBEq])
  refine Run.mono _ _ _ _ _ ?_ (order_r (t.set p (box c2)) (by simpa using hb) l hl a1 a3 p (by omega) (by omega) c2 (set_at' hp) hpb)
  rintro r t' ⟨c3, a5, a6, rfl, h3, rfl⟩
  rw [List.set_set]
  (try simp only [XX, CC, Nat.reduceAdd, Nat.reduceSub, Nat.reduceLeDiff, Nat.reduceLT, Nat.reduceEqDiff, reduceIte, ↓reduceIte, Nat.reduceBEq])
  exact .inl ⟨c3, a6, rfl, by omega, rfl⟩
set_option maxHeartbeats 4000000 in
theorem madj_r (t : St) (hb : A.bk < t.length) (l : List α) (hl : l.length = A.n) (i p : Nat) (h0 : 0 < i) (hi : i + 1 < A.n) (c : Int) (hp : t[p]? = some (box c)) (hpb : p ≠ A.bk) :
    Run T0 f_slices_medianAdjacentOrdered_string [A.v, .int .i64 i, .ptr p 0] (A.S O t l) fun r t' => ∃ (c' : Int) (x : Nat), r = .int .i64 x ∧ (i ≤ x + 1 ∧ x ≤ i + 1) ∧ t' = A.S O (t.set p (box c')) l := by
  have hbig := A.big
  refine run_body (F := r_slices_medianAdjacentOrdered_string) rfl (by simp [r_slices_medianAdjacentOrdered_string]) ?_
  simp only [r_slices_medianAdjacentOrdered_string, XX, CC, Nat.reduceAdd, Nat.reduceSub, Nat.reduceLeDiff, Nat.reduceLT, Nat.reduceEqDiff, reduceIte, ↓reduceIte, Nat.reduceBEq, w64_sub h0 (show i < 4611686018427387904 by omega), w64_nat (show i < 4611686018427387904 by omega)]
  refine Run.mono _ _ _ _ _ ?_ (median_r t hb l hl (i - 1) i (i + 1) p (by omega) (by omega) (by omega) c hp hpb)
  rintro r t' ⟨c1, x, rfl, h1, rfl⟩
  (try simp only [XX, CC, Nat.reduceAdd, Nat.reduceSub, Nat.reduceLeDiff, Nat.reduceLT, Nat.reduceEqDiff, reduceIte, ↓reduceIte, Nat.reduceBEq])
  exact .inl ⟨c1, x, rfl, by omega, rfl⟩

theorem set_end {t : St} {x y : Blk} : (t ++ [x]).set t.length y = t ++ [y] := by simp
set_option maxHeartbeats 4000000 in
theorem pivot_r (t : St) (hb : A.bk < t.length) (l : List α) (hl : l.length = A.n) (a b : Nat) (hab : a + 12 < b) (hbn : b ≤ A.n) :
    Run T0 f_slices_choosePivotOrdered_string [A.v, .int .i64 a, .int .i64 b] (A.S O t l) fun r t' => ∃ (m h : Nat), r = .tup [.int .i64 m, .int .i64 h] ∧ a ≤ m ∧ m < b ∧ t' = A.S O t l := by
  have hbig := A.big
  have hq : (b - a) / 4 * 4 ≤ b - a := Nat.div_mul_le_self _ _
  have hq1 : b - a < ((b - a) / 4 + 1) * 4 := by omega
  have q4 : binA .quo (.int .i64 ((b - a : Nat) : Int)) (.int .i64 4) = some (.int .i64 (((b - a) / 4 : Nat) : Int)) := quoN (k := 4) (by omega) (by decide)
  refine run_body (F := r_slices_choosePivotOrdered_string) rfl (by simp [r_slices_choosePivotOrdered_string]) ?_
  generalize hqq : (b - a) / 4 = q at hq hq1 q4
  have m1 : binA .mul (.int .i64 (q : Int)) (.int .i64 1) = some (.int .i64 ((q * 1 : Nat) : Int)) := mulN (k := 1) (by omega) (by decide)
  have m2 : binA .mul (.int .i64 (q : Int)) (.int .i64 2) = some (.int .i64 ((q * 2 : Nat) : Int)) := mulN (k := 2) (by omega) (by decide)
  have m3 : binA .mul (.int .i64 (q : Int)) (.int .i64 3) = some (.int .i64 ((q * 3 : Nat) : Int)) := mulN (k := 3) (by omega) (by decide)
  have tb : t.length ≠ A.bk := by omega
  have fin : ∀ (TL : RC) (m : Nat) (c : Int) (e : Env), TL = r_slices_choosePivotOrdered_string.body.p2.p2.p2.p2.p2.p2.p2 → a ≤ m → m < b → e.get 9 = .ptr t.length 0 → e.get 11 = .int .i64 m →
      awp (Run T0) TL (endK [.tmp 6, .tmp 7] (A.S O t l) fun r t' => ∃ (m h : Nat), r = .tup [.int .i64 m, .int .i64 h] ∧ a ≤ m ∧ m < b ∧ t' = A.S O t l) e (A.S O (t ++ [box c]) l) := by
    rintro TL m c e rfl h1 h2 g11 g13
    have hld := (box_at (O := O) (l := l) (t := t ++ [box c]) (p := t.length) (c := c) tb (by simp) 0).1
    have hx : Ext (A.S O t l) (A.S O (t ++ [box c]) l) := by rw [← S_app hb]; exact ⟨_, rfl⟩
    by_cases c0 : c = 0
    · subst c0
      simp only [r_slices_choosePivotOrdered_string, RC.p1, RC.p2, XX, CC, Nat.reduceAdd, Nat.reduceSub, Nat.reduceLeDiff, Nat.reduceLT, Nat.reduceEqDiff, reduceIte, ↓reduceIte, Nat.reduceBEq, g11, g13, hld, show ((0 : Int) == 0) = true from rfl]
      exact ret_drop (k := fun r t' => ∃ (m h : Nat), r = AV.tup [.int .i64 m, .int .i64 h] ∧ a ≤ m ∧ m < b ∧ t' = A.S O t l) hx rfl ⟨m, 1, rfl, h1, h2, rfl⟩
    · have c0' : (c == 0) = false := by simpa using c0
      by_cases c1 : c = 12
      · subst c1
        simp only [r_slices_choosePivotOrdered_string, RC.p1, RC.p2, XX, CC, Nat.reduceAdd, Nat.reduceSub, Nat.reduceLeDiff, Nat.reduceLT, Nat.reduceEqDiff, reduceIte, ↓reduceIte, Nat.reduceBEq, g11, g13, hld, show ((12 : Int) == 0) = false from rfl, show ((12 : Int) == 12) = true from rfl]
        exact ret_drop (k := fun r t' => ∃ (m h : Nat), r = AV.tup [.int .i64 m, .int .i64 h] ∧ a ≤ m ∧ m < b ∧ t' = A.S O t l) hx rfl ⟨m, 2, rfl, h1, h2, rfl⟩
      · have c1' : (c == 12) = false := by simpa using c1
        simp only [r_slices_choosePivotOrdered_string, RC.p1, RC.p2, XX, CC, Nat.reduceAdd, Nat.reduceSub, Nat.reduceLeDiff, Nat.reduceLT, Nat.reduceEqDiff, reduceIte, ↓reduceIte, Nat.reduceBEq, g11, g13, hld, c0', c1']
        exact ret_drop (k := fun r t' => ∃ (m h : Nat), r = AV.tup [.int .i64 m, .int .i64 h] ∧ a ≤ m ∧ m < b ∧ t' = A.S O t l) hx rfl ⟨m, 0, rfl, h1, h2, rfl⟩
  obtain ⟨TL, hT⟩ : ∃ TL, TL = r_slices_choosePivotOrdered_string.body.p2.p2.p2.p2.p2.p2.p2 := ⟨_, rfl⟩
  have fin := fun m c e => fin TL m c e hT
  have hbody : r_slices_choosePivotOrdered_string.body = (let b := r_slices_choosePivotOrdered_string.body; .seq b.p1 (.seq b.p2.p1 (.seq b.p2.p2.p1 (.seq b.p2.p2.p2.p1 (.seq b.p2.p2.p2.p2.p1 (.seq b.p2.p2.p2.p2.p2.p1 (.seq b.p2.p2.p2.p2.p2.p2.p1 TL))))))) := by rw [hT]; rfl
  rw [hbody]
  clear hbody hT
  have s0 : A.S O t l ++ [Blk.cells true [.int .i64 0]] = A.S O (t ++ [box 0]) l := S_app hb
  have hp0 : (t ++ [box 0])[t.length]? = some (box 0) := by simp
  have hbt : ∀ x : Blk, A.bk < (t ++ [x]).length := fun x => by simp; omega
  by_cases c50 : b - a ≥ 50
  · simp only [r_slices_choosePivotOrdered_string, RC.p1, RC.p2, XX, CC, Nat.reduceAdd, Nat.reduceSub, Nat.reduceLeDiff, Nat.reduceLT, Nat.reduceEqDiff, reduceIte, ↓reduceIte, Nat.reduceBEq, subN (show a ≤ b by omega) (show b < 4611686018427387904 by omega), q4, m1, m2, m3, dec_t (show ((b - a : Nat) : Int) ≥ 8 by omega), dec_t (show ((b - a : Nat) : Int) ≥ 50 by omega), addN (show a + q * 1 < 4611686018427387904 by omega), addN (show a + q * 2 < 4611686018427387904 by omega), addN (show a + q * 3 < 4611686018427387904 by omega), S_len, s0]
    refine Run.mono _ _ _ _ _ ?_ (madj_r (t ++ [box 0]) (hbt _) l hl (a + q * 1) t.length (by omega) (by omega) 0 hp0 tb)
    rintro r t' ⟨c1, x, rfl, h1, rfl⟩
    (try simp only [XX, CC, Nat.reduceAdd, Nat.reduceSub, Nat.reduceLeDiff, Nat.reduceLT, Nat.reduceEqDiff, reduceIte, ↓reduceIte, Nat.reduceBEq, set_end])
    refine Run.mono _ _ _ _ _ ?_ (madj_r (t ++ [box c1]) (hbt _) l hl (a + q * 2) t.length (by omega) (by omega) c1 (by simp) tb)
    rintro r t' ⟨c2, y, rfl, h2, rfl⟩
    (try simp only [XX, CC, Nat.reduceAdd, Nat.reduceSub, Nat.reduceLeDiff, Nat.reduceLT, Nat.reduceEqDiff, reduceIte, ↓reduceIte, Nat.reduceBEq, set_end])
    refine Run.mono _ _ _ _ _ ?_ (madj_r (t ++ [box c2]) (hbt _) l hl (a + q * 3) t.length (by omega) (by omega) c2 (by simp) tb)
    rintro r t' ⟨c3, z, rfl, h3, rfl⟩
    (try simp only [XX, CC, Nat.reduceAdd, Nat.reduceSub, Nat.reduceLeDiff, Nat.reduceLT, Nat.reduceEqDiff, reduceIte, ↓reduceIte, Nat.reduceBEq, set_end])
    refine Run.mono _ _ _ _ _ ?_ (median_r (t ++ [box c3]) (hbt _) l hl x y z t.length (by omega) (by omega) (by omega) c3 (by simp) tb)
    rintro r t' ⟨c4, w, rfl, h4, rfl⟩
    (try simp only [XX, CC, Nat.reduceAdd, Nat.reduceSub, Nat.reduceLeDiff, Nat.reduceLT, Nat.reduceEqDiff, reduceIte, ↓reduceIte, Nat.reduceBEq, set_end])
    refine fin w c4 _ (by omega) (by omega) ?_ ?_ <;> simp only [XX, CC, Nat.reduceAdd, Nat.reduceSub, Nat.reduceLeDiff, Nat.reduceLT, Nat.reduceEqDiff, reduceIte, ↓reduceIte, Nat.reduceBEq]
  · simp only [r_slices_choosePivotOrdered_string, RC.p1, RC.p2, XX, CC, Nat.reduceAdd, Nat.reduceSub, Nat.reduceLeDiff, Nat.reduceLT, Nat.reduceEqDiff, reduceIte, ↓reduceIte, Nat.reduceBEq, subN (show a ≤ b by omega) (show b < 4611686018427387904 by omega), q4, m1, m2, m3, dec_t (show ((b - a : Nat) : Int) ≥ 8 by omega), dec_f (show ¬ ((b - a : Nat) : Int) ≥ 50 by omega), addN (show a + q * 1 < 4611686018427387904 by omega), addN (show a + q * 2 < 4611686018427387904 by omega), addN (show a + q * 3 < 4611686018427387904 by omega), S_len, s0]
    refine Run.mono _ _ _ _ _ ?_ (median_r (t ++ [box 0]) (hbt _) l hl (a + q * 1) (a + q * 2) (a + q * 3) t.length (by omega) (by omega) (by omega) 0 hp0 tb)
    rintro r t' ⟨c4, w, rfl, h4, rfl⟩
    (try simp only [XX, CC, Nat.reduceAdd, Nat.reduceSub, Nat.reduceLeDiff, Nat.reduceLT, Nat.reduceEqDiff, reduceIte, ↓reduceIte, Nat.reduceBEq, set_end])
    refine fin w c4 _ (by omega) (by omega) ?_ ?_ <;> simp only [XX, CC, Nat.reduceAdd, Nat.reduceSub, Nat.reduceLeDiff, Nat.reduceLT, Nat.reduceEqDiff, reduceIte, ↓reduceIte, Nat.reduceBEq]
end
end Go.Ev.So

/-! Heap sort. -/
namespace Go.Ev.So
open Go.Ev
set_option linter.unusedVariables false
set_option linter.unusedSimpArgs false

def HpAt (f : Nat → Nat) (hi x : Nat) : Prop := (2 * x + 1 < hi → f (2 * x + 1) ≤ f x) ∧ (2 * x + 2 < hi → f (2 * x + 2) ≤ f x)
/-- A heap but for the place r. -/
def Hole (f : Nat → Nat) (lo hi r : Nat) : Prop := (∀ x, lo ≤ x → x ≠ r → HpAt f hi x) ∧ ∀ x, lo ≤ x → 2 * x + 1 = r ∨ 2 * x + 2 = r → (2 * r + 1 < hi → f (2 * r + 1) ≤ f x) ∧ (2 * r + 2 < hi → f (2 * r + 2) ≤ f x)
theorem Hole.next {f g : Nat → Nat} {lo hi r c : Nat} (h : Hole f lo hi r) (hc : c = 2 * r + 1 ∨ c = 2 * r + 2) (hch : c < hi) (hlr : lo ≤ r)
   (h3 : f r < f c) (h4 : 2 * r + 1 < hi → f (2 * r + 1) ≤ f c) (h5 : 2 * r + 2 < hi → f (2 * r + 2) ≤ f c)
   (hg : ∀ k, g k = if k = c then f r else if k = r then f c else f k) : Hole g lo hi c := by
  obtain ⟨h1, h2⟩ := h
  unfold HpAt at h1
  constructor
  · intro x a b
    have a1 := h1 x a; have a2 := h2 x a; have g1 := hg x; have g2 := hg (2 * x + 1); have g3 := hg (2 * x + 2)
    clear h1 h2 hg
    constructor <;> grind
  · intro x a b
    have a1 := h1 c (by omega) (by omega); have g1 := hg x; have g2 := hg (2 * c + 1); have g3 := hg (2 * c + 2)
    clear h1 h2 hg
    constructor <;> grind
theorem Hole.done {f : Nat → Nat} {lo hi r : Nat} (h : Hole f lo hi r) (h1 : 2 * r + 1 < hi → f (2 * r + 1) ≤ f r) (h2 : 2 * r + 2 < hi → f (2 * r + 2) ≤ f r) : ∀ x, lo ≤ x → HpAt f hi x := by
  intro x hx
  by_cases c : x = r
  · subst c; exact ⟨h1, h2⟩
  · exact h.1 x hx c
theorem Hole.of {f : Nat → Nat} {lo hi : Nat} (h : ∀ x, lo + 1 ≤ x → HpAt f hi x) : Hole f lo hi lo :=
  ⟨fun x h1 h2 => h x (by omega), fun x h1 h2 => by omega⟩
theorem heap_top {f : Nat → Nat} {hi : Nat} (h : ∀ x, HpAt f hi x) : ∀ n x, x ≤ n → x < hi → f x ≤ f 0
  | 0, x, h1, h2 => by rw [show x = 0 by omega]; exact Nat.le_refl _
  | n + 1, x, h1, h2 => by
    by_cases c : x = 0
    · rw [c]; exact Nat.le_refl _
    · have ih := heap_top h n ((x - 1) / 2) (by omega) (by omega)
      have hp := h ((x - 1) / 2)
      refine Nat.le_trans ?_ ih
      by_cases c2 : x = 2 * ((x - 1) / 2) + 1
      · have := hp.1 (by omega)
        rw [← c2] at this; exact this
      · have := hp.2 (by omega)
        rw [show 2 * ((x - 1) / 2) + 2 = x by omega] at this; exact this

section
variable {α : Type} {O : SOr α} {A : AR}
theorem swp_K0 {l : List α} {fs i j : Nat} (hi : fs + i < l.length) (hj : fs + j < l.length) (k : Nat) : K O (swp l (fs + i) (fs + j)) (fs + k) = if k = j then K O l (fs + i) else if k = i then K O l (fs + j) else K O l (fs + k) := by
  rw [swp_K hi hj]
  simp only [Nat.add_left_cancel_iff]

def siftTL : RC := r_slices_siftDownOrdered_string.body.p2.p0.p0.p0.p2.p2.p2
set_option maxHeartbeats 4000000 in
theorem sift_tl (t : St) (hb : A.bk < t.length) (l : List α) (hl : l.length = A.n) (r c fs : Nat) (hr : fs + r < A.n) (hc : fs + c < A.n) (e : Env) (Q : XE → Env → St → Prop)
    (g0 : e.get 0 = A.v) (g3 : e.get 3 = .int .i64 fs) (g4 : e.get 4 = e.get 4) (g10 : e.get 8 = .int .i64 r) (g11 : e.get 9 = .int .i64 c)
    (hR : ¬ K O l (fs + r) < K O l (fs + c) → ∀ e', Q .ret e' (A.S O t l))
    (hN : K O l (fs + r) < K O l (fs + c) → ∀ e' : Env, e'.get 0 = e.get 0 → e'.get 2 = e.get 2 → e'.get 3 = e.get 3 → e'.get 4 = e'.get 4 → e'.get 8 = .int .i64 c → Q .nrm e' (A.S O t (swp l (fs + r) (fs + c)))) :
    awp (Run T0) siftTL Q e (A.S O t l) := by
  have hbig := A.big
  obtain ⟨x, hx⟩ := at_of (show fs + r < l.length by omega)
  obtain ⟨y, hy⟩ := at_of (show fs + c < l.length by omega)
  have xr := A.ix _ hr
  have xc := A.ix _ hc
  have lx := S_ld (O := O) (A := A) hb hx
  have ly := S_ld (O := O) (A := A) hb hy
  obtain ⟨w1, w2⟩ := S_swp (O := O) (A := A) hb hx hy
  have ar := addN (show fs + r < 4611686018427387904 by omega)
  have ac := addN (show fs + c < 4611686018427387904 by omega)
  rw [K_at hx, K_at hy] at hR hN
  obtain ⟨e2, h2⟩ : ∃ e2, e2 = e.get 2 := ⟨_, rfl⟩
  simp only [siftTL, r_slices_siftDownOrdered_string, RC.p1, RC.p2, RC.p0, XX, CC, Nat.reduceAdd, Nat.reduceSub, Nat.reduceLeDiff, Nat.reduceLT, Nat.reduceEqDiff, reduceIte, ↓reduceIte, Nat.reduceBEq]
  refine drw_in [] rfl ?_
  simp only [List.append_nil, DD, CC, Nat.reduceAdd, Nat.reduceSub, Nat.reduceLeDiff, Nat.reduceLT, Nat.reduceEqDiff, reduceIte, ↓reduceIte, Nat.reduceBEq, g0, g3, g4, g10, g11, ar, ac, xr, xc, lx, ly]
  refine dr_callE (O.run _ x y) ?_
  intro e9 he9
  by_cases ck : O.key x < O.key y
  · simp only [DD, CC, Nat.reduceAdd, Nat.reduceSub, Nat.reduceLeDiff, Nat.reduceLT, Nat.reduceEqDiff, reduceIte, ↓reduceIte, Nat.reduceBEq, he9, dec_t ck, Bool.not_true]
    refine drw_in [] rfl ?_
    simp only [List.append_nil, DD, CC, Nat.reduceAdd, Nat.reduceSub, Nat.reduceLeDiff, Nat.reduceLT, Nat.reduceEqDiff, reduceIte, ↓reduceIte, Nat.reduceBEq, g0, g3, g4, g10, g11, ar, ac, xr, xc, lx, ly, w1, w2, dr_stX]
    refine hN ck _ ?_ ?_ ?_ ?_ ?_ <;> (try simp only [XX, CC, Nat.reduceAdd, Nat.reduceSub, Nat.reduceLeDiff, Nat.reduceLT, Nat.reduceEqDiff, reduceIte, ↓reduceIte, Nat.reduceBEq])
  · simp only [DD, CC, Nat.reduceAdd, Nat.reduceSub, Nat.reduceLeDiff, Nat.reduceLT, Nat.reduceEqDiff, reduceIte, ↓reduceIte, Nat.reduceBEq, he9, dec_f ck, Bool.not_false]
    exact hR ck _

set_option maxHeartbeats 4000000 in
theorem sift_r (t : St) (hb : A.bk < t.length) (l : List α) (hl : l.length = A.n) (lo hi fs : Nat) (hn : fs + hi ≤ A.n) (hlo : lo ≤ A.n) (hh : Hole (fun k => K O l (fs + k)) lo hi lo) :
    Run T0 f_slices_siftDownOrdered_string [A.v, .int .i64 lo, .int .i64 hi, .int .i64 fs] (A.S O t l) fun r t' => ∃ l', t' = A.S O t l' ∧ Sw fs (fs + hi) l l' ∧ ∀ x, lo ≤ x → HpAt (fun k => K O l' (fs + k)) hi x := by
  have hbig := A.big
  refine run_body (F := r_slices_siftDownOrdered_string) rfl (by simp [r_slices_siftDownOrdered_string]) ?_
  obtain ⟨TL, hT⟩ : ∃ TL, TL = siftTL := ⟨_, rfl⟩
  have htl := fun l hl r c hr hc e Q g0 g3 g4 g10 g11 hR hN => sift_tl (O := O) (A := A) t hb l hl r c fs hr hc e Q g0 g3 g4 g10 g11 hR hN
  rw [← hT] at htl
  rw [show r_slices_siftDownOrdered_string.body = (let b := r_slices_siftDownOrdered_string.body; let c := b.p2.p0.p0.p0; .seq b.p1 (.block 0 (.loop (.block 1 (.seq c.p1 (.seq c.p2.p1 (.seq c.p2.p2.p1 TL))))))) by rw [hT]; rfl]
  clear hT
  simp only [r_slices_siftDownOrdered_string, RC.p1, RC.p2, RC.p0, XX, CC, Nat.reduceAdd, Nat.reduceSub, Nat.reduceLeDiff, Nat.reduceLT, Nat.reduceEqDiff, reduceIte, ↓reduceIte, Nat.reduceBEq]
  refine awp_rounds (fun d e s => ∃ (r : Nat) (l1 : List α), s = A.S O t l1 ∧ d = hi - r ∧ lo ≤ r ∧ r ≤ A.n ∧ Sw fs (fs + hi) l l1 ∧ Hole (fun k => K O l1 (fs + k)) lo hi r ∧ e.get 0 = A.v ∧ e.get 2 = .int .i64 hi ∧ e.get 3 = .int .i64 fs ∧ e.get 4 = e.get 4 ∧ e.get 8 = .int .i64 r) (hi - lo) ?_ ?_
  · refine ⟨lo, l, rfl, rfl, by omega, by omega, .refl, hh, ?_, ?_, ?_, ?_, ?_⟩ <;> (try simp only [XX, CC, Nat.reduceAdd, Nat.reduceSub, Nat.reduceLeDiff, Nat.reduceLT, Nat.reduceEqDiff, reduceIte, ↓reduceIte, Nat.reduceBEq])
  clear hh
  rintro J d e s hJ ⟨r, l1, rfl, hd, hr, hr2, hs, hh, g0, g2, g3, g4, g10⟩
  have hl1 : l1.length = A.n := hs.len.trans hl
  have m2 : binA .mul (.int .i64 2) (.int .i64 (r : Int)) = some (.int .i64 ((2 * r : Nat) : Int)) := mulN (n := 2) (by decide) (by omega)
  have w1 := w64_nat (show 2 * r < 4611686018427387904 by omega)
  have w2 := w64_nat (show 2 * r + 1 < 4611686018427387904 by omega)
  by_cases c1 : 2 * r + 1 ≥ hi
  · simp only [XX, CC, Nat.reduceAdd, Nat.reduceSub, Nat.reduceLeDiff, Nat.reduceLT, Nat.reduceEqDiff, reduceIte, ↓reduceIte, Nat.reduceBEq, g10, g2, m2, w1, dec_t (show ((2 * r + 1 : Nat) : Int) ≥ hi by omega)]
    exact .inl ⟨l1, rfl, hs, hh.done (fun h => by omega) (fun h => by omega)⟩
  · obtain ⟨x, hx⟩ := at_of (show fs + (2 * r + 1) < l1.length by omega)
    have xr := A.ix _ (show fs + (2 * r + 1) < A.n by omega)
    have lx := S_ld (O := O) (A := A) hb hx
    have ar := addN (show fs + (2 * r + 1) < 4611686018427387904 by omega)
    have aw := w64_nat (show fs + (2 * r + 1) < 4611686018427387904 by omega)
    have hJ' : ∀ (c : Nat) (e' : Env), (c = 2 * r + 1 ∨ c = 2 * r + 2) → c < hi → (2 * r + 1 < hi → K O l1 (fs + (2 * r + 1)) ≤ K O l1 (fs + c)) → (2 * r + 2 < hi → K O l1 (fs + (2 * r + 2)) ≤ K O l1 (fs + c)) → K O l1 (fs + r) < K O l1 (fs + c) → e'.get 0 = A.v → e'.get 2 = .int .i64 hi → e'.get 3 = .int .i64 fs → e'.get 4 = e'.get 4 → e'.get 8 = .int .i64 c → J e' (A.S O t (swp l1 (fs + r) (fs + c))) :=
      fun c e' h1 h2 h3 h4 h5 y0 y2 y3 y4 y10 => hJ (hi - c) e' _ (by omega) ⟨c, _, rfl, rfl, by omega, by omega, hs.step (by omega) (by omega) (by omega) (by omega), hh.next h1 h2 hr h5 h3 h4 (fun k => swp_K0 (by omega) (by omega) k), y0, y2, y3, y4, y10⟩
    have hE : ∀ (c : Nat), (2 * r + 1 < hi → K O l1 (fs + (2 * r + 1)) ≤ K O l1 (fs + c)) → (2 * r + 2 < hi → K O l1 (fs + (2 * r + 2)) ≤ K O l1 (fs + c)) → ¬ K O l1 (fs + r) < K O l1 (fs + c) → ∃ l', A.S O t l1 = A.S O t l' ∧ Sw fs (fs + hi) l l' ∧ ∀ x, lo ≤ x → HpAt (fun k => K O l' (fs + k)) hi x :=
      fun c h1 h2 h3 => ⟨l1, rfl, hs, hh.done (fun h => by have := h1 h; omega) (fun h => by have := h2 h; omega)⟩
    simp only [XX, CC, Nat.reduceAdd, Nat.reduceSub, Nat.reduceLeDiff, Nat.reduceLT, Nat.reduceEqDiff, reduceIte, ↓reduceIte, Nat.reduceBEq, g10, g2, m2, w1, dec_f (show ¬ ((2 * r + 1 : Nat) : Int) ≥ hi by omega)]
    refine drw_in [] rfl ?_
    by_cases c2 : 2 * r + 1 + 1 < hi
    · obtain ⟨y, hy⟩ := at_of (show fs + (2 * r + 2) < l1.length by omega)
      have xc := A.ix _ (show fs + (2 * r + 2) < A.n by omega)
      have ly := S_ld (O := O) (A := A) hb hy
      have kx := K_at (O := O) hx
      have ky := K_at (O := O) hy
      simp only [List.append_nil, DD, CC, Nat.reduceAdd, Nat.reduceSub, Nat.reduceLeDiff, Nat.reduceLT, Nat.reduceEqDiff, reduceIte, ↓reduceIte, Nat.reduceBEq, g0, g2, g3, g4, g10, m2, w1, w2, ar, aw, dec_t (show ((2 * r + 2 : Nat) : Int) < hi by omega), xr, xc, lx, ly]
      refine dr_callE (O.run _ x y) ?_
      intro e9 he9
      by_cases ck : O.key x < O.key y
      · simp only [DD, CC, Nat.reduceAdd, Nat.reduceSub, Nat.reduceLeDiff, Nat.reduceLT, Nat.reduceEqDiff, reduceIte, ↓reduceIte, Nat.reduceBEq, he9, dec_t ck, w2]
        refine htl l1 hl1 r (2 * r + 2) (by omega) (by omega) _ _ ?_ ?_ ?_ ?_ ?_ ?_ ?_ <;> (try simp only [XX, CC, Nat.reduceAdd, Nat.reduceSub, Nat.reduceLeDiff, Nat.reduceLT, Nat.reduceEqDiff, reduceIte, ↓reduceIte, Nat.reduceBEq, g0, g2, g3, g4, g10])
        · intro hn e'
          exact .inl (hE (2 * r + 2) (fun _ => by rw [kx, ky]; omega) (fun _ => Nat.le_refl _) hn)
        · intro hn e' y0 y2 y3 y4 y10
          (try simp only [XX, CC, Nat.reduceAdd, Nat.reduceSub, Nat.reduceLeDiff, Nat.reduceLT, Nat.reduceEqDiff, reduceIte, ↓reduceIte, Nat.reduceBEq])
          exact hJ' _ e' (.inr rfl) (by omega) (fun _ => by rw [kx, ky]; omega) (fun _ => Nat.le_refl _) hn y0 y2 y3 rfl y10
      · simp only [DD, CC, Nat.reduceAdd, Nat.reduceSub, Nat.reduceLeDiff, Nat.reduceLT, Nat.reduceEqDiff, reduceIte, ↓reduceIte, Nat.reduceBEq, he9, dec_f ck, w2]
        refine htl l1 hl1 r (2 * r + 1) (by omega) (by omega) _ _ ?_ ?_ ?_ ?_ ?_ ?_ ?_ <;> (try simp only [XX, CC, Nat.reduceAdd, Nat.reduceSub, Nat.reduceLeDiff, Nat.reduceLT, Nat.reduceEqDiff, reduceIte, ↓reduceIte, Nat.reduceBEq, g0, g2, g3, g4, g10])
        · intro hn e'
          exact .inl (hE (2 * r + 1) (fun _ => Nat.le_refl _) (fun _ => by rw [kx, ky]; omega) hn)
        · intro hn e' y0 y2 y3 y4 y10
          (try simp only [XX, CC, Nat.reduceAdd, Nat.reduceSub, Nat.reduceLeDiff, Nat.reduceLT, Nat.reduceEqDiff, reduceIte, ↓reduceIte, Nat.reduceBEq])
          exact hJ' _ e' (.inl rfl) (by omega) (fun _ => Nat.le_refl _) (fun _ => by rw [kx, ky]; omega) hn y0 y2 y3 rfl y10
    · simp only [List.append_nil, DD, CC, Nat.reduceAdd, Nat.reduceSub, Nat.reduceLeDiff, Nat.reduceLT, Nat.reduceEqDiff, reduceIte, ↓reduceIte, Nat.reduceBEq, g0, g2, g3, g4, g10, m2, w1, w2, dec_f (show ¬ ((2 * r + 2 : Nat) : Int) < hi by omega)]
      refine htl l1 hl1 r (2 * r + 1) (by omega) (by omega) _ _ ?_ ?_ ?_ ?_ ?_ ?_ ?_ <;> (try simp only [XX, CC, Nat.reduceAdd, Nat.reduceSub, Nat.reduceLeDiff, Nat.reduceLT, Nat.reduceEqDiff, reduceIte, ↓reduceIte, Nat.reduceBEq, g0, g2, g3, g4, g10])
      · intro hn e'
        exact .inl (hE (2 * r + 1) (fun _ => Nat.le_refl _) (fun h => by omega) hn)
      · intro hn e' y0 y2 y3 y4 y10
        (try simp only [XX, CC, Nat.reduceAdd, Nat.reduceSub, Nat.reduceLeDiff, Nat.reduceLT, Nat.reduceEqDiff, reduceIte, ↓reduceIte, Nat.reduceBEq])
        exact hJ' _ e' (.inl rfl) (by omega) (fun _ => Nat.le_refl _) (fun h => by omega) hn y0 y2 y3 rfl y10

set_option maxHeartbeats 4000000 in
theorem heap_r (t : St) (hb : A.bk < t.length) (l : List α) (hl : l.length = A.n) (a b : Nat) (hab : a < b) (hbn : b ≤ A.n) :
    Run T0 f_slices_heapSortOrdered_string [A.v, .int .i64 a, .int .i64 b] (A.S O t l) fun r t' => ∃ l', t' = A.S O t l' ∧ Sw a b l l' ∧ Srt (K O l') a b := by
  have hbig := A.big
  refine run_body (F := r_slices_heapSortOrdered_string) rfl (by simp [r_slices_heapSortOrdered_string]) ?_
  have q2 : binA .quo (.int .i64 ((b - a - 1 : Nat) : Int)) (.int .i64 2) = some (.int .i64 (((b - a - 1) / 2 : Nat) : Int)) := quoN (k := 2) (by omega) (by decide)
  have ws := subN (show a ≤ b by omega) (show b < 4611686018427387904 by omega)
  have wp := w64_sub (show 0 < b - a by omega) (by omega)
  simp only [r_slices_heapSortOrdered_string, XX, CC, Nat.reduceAdd, Nat.reduceSub, Nat.reduceLeDiff, Nat.reduceLT, Nat.reduceEqDiff, reduceIte, ↓reduceIte, Nat.reduceBEq, ws, wp, q2]
  refine awp_rounds (fun d e s => ∃ (l1 : List α), s = A.S O t l1 ∧ d ≤ b - a ∧ Sw a b l l1 ∧ (∀ x, d ≤ x → HpAt (fun k => K O l1 (a + k)) (b - a) x) ∧ e.get 0 = A.v ∧ e.get 3 = e.get 3 ∧ e.get 6 = .int .i64 a ∧ e.get 7 = .int .i64 0 ∧ e.get 8 = .int .i64 (b - a : Nat) ∧ e.get 9 = .int .i64 ((d : Int) - 1)) ((b - a - 1) / 2 + 1) ?_ ?_
  · refine ⟨l, rfl, by omega, .refl, fun x hx => ⟨fun h => by omega, fun h => by omega⟩, ?_, ?_, ?_, ?_, ?_, ?_⟩ <;> (try simp only [XX, CC, Nat.reduceAdd, Nat.reduceSub, Nat.reduceLeDiff, Nat.reduceLT, Nat.reduceEqDiff, reduceIte, ↓reduceIte, Nat.reduceBEq]) <;> (try rfl)
    congr 1; omega
  rintro J d e s hJ ⟨l1, rfl, hd, hs, hh, g0, g3, g8, g9, g10, g11⟩
  have hl1 : l1.length = A.n := hs.len.trans hl
  simp only [XX, CC, Nat.reduceAdd, Nat.reduceSub, Nat.reduceLeDiff, Nat.reduceLT, Nat.reduceEqDiff, reduceIte, ↓reduceIte, Nat.reduceBEq, g0, g3, g8, g9, g10, g11]
  cases d with
  | succ d =>
    have e1 : (((d + 1 : Nat) : Int) - 1) = (d : Int) := by omega
    have e2 : IntKind.i64.wrap ((d : Int) - 1) = (d : Int) - 1 := w64_in (by omega) (by omega)
    rw [e1] at g11 ⊢
    simp only [XX, CC, Nat.reduceAdd, Nat.reduceSub, Nat.reduceLeDiff, Nat.reduceLT, Nat.reduceEqDiff, reduceIte, ↓reduceIte, Nat.reduceBEq, dec_t (show (d : Int) ≥ 0 by omega), g0, g3, g8, g10, g11]
    refine Run.mono _ _ _ _ _ ?_ (sift_r t hb l1 hl1 d (b - a) a (by omega) (by omega) (Hole.of hh))
    rintro r t' ⟨l2, rfl, h1, h2⟩
    simp only [XX, CC, Nat.reduceAdd, Nat.reduceSub, Nat.reduceLeDiff, Nat.reduceLT, Nat.reduceEqDiff, reduceIte, ↓reduceIte, Nat.reduceBEq, g11, e2]
    refine hJ d _ _ (by omega) ⟨l2, rfl, by omega, hs.trans (h1.mono (Nat.le_refl _) (by omega)), h2, ?_, ?_, ?_, ?_, ?_, ?_⟩ <;> (try simp only [XX, CC, Nat.reduceAdd, Nat.reduceSub, Nat.reduceLeDiff, Nat.reduceLT, Nat.reduceEqDiff, reduceIte, ↓reduceIte, Nat.reduceBEq, g0, g3, g8, g9, g10, g11])
  | zero =>
    clear hJ
    replace hh := fun x => hh x (Nat.zero_le _)
    simp only [XX, CC, Nat.reduceAdd, Nat.reduceSub, Nat.reduceLeDiff, Nat.reduceLT, Nat.reduceEqDiff, reduceIte, ↓reduceIte, Nat.reduceBEq, dec_f (show ¬ (((0 : Nat) : Int) - 1) ≥ 0 by omega), g10, wp]
    refine awp_rounds (fun d e s => ∃ (l1 : List α), s = A.S O t l1 ∧ d ≤ b - a ∧ Sw a b l l1 ∧ (∀ x, HpAt (fun k => K O l1 (a + k)) d x) ∧ (∀ p q, p ≤ q → d ≤ q → q < b - a → K O l1 (a + p) ≤ K O l1 (a + q)) ∧ e.get 0 = A.v ∧ e.get 3 = e.get 3 ∧ e.get 6 = .int .i64 a ∧ e.get 7 = .int .i64 0 ∧ e.get 10 = .int .i64 ((d : Int) - 1)) (b - a) ?_ ?_
    · refine ⟨l1, rfl, by omega, hs, hh, fun p q h1 h2 h3 => by omega, ?_, ?_, ?_, ?_, ?_⟩ <;> (try simp only [XX, CC, Nat.reduceAdd, Nat.reduceSub, Nat.reduceLeDiff, Nat.reduceLT, Nat.reduceEqDiff, reduceIte, ↓reduceIte, Nat.reduceBEq, g0, g3, g8, g9])
      congr 1; omega
    clear g0 g3 g8 g9 g10 g11 hs hh hl1 l1 e hd
    rintro J d e s hJ ⟨l1, rfl, hd, hs, hh, hsr, g0, g3, g8, g9, g12⟩
    have hl1 : l1.length = A.n := hs.len.trans hl
    simp only [XX, CC, Nat.reduceAdd, Nat.reduceSub, Nat.reduceLeDiff, Nat.reduceLT, Nat.reduceEqDiff, reduceIte, ↓reduceIte, Nat.reduceBEq, g0, g3, g8, g9, g12]
    cases d with
    | succ d =>
      have e1 : (((d + 1 : Nat) : Int) - 1) = (d : Int) := by omega
      have e2 : IntKind.i64.wrap ((d : Int) - 1) = (d : Int) - 1 := w64_in (by omega) (by omega)
      have ad := addN (show a + d < 4611686018427387904 by omega)
      obtain ⟨x, hx⟩ := at_of (show a < l1.length by omega)
      obtain ⟨y, hy⟩ := at_of (show a + d < l1.length by omega)
      have xa := A.ix a (by omega)
      have xd := A.ix (a + d) (by omega)
      have lx := S_ld (O := O) (A := A) hb hx
      have ly := S_ld (O := O) (A := A) hb hy
      obtain ⟨w1, w2⟩ := S_swp (O := O) (A := A) hb hx hy
      rw [e1] at g12 ⊢
      have hK : ∀ k, K O (swp l1 a (a + d)) (a + k) = if k = d then K O l1 (a + 0) else if k = 0 then K O l1 (a + d) else K O l1 (a + k) := fun k => swp_K0 (i := 0) (by omega) (by omega) k
      have hl2 : (swp l1 a (a + d)).length = A.n := swp_len.trans hl1
      have hs2 : Sw a b l (swp l1 a (a + d)) := hs.step (by omega) (by omega) (by omega) (by omega)
      have htop := fun x => heap_top hh x x (Nat.le_refl _)
      -- what the exchange gives
      have p1 : Hole (fun k => K O (swp l1 a (a + d)) (a + k)) 0 d 0 := Hole.of fun x h1 => by
        have a1 := hh x
        have b1 := hK x
        have b2 := hK (2 * x + 1)
        have b3 := hK (2 * x + 2)
        unfold HpAt at a1 ⊢
        clear hh hK htop hsr
        grind
      have p2 : ∀ p q, p ≤ q → d ≤ q → q < b - a → K O (swp l1 a (a + d)) (a + p) ≤ K O (swp l1 a (a + d)) (a + q) := fun p q h1 h2 h3 => by
        have b1 := hK p
        have b2 := hK q
        have t1 := htop p
        have t2 := htop d
        have s1 := hsr p q
        have s2 := hsr d q
        have s3 := hsr 0 q
        clear hh hK htop hsr
        grind
      generalize swp l1 a (a + d) = l2 at w2 hl2 hs2 p1 p2
      clear hK htop hsr hh
      simp only [XX, CC, Nat.reduceAdd, Nat.reduceSub, Nat.reduceLeDiff, Nat.reduceLT, Nat.reduceEqDiff, reduceIte, ↓reduceIte, Nat.reduceBEq, dec_t (show (d : Int) ≥ 0 by omega), g0, g3, g8, g9, g12]
      refine drw_in [] rfl ?_
      simp only [List.append_nil, DD, CC, Nat.reduceAdd, Nat.reduceSub, Nat.reduceLeDiff, Nat.reduceLT, Nat.reduceEqDiff, reduceIte, ↓reduceIte, Nat.reduceBEq, g0, g3, g8, g9, g12, ad, xa, xd, lx, ly, w1, w2, dr_stX]
      refine Run.mono _ _ _ _ _ ?_ (sift_r t hb l2 hl2 0 d a (by omega) (by omega) p1)
      rintro r t' ⟨l3, rfl, h1, h2⟩
      simp only [XX, CC, Nat.reduceAdd, Nat.reduceSub, Nat.reduceLeDiff, Nat.reduceLT, Nat.reduceEqDiff, reduceIte, ↓reduceIte, Nat.reduceBEq, g12, e2]
      refine hJ d _ _ (by omega) ⟨l3, rfl, by omega, hs2.trans (h1.mono (Nat.le_refl _) (by omega)), fun x => h2 x (Nat.zero_le _), ?_, ?_, ?_, ?_, ?_, ?_⟩ <;> (try simp only [XX, CC, Nat.reduceAdd, Nat.reduceSub, Nat.reduceLeDiff, Nat.reduceLT, Nat.reduceEqDiff, reduceIte, ↓reduceIte, Nat.reduceBEq, g0, g3, g8, g9, g12])
      intro p q h3 h4 h5
      rw [h1.out (O := O) (by omega) (k := a + q) (.inr (by omega))]
      by_cases c : p < d
      · exact h1.all (O := O) (by omega) (P := fun z => z ≤ K O l2 (a + q)) (fun k k1 k2 => by
          have := p2 (k - a) q (by omega) h4 h5
          rw [show a + (k - a) = k by omega] at this
          exact this) (a + p) (by omega) (by omega)
      · rw [h1.out (O := O) (by omega) (k := a + p) (.inr (by omega))]
        exact p2 p q h3 h4 h5
    | zero =>
      simp only [XX, CC, Nat.reduceAdd, Nat.reduceSub, Nat.reduceLeDiff, Nat.reduceLT, Nat.reduceEqDiff, reduceIte, ↓reduceIte, Nat.reduceBEq, dec_f (show ¬ (((0 : Nat) : Int) - 1) ≥ 0 by omega)]
      refine .inl ⟨l1, rfl, hs, fun p q h1 h2 h3 => ?_⟩
      have := hsr (p - a) (q - a) (by omega) (by omega) (by omega)
      rw [show a + (p - a) = p by omega, show a + (q - a) = q by omega] at this
      exact this
end
end Go.Ev.So

/-! The scanning loops of the partitions. (printed by gen_scan.py) -/
namespace Go.Ev.So
open Go.Ev
set_option linter.unusedVariables false
set_option linter.unusedSimpArgs false

section
variable {α : Type} {O : SOr α} {A : AR}

set_option maxHeartbeats 4000000 in
theorem pa1 (t : St) (hb : A.bk < t.length) (l : List α) (hl : l.length = A.n) (a i j : Nat) (ha : a < A.n) (hij : i ≤ j + 1) (hi : 0 < i) (hj : j < A.n) (e : Env) (Q : XE → Env → St → Prop)
    (g0 : e.get 0 = A.v) (g1 : e.get 1 = .int .i64 a) (g4 : e.get 4 = e.get 4) (gI : e.get 10 = .int .i64 i) (gJ : e.get 11 = .int .i64 j)
    (hK : ∀ (x : Nat) (e' : Env), i ≤ x → x ≤ j + 1 → (∀ k, i ≤ k → k < x → K O l k < K O l a) → (x = j + 1 ∨ ¬ (K O l x < K O l a)) → e'.get 0 = e.get 0 → e'.get 1 = e.get 1 → e'.get 2 = e.get 2 → e'.get 4 = e'.get 4 → e'.get 11 = e.get 11 → e'.get 10 = .int .i64 x → Q .nrm e' (A.S O t l)) : awp (Run T0) r_slices_partitionOrdered_string.body.p2.p2.p2.p1 Q e (A.S O t l) := by
  have hbig := A.big
  obtain ⟨w, hw⟩ := at_of (show a < l.length by omega)
  have xa := A.ix a ha
  have lw := S_ld (O := O) (A := A) hb hw
  have kw := K_at (O := O) hw
  obtain ⟨e2, he2⟩ : ∃ e2, e2 = e.get 2 := ⟨_, rfl⟩
  simp only [r_slices_partitionOrdered_string, RC.p1, RC.p2, RC.p0, XX, CC, Nat.reduceAdd, Nat.reduceSub, Nat.reduceLeDiff, Nat.reduceLT, Nat.reduceEqDiff, reduceIte, ↓reduceIte, Nat.reduceBEq]
  refine awp_rounds (fun d e1 s => ∃ x : Nat, s = A.S O t l ∧ d = j + 1 - x ∧ i ≤ x ∧ x ≤ j + 1 ∧ (∀ k, i ≤ k → k < x → K O l k < K O l a) ∧ e1.get 0 = e.get 0 ∧ e1.get 1 = e.get 1 ∧ e1.get 2 = e.get 2 ∧ e1.get 4 = e1.get 4 ∧ e1.get 11 = e.get 11 ∧ e1.get 10 = .int .i64 x) (j + 1 - i) ?_ ?_
  · exact ⟨i, rfl, by omega, by omega, by omega, fun k k1 k2 => by omega, rfl, rfl, rfl, rfl, rfl, gI⟩
  rintro J d e1 s hJ ⟨x, rfl, hd, h1, h2, hall, y0, y1, y2, y4, y13, yV⟩
  (try rw [g0] at y0)
  (try rw [g1] at y1)
  (try rw [g4] at y4)
  (try rw [gJ] at y13)
  (try rw [g0] at hK); (try rw [g0] at hJ); (try rw [g1] at hK); (try rw [g1] at hJ); (try rw [g4] at hK); (try rw [g4] at hJ); (try rw [gJ] at hK); (try rw [gJ] at hJ)
  by_cases c : x ≤ j
  · have hx1 : x < l.length := by omega
    obtain ⟨u, hu⟩ := at_of hx1
    have xu := A.ix x (by omega)
    have lu := S_ld (O := O) (A := A) hb hu
    have ku := K_at (O := O) hu
    have hw := w64_nat (show x < 4611686018427387904 by omega)
    simp only [XX, CC, Nat.reduceAdd, Nat.reduceSub, Nat.reduceLeDiff, Nat.reduceLT, Nat.reduceEqDiff, reduceIte, ↓reduceIte, Nat.reduceBEq]
    refine drw_in [] rfl ?_
    simp only [List.append_nil, DD, CC, Nat.reduceAdd, Nat.reduceSub, Nat.reduceLeDiff, Nat.reduceLT, Nat.reduceEqDiff, reduceIte, ↓reduceIte, Nat.reduceBEq, y0, y1, y4, y13, yV, dec_t (show (x : Int) ≤ j by omega), xa, xu, lu, lw]
    refine dr_callE (O.run _ u w) ?_
    intro e9 he9
    by_cases ck : O.key u < O.key w
    · simp only [DD, CC, Nat.reduceAdd, Nat.reduceSub, Nat.reduceLeDiff, Nat.reduceLT, Nat.reduceEqDiff, reduceIte, ↓reduceIte, Nat.reduceBEq, he9, dec_t ck, Bool.not_true, Bool.not_false, y0, y1, y4, y13, yV, hw]
      refine hJ (j + 1 - (x + 1)) _ _ (by omega) ⟨x + 1, rfl, rfl, by omega, by omega, fun k k1 k2 => ?_, ?_, ?_, ?_, ?_, ?_, ?_⟩ <;> (try simp only [XX, CC, Nat.reduceAdd, Nat.reduceSub, Nat.reduceLeDiff, Nat.reduceLT, Nat.reduceEqDiff, reduceIte, ↓reduceIte, Nat.reduceBEq, y0, y1, y2, y4, y13, yV, hw])
      by_cases kx : k = x
      · subst kx; exact (by rw [ku, kw]; exact ck)
      · exact hall k k1 (by omega)
    · simp only [DD, CC, Nat.reduceAdd, Nat.reduceSub, Nat.reduceLeDiff, Nat.reduceLT, Nat.reduceEqDiff, reduceIte, ↓reduceIte, Nat.reduceBEq, he9, dec_f ck, Bool.not_true, Bool.not_false, y0, y1, y4, y13, yV, hw]
      refine hK x _ h1 h2 hall (.inr (by rw [ku, kw]; exact ck)) ?_ ?_ ?_ ?_ ?_ ?_ <;> (try simp only [XX, CC, Nat.reduceAdd, Nat.reduceSub, Nat.reduceLeDiff, Nat.reduceLT, Nat.reduceEqDiff, reduceIte, ↓reduceIte, Nat.reduceBEq, y0, y1, y2, y4, y13, yV])
  · simp only [XX, CC, Nat.reduceAdd, Nat.reduceSub, Nat.reduceLeDiff, Nat.reduceLT, Nat.reduceEqDiff, reduceIte, ↓reduceIte, Nat.reduceBEq]
    refine drw_in [] rfl ?_
    simp only [List.append_nil, DD, CC, Nat.reduceAdd, Nat.reduceSub, Nat.reduceLeDiff, Nat.reduceLT, Nat.reduceEqDiff, reduceIte, ↓reduceIte, Nat.reduceBEq, y0, y1, y4, y13, yV, dec_f (show ¬ (x : Int) ≤ j by omega)]
    refine hK x _ h1 h2 hall (.inl (by omega)) ?_ ?_ ?_ ?_ ?_ ?_ <;> (try simp only [XX, CC, Nat.reduceAdd, Nat.reduceSub, Nat.reduceLeDiff, Nat.reduceLT, Nat.reduceEqDiff, reduceIte, ↓reduceIte, Nat.reduceBEq, y0, y1, y2, y4, y13, yV])

set_option maxHeartbeats 4000000 in
theorem pa2 (t : St) (hb : A.bk < t.length) (l : List α) (hl : l.length = A.n) (a i j : Nat) (ha : a < A.n) (hij : i ≤ j + 1) (hi : 0 < i) (hj : j < A.n) (e : Env) (Q : XE → Env → St → Prop)
    (g0 : e.get 0 = A.v) (g1 : e.get 1 = .int .i64 a) (g4 : e.get 4 = e.get 4) (gI : e.get 10 = .int .i64 i) (gJ : e.get 11 = .int .i64 j)
    (hK : ∀ (x : Nat) (e' : Env), i ≤ x + 1 → x ≤ j → (∀ k, x < k → k ≤ j → ¬ K O l k < K O l a) → (x + 1 = i ∨ ¬ (¬ K O l x < K O l a)) → e'.get 0 = e.get 0 → e'.get 1 = e.get 1 → e'.get 2 = e.get 2 → e'.get 4 = e'.get 4 → e'.get 10 = e.get 10 → e'.get 11 = .int .i64 x → Q .nrm e' (A.S O t l)) : awp (Run T0) r_slices_partitionOrdered_string.body.p2.p2.p2.p2.p1 Q e (A.S O t l) := by
  have hbig := A.big
  obtain ⟨w, hw⟩ := at_of (show a < l.length by omega)
  have xa := A.ix a ha
  have lw := S_ld (O := O) (A := A) hb hw
  have kw := K_at (O := O) hw
  obtain ⟨e2, he2⟩ : ∃ e2, e2 = e.get 2 := ⟨_, rfl⟩
  simp only [r_slices_partitionOrdered_string, RC.p1, RC.p2, RC.p0, XX, CC, Nat.reduceAdd, Nat.reduceSub, Nat.reduceLeDiff, Nat.reduceLT, Nat.reduceEqDiff, reduceIte, ↓reduceIte, Nat.reduceBEq]
  refine awp_rounds (fun d e1 s => ∃ x : Nat, s = A.S O t l ∧ d = x + 1 - i ∧ i ≤ x + 1 ∧ x ≤ j ∧ (∀ k, x < k → k ≤ j → ¬ K O l k < K O l a) ∧ e1.get 0 = e.get 0 ∧ e1.get 1 = e.get 1 ∧ e1.get 2 = e.get 2 ∧ e1.get 4 = e1.get 4 ∧ e1.get 10 = e.get 10 ∧ e1.get 11 = .int .i64 x) (j + 1 - i) ?_ ?_
  · exact ⟨j, rfl, by omega, by omega, by omega, fun k k1 k2 => by omega, rfl, rfl, rfl, rfl, rfl, gJ⟩
  rintro J d e1 s hJ ⟨x, rfl, hd, h1, h2, hall, y0, y1, y2, y4, y12, yV⟩
  (try rw [g0] at y0)
  (try rw [g1] at y1)
  (try rw [g4] at y4)
  (try rw [gI] at y12)
  (try rw [g0] at hK); (try rw [g0] at hJ); (try rw [g1] at hK); (try rw [g1] at hJ); (try rw [g4] at hK); (try rw [g4] at hJ); (try rw [gI] at hK); (try rw [gI] at hJ)
  by_cases c : i ≤ x
  · have hx1 : x < l.length := by omega
    obtain ⟨u, hu⟩ := at_of hx1
    have xu := A.ix x (by omega)
    have lu := S_ld (O := O) (A := A) hb hu
    have ku := K_at (O := O) hu
    have hw := w64_sub (show 0 < x by omega) (show x < 4611686018427387904 by omega)
    simp only [XX, CC, Nat.reduceAdd, Nat.reduceSub, Nat.reduceLeDiff, Nat.reduceLT, Nat.reduceEqDiff, reduceIte, ↓reduceIte, Nat.reduceBEq]
    refine drw_in [] rfl ?_
    simp only [List.append_nil, DD, CC, Nat.reduceAdd, Nat.reduceSub, Nat.reduceLeDiff, Nat.reduceLT, Nat.reduceEqDiff, reduceIte, ↓reduceIte, Nat.reduceBEq, y0, y1, y4, y12, yV, dec_t (show (i : Int) ≤ x by omega), xa, xu, lu, lw]
    refine dr_callE (O.run _ u w) ?_
    intro e9 he9
    by_cases ck : O.key u < O.key w
    · simp only [DD, CC, Nat.reduceAdd, Nat.reduceSub, Nat.reduceLeDiff, Nat.reduceLT, Nat.reduceEqDiff, reduceIte, ↓reduceIte, Nat.reduceBEq, he9, dec_t ck, Bool.not_true, Bool.not_false, y0, y1, y4, y12, yV, hw]
      refine hK x _ h1 h2 hall (.inr (by rw [ku, kw]; exact fun h => h ck)) ?_ ?_ ?_ ?_ ?_ ?_ <;> (try simp only [XX, CC, Nat.reduceAdd, Nat.reduceSub, Nat.reduceLeDiff, Nat.reduceLT, Nat.reduceEqDiff, reduceIte, ↓reduceIte, Nat.reduceBEq, y0, y1, y2, y4, y12, yV])
    · simp only [DD, CC, Nat.reduceAdd, Nat.reduceSub, Nat.reduceLeDiff, Nat.reduceLT, Nat.reduceEqDiff, reduceIte, ↓reduceIte, Nat.reduceBEq, he9, dec_f ck, Bool.not_true, Bool.not_false, y0, y1, y4, y12, yV, hw]
      refine hJ (x - 1 + 1 - i) _ _ (by omega) ⟨x - 1, rfl, rfl, by omega, by omega, fun k k1 k2 => ?_, ?_, ?_, ?_, ?_, ?_, ?_⟩ <;> (try simp only [XX, CC, Nat.reduceAdd, Nat.reduceSub, Nat.reduceLeDiff, Nat.reduceLT, Nat.reduceEqDiff, reduceIte, ↓reduceIte, Nat.reduceBEq, y0, y1, y2, y4, y12, yV, hw])
      by_cases kx : k = x
      · subst kx; exact (by rw [ku, kw]; exact ck)
      · exact hall k (by omega) k2
  · simp only [XX, CC, Nat.reduceAdd, Nat.reduceSub, Nat.reduceLeDiff, Nat.reduceLT, Nat.reduceEqDiff, reduceIte, ↓reduceIte, Nat.reduceBEq]
    refine drw_in [] rfl ?_
    simp only [List.append_nil, DD, CC, Nat.reduceAdd, Nat.reduceSub, Nat.reduceLeDiff, Nat.reduceLT, Nat.reduceEqDiff, reduceIte, ↓reduceIte, Nat.reduceBEq, y0, y1, y4, y12, yV, dec_f (show ¬ (i : Int) ≤ x by omega)]
    refine hK x _ h1 h2 hall (.inl (by omega)) ?_ ?_ ?_ ?_ ?_ ?_ <;> (try simp only [XX, CC, Nat.reduceAdd, Nat.reduceSub, Nat.reduceLeDiff, Nat.reduceLT, Nat.reduceEqDiff, reduceIte, ↓reduceIte, Nat.reduceBEq, y0, y1, y2, y4, y12, yV])

set_option maxHeartbeats 4000000 in
theorem pa3 (t : St) (hb : A.bk < t.length) (l : List α) (hl : l.length = A.n) (a i j : Nat) (ha : a < A.n) (hij : i ≤ j + 1) (hi : 0 < i) (hj : j < A.n) (e : Env) (Q : XE → Env → St → Prop)
    (g0 : e.get 0 = A.v) (g1 : e.get 1 = .int .i64 a) (g4 : e.get 4 = e.get 4) (gI : e.get 10 = .int .i64 i) (gJ : e.get 11 = .int .i64 j)
    (hK : ∀ (x : Nat) (e' : Env), i ≤ x → x ≤ j + 1 → (∀ k, i ≤ k → k < x → K O l k < K O l a) → (x = j + 1 ∨ ¬ (K O l x < K O l a)) → e'.get 0 = e.get 0 → e'.get 1 = e.get 1 → e'.get 2 = e.get 2 → e'.get 4 = e'.get 4 → e'.get 11 = e.get 11 → e'.get 10 = .int .i64 x → Q .nrm e' (A.S O t l)) : awp (Run T0) r_slices_partitionOrdered_string.body.p2.p2.p2.p2.p2.p2.p2.p2.p2.p1.p0.p0.p0.p1 Q e (A.S O t l) := by
  have hbig := A.big
  obtain ⟨w, hw⟩ := at_of (show a < l.length by omega)
  have xa := A.ix a ha
  have lw := S_ld (O := O) (A := A) hb hw
  have kw := K_at (O := O) hw
  obtain ⟨e2, he2⟩ : ∃ e2, e2 = e.get 2 := ⟨_, rfl⟩
  simp only [r_slices_partitionOrdered_string, RC.p1, RC.p2, RC.p0, XX, CC, Nat.reduceAdd, Nat.reduceSub, Nat.reduceLeDiff, Nat.reduceLT, Nat.reduceEqDiff, reduceIte, ↓reduceIte, Nat.reduceBEq]
  refine awp_rounds (fun d e1 s => ∃ x : Nat, s = A.S O t l ∧ d = j + 1 - x ∧ i ≤ x ∧ x ≤ j + 1 ∧ (∀ k, i ≤ k → k < x → K O l k < K O l a) ∧ e1.get 0 = e.get 0 ∧ e1.get 1 = e.get 1 ∧ e1.get 2 = e.get 2 ∧ e1.get 4 = e1.get 4 ∧ e1.get 11 = e.get 11 ∧ e1.get 10 = .int .i64 x) (j + 1 - i) ?_ ?_
  · exact ⟨i, rfl, by omega, by omega, by omega, fun k k1 k2 => by omega, rfl, rfl, rfl, rfl, rfl, gI⟩
  rintro J d e1 s hJ ⟨x, rfl, hd, h1, h2, hall, y0, y1, y2, y4, y13, yV⟩
  (try rw [g0] at y0)
  (try rw [g1] at y1)
  (try rw [g4] at y4)
  (try rw [gJ] at y13)
  (try rw [g0] at hK); (try rw [g0] at hJ); (try rw [g1] at hK); (try rw [g1] at hJ); (try rw [g4] at hK); (try rw [g4] at hJ); (try rw [gJ] at hK); (try rw [gJ] at hJ)
  by_cases c : x ≤ j
  · have hx1 : x < l.length := by omega
    obtain ⟨u, hu⟩ := at_of hx1
    have xu := A.ix x (by omega)
    have lu := S_ld (O := O) (A := A) hb hu
    have ku := K_at (O := O) hu
    have hw := w64_nat (show x < 4611686018427387904 by omega)
    simp only [XX, CC, Nat.reduceAdd, Nat.reduceSub, Nat.reduceLeDiff, Nat.reduceLT, Nat.reduceEqDiff, reduceIte, ↓reduceIte, Nat.reduceBEq]
    refine drw_in [] rfl ?_
    simp only [List.append_nil, DD, CC, Nat.reduceAdd, Nat.reduceSub, Nat.reduceLeDiff, Nat.reduceLT, Nat.reduceEqDiff, reduceIte, ↓reduceIte, Nat.reduceBEq, y0, y1, y4, y13, yV, dec_t (show (x : Int) ≤ j by omega), xa, xu, lu, lw]
    refine dr_callE (O.run _ u w) ?_
    intro e9 he9
    by_cases ck : O.key u < O.key w
    · simp only [DD, CC, Nat.reduceAdd, Nat.reduceSub, Nat.reduceLeDiff, Nat.reduceLT, Nat.reduceEqDiff, reduceIte, ↓reduceIte, Nat.reduceBEq, he9, dec_t ck, Bool.not_true, Bool.not_false, y0, y1, y4, y13, yV, hw]
      refine hJ (j + 1 - (x + 1)) _ _ (by omega) ⟨x + 1, rfl, rfl, by omega, by omega, fun k k1 k2 => ?_, ?_, ?_, ?_, ?_, ?_, ?_⟩ <;> (try simp only [XX, CC, Nat.reduceAdd, Nat.reduceSub, Nat.reduceLeDiff, Nat.reduceLT, Nat.reduceEqDiff, reduceIte, ↓reduceIte, Nat.reduceBEq, y0, y1, y2, y4, y13, yV, hw])
      by_cases kx : k = x
      · subst kx; exact (by rw [ku, kw]; exact ck)
      · exact hall k k1 (by omega)
    · simp only [DD, CC, Nat.reduceAdd, Nat.reduceSub, Nat.reduceLeDiff, Nat.reduceLT, Nat.reduceEqDiff, reduceIte, ↓reduceIte, Nat.reduceBEq, he9, dec_f ck, Bool.not_true, Bool.not_false, y0, y1, y4, y13, yV, hw]
      refine hK x _ h1 h2 hall (.inr (by rw [ku, kw]; exact ck)) ?_ ?_ ?_ ?_ ?_ ?_ <;> (try simp only [XX, CC, Nat.reduceAdd, Nat.reduceSub, Nat.reduceLeDiff, Nat.reduceLT, Nat.reduceEqDiff, reduceIte, ↓reduceIte, Nat.reduceBEq, y0, y1, y2, y4, y13, yV])
  · simp only [XX, CC, Nat.reduceAdd, Nat.reduceSub, Nat.reduceLeDiff, Nat.reduceLT, Nat.reduceEqDiff, reduceIte, ↓reduceIte, Nat.reduceBEq]
    refine drw_in [] rfl ?_
    simp only [List.append_nil, DD, CC, Nat.reduceAdd, Nat.reduceSub, Nat.reduceLeDiff, Nat.reduceLT, Nat.reduceEqDiff, reduceIte, ↓reduceIte, Nat.reduceBEq, y0, y1, y4, y13, yV, dec_f (show ¬ (x : Int) ≤ j by omega)]
    refine hK x _ h1 h2 hall (.inl (by omega)) ?_ ?_ ?_ ?_ ?_ ?_ <;> (try simp only [XX, CC, Nat.reduceAdd, Nat.reduceSub, Nat.reduceLeDiff, Nat.reduceLT, Nat.reduceEqDiff, reduceIte, ↓reduceIte, Nat.reduceBEq, y0, y1, y2, y4, y13, yV])

set_option maxHeartbeats 4000000 in
theorem pa4 (t : St) (hb : A.bk < t.length) (l : List α) (hl : l.length = A.n) (a i j : Nat) (ha : a < A.n) (hij : i ≤ j + 1) (hi : 0 < i) (hj : j < A.n) (e : Env) (Q : XE → Env → St → Prop)
    (g0 : e.get 0 = A.v) (g1 : e.get 1 = .int .i64 a) (g4 : e.get 4 = e.get 4) (gI : e.get 10 = .int .i64 i) (gJ : e.get 11 = .int .i64 j)
    (hK : ∀ (x : Nat) (e' : Env), i ≤ x + 1 → x ≤ j → (∀ k, x < k → k ≤ j → ¬ K O l k < K O l a) → (x + 1 = i ∨ ¬ (¬ K O l x < K O l a)) → e'.get 0 = e.get 0 → e'.get 1 = e.get 1 → e'.get 2 = e.get 2 → e'.get 4 = e'.get 4 → e'.get 10 = e.get 10 → e'.get 11 = .int .i64 x → Q .nrm e' (A.S O t l)) : awp (Run T0) r_slices_partitionOrdered_string.body.p2.p2.p2.p2.p2.p2.p2.p2.p2.p1.p0.p0.p0.p2.p1 Q e (A.S O t l) := by
  have hbig := A.big
  obtain ⟨w, hw⟩ := at_of (show a < l.length by omega)
  have xa := A.ix a ha
  have lw := S_ld (O := O) (A := A) hb hw
  have kw := K_at (O := O) hw
  obtain ⟨e2, he2⟩ : ∃ e2, e2 = e.get 2 := ⟨_, rfl⟩
  simp only [r_slices_partitionOrdered_string, RC.p1, RC.p2, RC.p0, XX, CC, Nat.reduceAdd, Nat.reduceSub, Nat.reduceLeDiff, Nat.reduceLT, Nat.reduceEqDiff, reduceIte, ↓reduceIte, Nat.reduceBEq]
  refine awp_rounds (fun d e1 s => ∃ x : Nat, s = A.S O t l ∧ d = x + 1 - i ∧ i ≤ x + 1 ∧ x ≤ j ∧ (∀ k, x < k → k ≤ j → ¬ K O l k < K O l a) ∧ e1.get 0 = e.get 0 ∧ e1.get 1 = e.get 1 ∧ e1.get 2 = e.get 2 ∧ e1.get 4 = e1.get 4 ∧ e1.get 10 = e.get 10 ∧ e1.get 11 = .int .i64 x) (j + 1 - i) ?_ ?_
  · exact ⟨j, rfl, by omega, by omega, by omega, fun k k1 k2 => by omega, rfl, rfl, rfl, rfl, rfl, gJ⟩
  rintro J d e1 s hJ ⟨x, rfl, hd, h1, h2, hall, y0, y1, y2, y4, y12, yV⟩
  (try rw [g0] at y0)
  (try rw [g1] at y1)
  (try rw [g4] at y4)
  (try rw [gI] at y12)
  (try rw [g0] at hK); (try rw [g0] at hJ); (try rw [g1] at hK); (try rw [g1] at hJ); (try rw [g4] at hK); (try rw [g4] at hJ); (try rw [gI] at hK); (try rw [gI] at hJ)
  by_cases c : i ≤ x
  · have hx1 : x < l.length := by omega
    obtain ⟨u, hu⟩ := at_of hx1
    have xu := A.ix x (by omega)
    have lu := S_ld (O := O) (A := A) hb hu
    have ku := K_at (O := O) hu
    have hw := w64_sub (show 0 < x by omega) (show x < 4611686018427387904 by omega)
    simp only [XX, CC, Nat.reduceAdd, Nat.reduceSub, Nat.reduceLeDiff, Nat.reduceLT, Nat.reduceEqDiff, reduceIte, ↓reduceIte, Nat.reduceBEq]
    refine drw_in [] rfl ?_
    simp only [List.append_nil, DD, CC, Nat.reduceAdd, Nat.reduceSub, Nat.reduceLeDiff, Nat.reduceLT, Nat.reduceEqDiff, reduceIte, ↓reduceIte, Nat.reduceBEq, y0, y1, y4, y12, yV, dec_t (show (i : Int) ≤ x by omega), xa, xu, lu, lw]
    refine dr_callE (O.run _ u w) ?_
    intro e9 he9
    by_cases ck : O.key u < O.key w
    · simp only [DD, CC, Nat.reduceAdd, Nat.reduceSub, Nat.reduceLeDiff, Nat.reduceLT, Nat.reduceEqDiff, reduceIte, ↓reduceIte, Nat.reduceBEq, he9, dec_t ck, Bool.not_true, Bool.not_false, y0, y1, y4, y12, yV, hw]
      refine hK x _ h1 h2 hall (.inr (by rw [ku, kw]; exact fun h => h ck)) ?_ ?_ ?_ ?_ ?_ ?_ <;> (try simp only [XX, CC, Nat.reduceAdd, Nat.reduceSub, Nat.reduceLeDiff, Nat.reduceLT, Nat.reduceEqDiff, reduceIte, ↓reduceIte, Nat.reduceBEq, y0, y1, y2, y4, y12, yV])
    · simp only [DD, CC, Nat.reduceAdd, Nat.reduceSub, Nat.reduceLeDiff, Nat.reduceLT, Nat.reduceEqDiff, reduceIte, ↓reduceIte, Nat.reduceBEq, he9, dec_f ck, Bool.not_true, Bool.not_false, y0, y1, y4, y12, yV, hw]
      refine hJ (x - 1 + 1 - i) _ _ (by omega) ⟨x - 1, rfl, rfl, by omega, by omega, fun k k1 k2 => ?_, ?_, ?_, ?_, ?_, ?_, ?_⟩ <;> (try simp only [XX, CC, Nat.reduceAdd, Nat.reduceSub, Nat.reduceLeDiff, Nat.reduceLT, Nat.reduceEqDiff, reduceIte, ↓reduceIte, Nat.reduceBEq, y0, y1, y2, y4, y12, yV, hw])
      by_cases kx : k = x
      · subst kx; exact (by rw [ku, kw]; exact ck)
      · exact hall k (by omega) k2
  · simp only [XX, CC, Nat.reduceAdd, Nat.reduceSub, Nat.reduceLeDiff, Nat.reduceLT, Nat.reduceEqDiff, reduceIte, ↓reduceIte, Nat.reduceBEq]
    refine drw_in [] rfl ?_
    simp only [List.append_nil, DD, CC, Nat.reduceAdd, Nat.reduceSub, Nat.reduceLeDiff, Nat.reduceLT, Nat.reduceEqDiff, reduceIte, ↓reduceIte, Nat.reduceBEq, y0, y1, y4, y12, yV, dec_f (show ¬ (i : Int) ≤ x by omega)]
    refine hK x _ h1 h2 hall (.inl (by omega)) ?_ ?_ ?_ ?_ ?_ ?_ <;> (try simp only [XX, CC, Nat.reduceAdd, Nat.reduceSub, Nat.reduceLeDiff, Nat.reduceLT, Nat.reduceEqDiff, reduceIte, ↓reduceIte, Nat.reduceBEq, y0, y1, y2, y4, y12, yV])

set_option maxHeartbeats 4000000 in
theorem pe1 (t : St) (hb : A.bk < t.length) (l : List α) (hl : l.length = A.n) (a i j : Nat) (ha : a < A.n) (hij : i ≤ j + 1) (hi : 0 < i) (hj : j < A.n) (e : Env) (Q : XE → Env → St → Prop)
    (g0 : e.get 0 = A.v) (g1 : e.get 1 = .int .i64 a) (g4 : e.get 4 = e.get 4) (gI : e.get 9 = .int .i64 i) (gJ : e.get 10 = .int .i64 j)
    (hK : ∀ (x : Nat) (e' : Env), i ≤ x → x ≤ j + 1 → (∀ k, i ≤ k → k < x → ¬ K O l a < K O l k) → (x = j + 1 ∨ ¬ (¬ K O l a < K O l x)) → e'.get 0 = e.get 0 → e'.get 1 = e.get 1 → e'.get 2 = e.get 2 → e'.get 4 = e'.get 4 → e'.get 10 = e.get 10 → e'.get 9 = .int .i64 x → Q .nrm e' (A.S O t l)) : awp (Run T0) r_slices_partitionEqualOrdered_string.body.p2.p2.p2.p1.p0.p0.p0.p1 Q e (A.S O t l) := by
  have hbig := A.big
  obtain ⟨w, hw⟩ := at_of (show a < l.length by omega)
  have xa := A.ix a ha
  have lw := S_ld (O := O) (A := A) hb hw
  have kw := K_at (O := O) hw
  obtain ⟨e2, he2⟩ : ∃ e2, e2 = e.get 2 := ⟨_, rfl⟩
  simp only [r_slices_partitionEqualOrdered_string, RC.p1, RC.p2, RC.p0, XX, CC, Nat.reduceAdd, Nat.reduceSub, Nat.reduceLeDiff, Nat.reduceLT, Nat.reduceEqDiff, reduceIte, ↓reduceIte, Nat.reduceBEq]
  refine awp_rounds (fun d e1 s => ∃ x : Nat, s = A.S O t l ∧ d = j + 1 - x ∧ i ≤ x ∧ x ≤ j + 1 ∧ (∀ k, i ≤ k → k < x → ¬ K O l a < K O l k) ∧ e1.get 0 = e.get 0 ∧ e1.get 1 = e.get 1 ∧ e1.get 2 = e.get 2 ∧ e1.get 4 = e1.get 4 ∧ e1.get 10 = e.get 10 ∧ e1.get 9 = .int .i64 x) (j + 1 - i) ?_ ?_
  · exact ⟨i, rfl, by omega, by omega, by omega, fun k k1 k2 => by omega, rfl, rfl, rfl, rfl, rfl, gI⟩
  rintro J d e1 s hJ ⟨x, rfl, hd, h1, h2, hall, y0, y1, y2, y4, y12, yV⟩
  (try rw [g0] at y0)
  (try rw [g1] at y1)
  (try rw [g4] at y4)
  (try rw [gJ] at y12)
  (try rw [g0] at hK); (try rw [g0] at hJ); (try rw [g1] at hK); (try rw [g1] at hJ); (try rw [g4] at hK); (try rw [g4] at hJ); (try rw [gJ] at hK); (try rw [gJ] at hJ)
  by_cases c : x ≤ j
  · have hx1 : x < l.length := by omega
    obtain ⟨u, hu⟩ := at_of hx1
    have xu := A.ix x (by omega)
    have lu := S_ld (O := O) (A := A) hb hu
    have ku := K_at (O := O) hu
    have hw := w64_nat (show x < 4611686018427387904 by omega)
    simp only [XX, CC, Nat.reduceAdd, Nat.reduceSub, Nat.reduceLeDiff, Nat.reduceLT, Nat.reduceEqDiff, reduceIte, ↓reduceIte, Nat.reduceBEq]
    refine drw_in [] rfl ?_
    simp only [List.append_nil, DD, CC, Nat.reduceAdd, Nat.reduceSub, Nat.reduceLeDiff, Nat.reduceLT, Nat.reduceEqDiff, reduceIte, ↓reduceIte, Nat.reduceBEq, y0, y1, y4, y12, yV, dec_t (show (x : Int) ≤ j by omega), xa, xu, lu, lw]
    refine dr_callE (O.run _ w u) ?_
    intro e9 he9
    by_cases ck : O.key w < O.key u
    · simp only [DD, CC, Nat.reduceAdd, Nat.reduceSub, Nat.reduceLeDiff, Nat.reduceLT, Nat.reduceEqDiff, reduceIte, ↓reduceIte, Nat.reduceBEq, he9, dec_t ck, Bool.not_true, Bool.not_false, y0, y1, y4, y12, yV, hw]
      refine hK x _ h1 h2 hall (.inr (by rw [ku, kw]; exact fun h => h ck)) ?_ ?_ ?_ ?_ ?_ ?_ <;> (try simp only [XX, CC, Nat.reduceAdd, Nat.reduceSub, Nat.reduceLeDiff, Nat.reduceLT, Nat.reduceEqDiff, reduceIte, ↓reduceIte, Nat.reduceBEq, y0, y1, y2, y4, y12, yV])
    · simp only [DD, CC, Nat.reduceAdd, Nat.reduceSub, Nat.reduceLeDiff, Nat.reduceLT, Nat.reduceEqDiff, reduceIte, ↓reduceIte, Nat.reduceBEq, he9, dec_f ck, Bool.not_true, Bool.not_false, y0, y1, y4, y12, yV, hw]
      refine hJ (j + 1 - (x + 1)) _ _ (by omega) ⟨x + 1, rfl, rfl, by omega, by omega, fun k k1 k2 => ?_, ?_, ?_, ?_, ?_, ?_, ?_⟩ <;> (try simp only [XX, CC, Nat.reduceAdd, Nat.reduceSub, Nat.reduceLeDiff, Nat.reduceLT, Nat.reduceEqDiff, reduceIte, ↓reduceIte, Nat.reduceBEq, y0, y1, y2, y4, y12, yV, hw])
      by_cases kx : k = x
      · subst kx; exact (by rw [ku, kw]; exact ck)
      · exact hall k k1 (by omega)
  · simp only [XX, CC, Nat.reduceAdd, Nat.reduceSub, Nat.reduceLeDiff, Nat.reduceLT, Nat.reduceEqDiff, reduceIte, ↓reduceIte, Nat.reduceBEq]
    refine drw_in [] rfl ?_
    simp only [List.append_nil, DD, CC, Nat.reduceAdd, Nat.reduceSub, Nat.reduceLeDiff, Nat.reduceLT, Nat.reduceEqDiff, reduceIte, ↓reduceIte, Nat.reduceBEq, y0, y1, y4, y12, yV, dec_f (show ¬ (x : Int) ≤ j by omega)]
    refine hK x _ h1 h2 hall (.inl (by omega)) ?_ ?_ ?_ ?_ ?_ ?_ <;> (try simp only [XX, CC, Nat.reduceAdd, Nat.reduceSub, Nat.reduceLeDiff, Nat.reduceLT, Nat.reduceEqDiff, reduceIte, ↓reduceIte, Nat.reduceBEq, y0, y1, y2, y4, y12, yV])

set_option maxHeartbeats 4000000 in
theorem pe2 (t : St) (hb : A.bk < t.length) (l : List α) (hl : l.length = A.n) (a i j : Nat) (ha : a < A.n) (hij : i ≤ j + 1) (hi : 0 < i) (hj : j < A.n) (e : Env) (Q : XE → Env → St → Prop)
    (g0 : e.get 0 = A.v) (g1 : e.get 1 = .int .i64 a) (g4 : e.get 4 = e.get 4) (gI : e.get 9 = .int .i64 i) (gJ : e.get 10 = .int .i64 j)
    (hK : ∀ (x : Nat) (e' : Env), i ≤ x + 1 → x ≤ j → (∀ k, x < k → k ≤ j → K O l a < K O l k) → (x + 1 = i ∨ ¬ (K O l a < K O l x)) → e'.get 0 = e.get 0 → e'.get 1 = e.get 1 → e'.get 2 = e.get 2 → e'.get 4 = e'.get 4 → e'.get 9 = e.get 9 → e'.get 10 = .int .i64 x → Q .nrm e' (A.S O t l)) : awp (Run T0) r_slices_partitionEqualOrdered_string.body.p2.p2.p2.p1.p0.p0.p0.p2.p1 Q e (A.S O t l) := by
  have hbig := A.big
  obtain ⟨w, hw⟩ := at_of (show a < l.length by omega)
  have xa := A.ix a ha
  have lw := S_ld (O := O) (A := A) hb hw
  have kw := K_at (O := O) hw
  obtain ⟨e2, he2⟩ : ∃ e2, e2 = e.get 2 := ⟨_, rfl⟩
  simp only [r_slices_partitionEqualOrdered_string, RC.p1, RC.p2, RC.p0, XX, CC, Nat.reduceAdd, Nat.reduceSub, Nat.reduceLeDiff, Nat.reduceLT, Nat.reduceEqDiff, reduceIte, ↓reduceIte, Nat.reduceBEq]
  refine awp_rounds (fun d e1 s => ∃ x : Nat, s = A.S O t l ∧ d = x + 1 - i ∧ i ≤ x + 1 ∧ x ≤ j ∧ (∀ k, x < k → k ≤ j → K O l a < K O l k) ∧ e1.get 0 = e.get 0 ∧ e1.get 1 = e.get 1 ∧ e1.get 2 = e.get 2 ∧ e1.get 4 = e1.get 4 ∧ e1.get 9 = e.get 9 ∧ e1.get 10 = .int .i64 x) (j + 1 - i) ?_ ?_
  · exact ⟨j, rfl, by omega, by omega, by omega, fun k k1 k2 => by omega, rfl, rfl, rfl, rfl, rfl, gJ⟩
  rintro J d e1 s hJ ⟨x, rfl, hd, h1, h2, hall, y0, y1, y2, y4, y11, yV⟩
  (try rw [g0] at y0)
  (try rw [g1] at y1)
  (try rw [g4] at y4)
  (try rw [gI] at y11)
  (try rw [g0] at hK); (try rw [g0] at hJ); (try rw [g1] at hK); (try rw [g1] at hJ); (try rw [g4] at hK); (try rw [g4] at hJ); (try rw [gI] at hK); (try rw [gI] at hJ)
  by_cases c : i ≤ x
  · have hx1 : x < l.length := by omega
    obtain ⟨u, hu⟩ := at_of hx1
    have xu := A.ix x (by omega)
    have lu := S_ld (O := O) (A := A) hb hu
    have ku := K_at (O := O) hu
    have hw := w64_sub (show 0 < x by omega) (show x < 4611686018427387904 by omega)
    simp only [XX, CC, Nat.reduceAdd, Nat.reduceSub, Nat.reduceLeDiff, Nat.reduceLT, Nat.reduceEqDiff, reduceIte, ↓reduceIte, Nat.reduceBEq]
    refine drw_in [] rfl ?_
    simp only [List.append_nil, DD, CC, Nat.reduceAdd, Nat.reduceSub, Nat.reduceLeDiff, Nat.reduceLT, Nat.reduceEqDiff, reduceIte, ↓reduceIte, Nat.reduceBEq, y0, y1, y4, y11, yV, dec_t (show (i : Int) ≤ x by omega), xa, xu, lu, lw]
    refine dr_callE (O.run _ w u) ?_
    intro e9 he9
    by_cases ck : O.key w < O.key u
    · simp only [DD, CC, Nat.reduceAdd, Nat.reduceSub, Nat.reduceLeDiff, Nat.reduceLT, Nat.reduceEqDiff, reduceIte, ↓reduceIte, Nat.reduceBEq, he9, dec_t ck, Bool.not_true, Bool.not_false, y0, y1, y4, y11, yV, hw]
      refine hJ (x - 1 + 1 - i) _ _ (by omega) ⟨x - 1, rfl, rfl, by omega, by omega, fun k k1 k2 => ?_, ?_, ?_, ?_, ?_, ?_, ?_⟩ <;> (try simp only [XX, CC, Nat.reduceAdd, Nat.reduceSub, Nat.reduceLeDiff, Nat.reduceLT, Nat.reduceEqDiff, reduceIte, ↓reduceIte, Nat.reduceBEq, y0, y1, y2, y4, y11, yV, hw])
      by_cases kx : k = x
      · subst kx; exact (by rw [ku, kw]; exact ck)
      · exact hall k (by omega) k2
    · simp only [DD, CC, Nat.reduceAdd, Nat.reduceSub, Nat.reduceLeDiff, Nat.reduceLT, Nat.reduceEqDiff, reduceIte, ↓reduceIte, Nat.reduceBEq, he9, dec_f ck, Bool.not_true, Bool.not_false, y0, y1, y4, y11, yV, hw]
      refine hK x _ h1 h2 hall (.inr (by rw [ku, kw]; exact ck)) ?_ ?_ ?_ ?_ ?_ ?_ <;> (try simp only [XX, CC, Nat.reduceAdd, Nat.reduceSub, Nat.reduceLeDiff, Nat.reduceLT, Nat.reduceEqDiff, reduceIte, ↓reduceIte, Nat.reduceBEq, y0, y1, y2, y4, y11, yV])
  · simp only [XX, CC, Nat.reduceAdd, Nat.reduceSub, Nat.reduceLeDiff, Nat.reduceLT, Nat.reduceEqDiff, reduceIte, ↓reduceIte, Nat.reduceBEq]
    refine drw_in [] rfl ?_
    simp only [List.append_nil, DD, CC, Nat.reduceAdd, Nat.reduceSub, Nat.reduceLeDiff, Nat.reduceLT, Nat.reduceEqDiff, reduceIte, ↓reduceIte, Nat.reduceBEq, y0, y1, y4, y11, yV, dec_f (show ¬ (i : Int) ≤ x by omega)]
    refine hK x _ h1 h2 hall (.inl (by omega)) ?_ ?_ ?_ ?_ ?_ ?_ <;> (try simp only [XX, CC, Nat.reduceAdd, Nat.reduceSub, Nat.reduceLeDiff, Nat.reduceLT, Nat.reduceEqDiff, reduceIte, ↓reduceIte, Nat.reduceBEq, y0, y1, y2, y4, y11, yV])
end
end Go.Ev.So

/-! The partitions. -/
namespace Go.Ev.So
open Go.Ev
set_option linter.unusedVariables false
set_option linter.unusedSimpArgs false

theorem part_fin {f g : Nat → Nat} {a b j : Nat} (haj : a ≤ j) (h1 : ∀ k, a + 1 ≤ k → k < j + 1 → f k < f a) (h2 : ∀ k, j < k → k < b → ¬ f k < f a)
    (hg : ∀ k, g k = if k = a then f j else if k = j then f a else f k) : (∀ k, a ≤ k → k < j → g k ≤ g j) ∧ ∀ k, j < k → k < b → g j ≤ g k := by
  constructor
  · intro k k1 k2
    have a1 := h1 k; have a2 := h1 j; have b1 := hg k; have b2 := hg j
    clear h1 h2 hg
    grind
  · intro k k1 k2
    have a1 := h2 k; have b1 := hg k; have b2 := hg j
    clear h1 h2 hg
    grind
theorem part_swap {f g : Nat → Nat} {a b i j : Nat} (hi : a + 1 ≤ i) (hij : i < j) (hj : j < b) (h1 : ∀ k, a + 1 ≤ k → k < i → f k < f a) (h2 : ∀ k, j < k → k < b → ¬ f k < f a) (hx : ¬ f i < f a) (hy : f j < f a)
    (hg : ∀ k, g k = if k = j then f i else if k = i then f j else f k) : (∀ k, a + 1 ≤ k → k < i + 1 → g k < g a) ∧ ∀ k, j - 1 < k → k < b → ¬ g k < g a := by
  constructor
  · intro k k1 k2
    have a1 := h1 k; have b1 := hg k; have b2 := hg a
    clear h1 h2 hg
    grind
  · intro k k1 k2
    have a1 := h2 k; have b1 := hg k; have b2 := hg a
    clear h1 h2 hg
    grind
theorem eq_swap {f g : Nat → Nat} {a b i j : Nat} (hi : a + 1 ≤ i) (hij : i < j) (hj : j < b) (h1 : ∀ k, a + 1 ≤ k → k < i → ¬ f a < f k) (h2 : ∀ k, j < k → k < b → f a < f k) (hx : f a < f i) (hy : ¬ f a < f j)
    (hg : ∀ k, g k = if k = j then f i else if k = i then f j else f k) : (∀ k, a + 1 ≤ k → k < i + 1 → ¬ g a < g k) ∧ ∀ k, j - 1 < k → k < b → g a < g k := by
  constructor
  · intro k k1 k2
    have a1 := h1 k; have b1 := hg k; have b2 := hg a
    clear h1 h2 hg
    grind
  · intro k k1 k2
    have a1 := h2 k; have b1 := hg k; have b2 := hg a
    clear h1 h2 hg
    grind

section
variable {α : Type} {O : SOr α} {A : AR}
def paM : RC := r_slices_partitionOrdered_string.body.p2.p2.p2.p2.p2.p2.p2.p2.p2.p1
set_option maxHeartbeats 4000000 in
theorem pa_main (t : St) (hb : A.bk < t.length) (l : List α) (hl : l.length = A.n) (a b i j : Nat) (hbn : b ≤ A.n) (hi : a + 1 ≤ i) (hij : i ≤ j + 1) (hj : j < b)
    (h1 : ∀ k, a + 1 ≤ k → k < i → K O l k < K O l a) (h2 : ∀ k, j < k → k < b → ¬ K O l k < K O l a) (e : Env) (Q : XE → Env → St → Prop)
    (g0 : e.get 0 = A.v) (g1 : e.get 1 = .int .i64 a) (g4 : e.get 4 = e.get 4) (g12 : e.get 10 = .int .i64 i) (g13 : e.get 11 = .int .i64 j)
    (hK : ∀ (l2 : List α) (j : Nat) (e' : Env), Sw a b l l2 → a ≤ j → j < b → (∀ k, a + 1 ≤ k → k < j + 1 → K O l2 k < K O l2 a) → (∀ k, j < k → k < b → ¬ K O l2 k < K O l2 a) → e'.get 0 = A.v → e'.get 1 = .int .i64 a → e'.get 11 = .int .i64 j → Q .nrm e' (A.S O t l2)) :
    awp (Run T0) paM Q e (A.S O t l) := by
  have hbig := A.big
  obtain ⟨L6, h6⟩ : ∃ c, c = paM.p0.p0.p0.p1 := ⟨_, rfl⟩
  obtain ⟨L8, h8⟩ : ∃ c, c = paM.p0.p0.p0.p2.p1 := ⟨_, rfl⟩
  have s6 := fun l hl i j ha hij hi hj e Q g0 g1 g4 gI gJ hK => pa3 (O := O) (A := A) t hb l hl a i j ha hij hi hj e Q g0 g1 g4 gI gJ hK
  have s8 := fun l hl i j ha hij hi hj e Q g0 g1 g4 gI gJ hK => pa4 (O := O) (A := A) t hb l hl a i j ha hij hi hj e Q g0 g1 g4 gI gJ hK
  rw [show r_slices_partitionOrdered_string.body.p2.p2.p2.p2.p2.p2.p2.p2.p2.p1.p0.p0.p0.p1 = L6 from h6.symm] at s6
  rw [show r_slices_partitionOrdered_string.body.p2.p2.p2.p2.p2.p2.p2.p2.p2.p1.p0.p0.p0.p2.p1 = L8 from h8.symm] at s8
  rw [show paM = (let c := paM.p0.p0.p0; .block 4 (.loop (.block 5 (.seq L6 (.seq L8 c.p2.p2))))) by rw [h6, h8]; rfl]
  clear h6 h8
  simp only [paM, r_slices_partitionOrdered_string, RC.p1, RC.p2, RC.p0, XX, CC, Nat.reduceAdd, Nat.reduceSub, Nat.reduceLeDiff, Nat.reduceLT, Nat.reduceEqDiff, reduceIte, ↓reduceIte, Nat.reduceBEq]
  refine awp_rounds (fun d e1 s => ∃ (i j : Nat) (l1 : List α), s = A.S O t l1 ∧ d = j + 1 - i ∧ a + 1 ≤ i ∧ i ≤ j + 1 ∧ j < b ∧ Sw a b l l1 ∧ (∀ k, a + 1 ≤ k → k < i → K O l1 k < K O l1 a) ∧ (∀ k, j < k → k < b → ¬ K O l1 k < K O l1 a) ∧
    e1.get 0 = A.v ∧ e1.get 1 = .int .i64 a ∧ e1.get 4 = e1.get 4 ∧ e1.get 10 = .int .i64 i ∧ e1.get 11 = .int .i64 j) (j + 1 - i) ?_ ?_
  · exact ⟨i, j, l, rfl, rfl, hi, hij, hj, .refl, h1, h2, g0, g1, g4, g12, g13⟩
  clear h1 h2 hi hij hj g0 g1 g4 g12 g13
  rintro J d e s hJ ⟨i, j, l1, rfl, hd, hi, hij, hj, hs, h1, h2, g0, g1, g4, g12, g13⟩
  have hl1 : l1.length = A.n := hs.len.trans hl
  simp only [XX, CC, Nat.reduceAdd, Nat.reduceSub, Nat.reduceLeDiff, Nat.reduceLT, Nat.reduceEqDiff, reduceIte, ↓reduceIte, Nat.reduceBEq]
  refine s6 l1 hl1 i j (by omega) hij (by omega) (by omega) e _ g0 g1 rfl g12 g13 ?_
  intro i2 e2 b1 b2 b3 b4 y0 y1 y2 y4 y13 y12
  (try rw [g0] at y0); (try rw [g1] at y1); (try rw [g4] at y4); (try rw [g13] at y13)
  simp only [XX, CC, Nat.reduceAdd, Nat.reduceSub, Nat.reduceLeDiff, Nat.reduceLT, Nat.reduceEqDiff, reduceIte, ↓reduceIte, Nat.reduceBEq]
  refine s8 l1 hl1 i2 j (by omega) (by omega) (by omega) (by omega) e2 _ y0 y1 rfl y12 y13 ?_
  intro j2 e3 c1 c2 c3 c4 z0 z1 z2 z4 z12 z13
  (try rw [y0] at z0); (try rw [y1] at z1); (try rw [y4] at z4); (try rw [y12] at z12)
  have n1 : ∀ k, a + 1 ≤ k → k < i2 → K O l1 k < K O l1 a := fun k k1 k2 => by
    by_cases h : k < i
    · exact h1 k k1 h
    · exact b3 k (by omega) k2
  have n2 : ∀ k, j2 < k → k < b → ¬ K O l1 k < K O l1 a := fun k k1 k2 => by
    by_cases h : j < k
    · exact h2 k h k2
    · exact c3 k k1 (by omega)
  by_cases c : i2 > j2
  · simp only [XX, CC, Nat.reduceAdd, Nat.reduceSub, Nat.reduceLeDiff, Nat.reduceLT, Nat.reduceEqDiff, reduceIte, ↓reduceIte, Nat.reduceBEq, z12, z13, dec_t (show (i2 : Int) > j2 by omega)]
    exact hK l1 j2 _ hs (by omega) (by omega) (fun k k1 k2 => n1 k k1 (by omega)) n2 (by simp only [XX, CC, Nat.reduceAdd, Nat.reduceSub, Nat.reduceLeDiff, Nat.reduceLT, Nat.reduceEqDiff, reduceIte, ↓reduceIte, Nat.reduceBEq, z0]) (by simp only [XX, CC, Nat.reduceAdd, Nat.reduceSub, Nat.reduceLeDiff, Nat.reduceLT, Nat.reduceEqDiff, reduceIte, ↓reduceIte, Nat.reduceBEq, z1]) (by simp only [XX, CC, Nat.reduceAdd, Nat.reduceSub, Nat.reduceLeDiff, Nat.reduceLT, Nat.reduceEqDiff, reduceIte, ↓reduceIte, Nat.reduceBEq, z13])
  · have d1 : ¬ K O l1 i2 < K O l1 a := b4.resolve_left (by omega)
    have d2 : K O l1 j2 < K O l1 a := Decidable.not_not.1 (c4.resolve_left (by omega))
    have hne : i2 ≠ j2 := fun h => d1 (by rw [h]; exact d2)
    obtain ⟨x, hx⟩ := at_of (show i2 < l1.length by omega)
    obtain ⟨y, hy⟩ := at_of (show j2 < l1.length by omega)
    have xi := A.ix i2 (by omega)
    have xj := A.ix j2 (by omega)
    have lx := S_ld (O := O) (A := A) hb hx
    have ly := S_ld (O := O) (A := A) hb hy
    obtain ⟨w1, w2⟩ := S_swp (O := O) (A := A) hb hx hy
    obtain ⟨m1, m2⟩ := part_swap (b := b) (by omega) (by omega) (by omega) n1 n2 d1 d2 (swp_K (O := O) (l := l1) (i := i2) (j := j2) (by omega) (by omega))
    simp only [XX, CC, Nat.reduceAdd, Nat.reduceSub, Nat.reduceLeDiff, Nat.reduceLT, Nat.reduceEqDiff, reduceIte, ↓reduceIte, Nat.reduceBEq, z12, z13, dec_f (show ¬ (i2 : Int) > j2 by omega)]
    refine drw_in [] rfl ?_
    simp only [List.append_nil, DD, CC, Nat.reduceAdd, Nat.reduceSub, Nat.reduceLeDiff, Nat.reduceLT, Nat.reduceEqDiff, reduceIte, ↓reduceIte, Nat.reduceBEq, z0, z12, z13, xi, xj, lx, ly, w1, w2, dr_stX, w64_nat (show i2 < 4611686018427387904 by omega), w64_sub (show 0 < j2 by omega) (by omega)]
    refine hJ (j2 - 1 + 1 - (i2 + 1)) _ _ (by omega) ⟨i2 + 1, j2 - 1, swp l1 i2 j2, rfl, rfl, by omega, by omega, by omega, hs.step (by omega) (by omega) (by omega) (by omega), m1, m2, ?_, ?_, ?_, ?_, ?_⟩ <;> (try simp only [XX, CC, Nat.reduceAdd, Nat.reduceSub, Nat.reduceLeDiff, Nat.reduceLT, Nat.reduceEqDiff, reduceIte, ↓reduceIte, Nat.reduceBEq, z0, z1, z4])

set_option maxHeartbeats 4000000 in
theorem part_r (t : St) (hb : A.bk < t.length) (l : List α) (hl : l.length = A.n) (a b pv : Nat) (hab : a < b) (hbn : b ≤ A.n) (hp1 : a ≤ pv) (hp2 : pv < b) :
    Run T0 f_slices_partitionOrdered_string [A.v, .int .i64 a, .int .i64 b, .int .i64 pv] (A.S O t l) fun r t' => ∃ (l' : List α) (m : Nat) (bl : Bool), r = .tup [.int .i64 m, .bool bl] ∧ t' = A.S O t l' ∧ Sw a b l l' ∧ a ≤ m ∧ m < b ∧
      (∀ k, a ≤ k → k < m → K O l' k ≤ K O l' m) ∧ ∀ k, m < k → k < b → K O l' m ≤ K O l' k := by
  have hbig := A.big
  refine run_body (F := r_slices_partitionOrdered_string) rfl (by simp [r_slices_partitionOrdered_string]) ?_
  obtain ⟨L0, h0⟩ : ∃ c, c = r_slices_partitionOrdered_string.body.p2.p2.p2.p1 := ⟨_, rfl⟩
  obtain ⟨L2, h2⟩ : ∃ c, c = r_slices_partitionOrdered_string.body.p2.p2.p2.p2.p1 := ⟨_, rfl⟩
  obtain ⟨LM, hM⟩ : ∃ c, c = paM := ⟨_, rfl⟩
  have s0 := fun l hl i j ha hij hi hj e Q g0 g1 g4 gI gJ hK => pa1 (O := O) (A := A) t hb l hl a i j ha hij hi hj e Q g0 g1 g4 gI gJ hK
  have s2 := fun l hl i j ha hij hi hj e Q g0 g1 g4 gI gJ hK => pa2 (O := O) (A := A) t hb l hl a i j ha hij hi hj e Q g0 g1 g4 gI gJ hK
  have sM := fun l hl i j hi hij hj h1 h2 e Q g0 g1 g4 gI gJ hK => pa_main (O := O) (A := A) t hb l hl a b i j hbn hi hij hj h1 h2 e Q g0 g1 g4 gI gJ hK
  rw [← h0] at s0
  rw [← h2] at s2
  rw [← hM] at sM
  rw [show r_slices_partitionOrdered_string.body = (let b := r_slices_partitionOrdered_string.body; let c := b.p2.p2.p2.p2.p2; .seq b.p1 (.seq b.p2.p1 (.seq b.p2.p2.p1 (.seq L0 (.seq L2 (.seq c.p1 (.seq c.p2.p1 (.seq c.p2.p2.p1 (.seq c.p2.p2.p2.p1 (.seq LM c.p2.p2.p2.p2.p2)))))))))) by rw [h0, h2, hM]; rfl]
  clear h0 h2 hM
  simp only [r_slices_partitionOrdered_string, RC.p1, RC.p2, RC.p0, XX, CC, Nat.reduceAdd, Nat.reduceSub, Nat.reduceLeDiff, Nat.reduceLT, Nat.reduceEqDiff, reduceIte, ↓reduceIte, Nat.reduceBEq]
  obtain ⟨x, hx⟩ := at_of (show a < l.length by omega)
  obtain ⟨y, hy⟩ := at_of (show pv < l.length by omega)
  have xa := A.ix a (by omega)
  have xp := A.ix pv (by omega)
  have lx := S_ld (O := O) (A := A) hb hx
  have ly := S_ld (O := O) (A := A) hb hy
  obtain ⟨w1, w2⟩ := S_swp (O := O) (A := A) hb hx hy
  have hs : Sw a b l (swp l a pv) := Sw.refl.step (by omega) (by omega) (by omega) (by omega)
  refine drw_in [] rfl ?_
  simp only [List.append_nil, DD, CC, Nat.reduceAdd, Nat.reduceSub, Nat.reduceLeDiff, Nat.reduceLT, Nat.reduceEqDiff, reduceIte, ↓reduceIte, Nat.reduceBEq, xa, xp, lx, ly, w1, w2, dr_stX, w64_nat (show a < 4611686018427387904 by omega), w64_sub (show 0 < b by omega) (by omega)]
  clear w1 w2 lx ly hx hy xp
  have hl1 : (swp l a pv).length = A.n := swp_len.trans hl
  generalize swp l a pv = l1 at hs hl1 ⊢
  refine s0 l1 hl1 (a + 1) (b - 1) (by omega) (by omega) (by omega) (by omega) _ _ ?_ ?_ ?_ ?_ ?_ ?_ <;> (try simp only [XX, CC, Nat.reduceAdd, Nat.reduceSub, Nat.reduceLeDiff, Nat.reduceLT, Nat.reduceEqDiff, reduceIte, ↓reduceIte, Nat.reduceBEq])
  intro i e2 b1 b2 b3 b4 y0 y1 y2 y4 y13 y12
  (try simp only [XX, CC, Nat.reduceAdd, Nat.reduceSub, Nat.reduceLeDiff, Nat.reduceLT, Nat.reduceEqDiff, reduceIte, ↓reduceIte, Nat.reduceBEq])
  refine s2 l1 hl1 i (b - 1) (by omega) (by omega) (by omega) (by omega) e2 _ y0 y1 rfl y12 y13 ?_
  intro j e3 c1 c2 c3 c4 z0 z1 z2 z4 z12 z13
  (try rw [y0] at z0); (try rw [y1] at z1); (try rw [y4] at z4); (try rw [y12] at z12)
  have n2 : ∀ k, j < k → k < b → ¬ K O l1 k < K O l1 a := fun k k1 k2 => c3 k k1 (by omega)
  by_cases c : i > j
  · obtain ⟨x, hx⟩ := at_of (show j < l1.length by omega)
    obtain ⟨y, hy⟩ := at_of (show a < l1.length by omega)
    have xj := A.ix j (by omega)
    have lx := S_ld (O := O) (A := A) hb hx
    have ly := S_ld (O := O) (A := A) hb hy
    obtain ⟨w1, w2⟩ := S_swp (O := O) (A := A) hb hx hy
    obtain ⟨m1, m2⟩ := part_fin (a := a) (b := b) (j := j) (by omega) (fun k k1 k2 => b3 k k1 (by omega)) n2 (swp_K (O := O) (l := l1) (i := j) (j := a) (by omega) (by omega))
    simp only [XX, CC, Nat.reduceAdd, Nat.reduceSub, Nat.reduceLeDiff, Nat.reduceLT, Nat.reduceEqDiff, reduceIte, ↓reduceIte, Nat.reduceBEq, z12, z13, dec_t (show (i : Int) > j by omega)]
    refine drw_in [] rfl ?_
    simp only [List.append_nil, DD, CC, Nat.reduceAdd, Nat.reduceSub, Nat.reduceLeDiff, Nat.reduceLT, Nat.reduceEqDiff, reduceIte, ↓reduceIte, Nat.reduceBEq, z0, z1, z13, xa, xj, lx, ly, w1, w2, dr_stX]
    exact .inl ⟨swp l1 j a, j, true, rfl, rfl, hs.step (by omega) (by omega) (by omega) (by omega), by omega, by omega, m1, m2⟩
  · have d1 : ¬ K O l1 i < K O l1 a := b4.resolve_left (by omega)
    have d2 : K O l1 j < K O l1 a := Decidable.not_not.1 (c4.resolve_left (by omega))
    have hne : i ≠ j := fun h => d1 (by rw [h]; exact d2)
    obtain ⟨x, hx⟩ := at_of (show i < l1.length by omega)
    obtain ⟨y, hy⟩ := at_of (show j < l1.length by omega)
    have xi := A.ix i (by omega)
    have xj := A.ix j (by omega)
    have lx := S_ld (O := O) (A := A) hb hx
    have ly := S_ld (O := O) (A := A) hb hy
    obtain ⟨w1, w2⟩ := S_swp (O := O) (A := A) hb hx hy
    obtain ⟨m1, m2⟩ := part_swap (b := b) (by omega) (by omega) (by omega) b3 n2 d1 d2 (swp_K (O := O) (l := l1) (i := i) (j := j) (by omega) (by omega))
    have hs2 : Sw a b l (swp l1 i j) := hs.step (by omega) (by omega) (by omega) (by omega)
    have hl2 : (swp l1 i j).length = A.n := swp_len.trans hl1
    simp only [XX, CC, Nat.reduceAdd, Nat.reduceSub, Nat.reduceLeDiff, Nat.reduceLT, Nat.reduceEqDiff, reduceIte, ↓reduceIte, Nat.reduceBEq, z12, z13, dec_f (show ¬ (i : Int) > j by omega)]
    refine drw_in [] rfl ?_
    simp only [List.append_nil, DD, CC, Nat.reduceAdd, Nat.reduceSub, Nat.reduceLeDiff, Nat.reduceLT, Nat.reduceEqDiff, reduceIte, ↓reduceIte, Nat.reduceBEq, z0, z12, z13, xi, xj, lx, ly, w1, w2, dr_stX, w64_nat (show i < 4611686018427387904 by omega), w64_sub (show 0 < j by omega) (by omega)]
    clear w1 w2 lx ly hx hy xi xj d1 d2 b3 b4 c3 c4 n2
    generalize swp l1 i j = l2 at hs2 hl2 m1 m2 ⊢
    refine sM l2 hl2 (i + 1) (j - 1) (by omega) (by omega) (by omega) m1 m2 _ _ ?_ ?_ ?_ ?_ ?_ ?_ <;> (try simp only [XX, CC, Nat.reduceAdd, Nat.reduceSub, Nat.reduceLeDiff, Nat.reduceLT, Nat.reduceEqDiff, reduceIte, ↓reduceIte, Nat.reduceBEq, z0, z1, z4])
    intro l3 j3 e4 q1 q2 q3 q4 q5 v0 v1 v13
    have hl3 : l3.length = A.n := q1.len.trans hl2
    obtain ⟨x, hx⟩ := at_of (show j3 < l3.length by omega)
    obtain ⟨y, hy⟩ := at_of (show a < l3.length by omega)
    have xj := A.ix j3 (by omega)
    have lx := S_ld (O := O) (A := A) hb hx
    have ly := S_ld (O := O) (A := A) hb hy
    obtain ⟨w1, w2⟩ := S_swp (O := O) (A := A) hb hx hy
    obtain ⟨m1, m2⟩ := part_fin (a := a) (b := b) (j := j3) (by omega) q4 q5 (swp_K (O := O) (l := l3) (i := j3) (j := a) (by omega) (by omega))
    (try simp only [XX, CC, Nat.reduceAdd, Nat.reduceSub, Nat.reduceLeDiff, Nat.reduceLT, Nat.reduceEqDiff, reduceIte, ↓reduceIte, Nat.reduceBEq])
    refine drw_in [] rfl ?_
    simp only [List.append_nil, DD, CC, Nat.reduceAdd, Nat.reduceSub, Nat.reduceLeDiff, Nat.reduceLT, Nat.reduceEqDiff, reduceIte, ↓reduceIte, Nat.reduceBEq, v0, v1, v13, xa, xj, lx, ly, w1, w2, dr_stX]
    exact .inl ⟨swp l3 j3 a, j3, false, rfl, rfl, (hs2.trans q1).step (by omega) (by omega) (by omega) (by omega), by omega, by omega, m1, m2⟩

set_option maxHeartbeats 4000000 in
theorem parteq_r (t : St) (hb : A.bk < t.length) (l : List α) (hl : l.length = A.n) (a b pv : Nat) (hab : a < b) (hbn : b ≤ A.n) (hp1 : a ≤ pv) (hp2 : pv < b) (hmin : ∀ k, a ≤ k → k < b → K O l pv ≤ K O l k) :
    Run T0 f_slices_partitionEqualOrdered_string [A.v, .int .i64 a, .int .i64 b, .int .i64 pv] (A.S O t l) fun r t' => ∃ (l' : List α) (m : Nat), r = .int .i64 m ∧ t' = A.S O t l' ∧ Sw a b l l' ∧ a < m ∧ m ≤ b ∧
      (∀ k, a ≤ k → k < m → K O l' k = K O l pv) ∧ ∀ k, a ≤ k → k < b → K O l pv ≤ K O l' k := by
  have hbig := A.big
  refine run_body (F := r_slices_partitionEqualOrdered_string) rfl (by simp [r_slices_partitionEqualOrdered_string]) ?_
  obtain ⟨L0, h0⟩ : ∃ c, c = r_slices_partitionEqualOrdered_string.body.p2.p2.p2.p1.p0.p0.p0.p1 := ⟨_, rfl⟩
  obtain ⟨L2, h2⟩ : ∃ c, c = r_slices_partitionEqualOrdered_string.body.p2.p2.p2.p1.p0.p0.p0.p2.p1 := ⟨_, rfl⟩
  have s0 := fun l hl i j ha hij hi hj e Q g0 g1 g4 gI gJ hK => pe1 (O := O) (A := A) t hb l hl a i j ha hij hi hj e Q g0 g1 g4 gI gJ hK
  have s2 := fun l hl i j ha hij hi hj e Q g0 g1 g4 gI gJ hK => pe2 (O := O) (A := A) t hb l hl a i j ha hij hi hj e Q g0 g1 g4 gI gJ hK
  rw [← h0] at s0
  rw [← h2] at s2
  rw [show r_slices_partitionEqualOrdered_string.body = (let b := r_slices_partitionEqualOrdered_string.body; let c := b.p2.p2.p2.p1.p0.p0.p0; .seq b.p1 (.seq b.p2.p1 (.seq b.p2.p2.p1 (.seq (.block 0 (.loop (.block 1 (.seq L0 (.seq L2 c.p2.p2))))) b.p2.p2.p2.p2)))) by rw [h0, h2]; rfl]
  clear h0 h2
  simp only [r_slices_partitionEqualOrdered_string, RC.p1, RC.p2, RC.p0, XX, CC, Nat.reduceAdd, Nat.reduceSub, Nat.reduceLeDiff, Nat.reduceLT, Nat.reduceEqDiff, reduceIte, ↓reduceIte, Nat.reduceBEq]
  obtain ⟨x, hx⟩ := at_of (show a < l.length by omega)
  obtain ⟨y, hy⟩ := at_of (show pv < l.length by omega)
  have xa := A.ix a (by omega)
  have xp := A.ix pv (by omega)
  have lx := S_ld (O := O) (A := A) hb hx
  have ly := S_ld (O := O) (A := A) hb hy
  obtain ⟨w1, w2⟩ := S_swp (O := O) (A := A) hb hx hy
  have hs : Sw a b l (swp l a pv) := Sw.refl.step (by omega) (by omega) (by omega) (by omega)
  have hKa : K O (swp l a pv) a = K O l pv := by
    rw [swp_K (by omega) (by omega)]
    by_cases c : a = pv
    · rw [if_pos c, c]
    · rw [if_neg c, if_pos rfl]
  refine drw_in [] rfl ?_
  simp only [List.append_nil, DD, CC, Nat.reduceAdd, Nat.reduceSub, Nat.reduceLeDiff, Nat.reduceLT, Nat.reduceEqDiff, reduceIte, ↓reduceIte, Nat.reduceBEq, xa, xp, lx, ly, w1, w2, dr_stX, w64_nat (show a < 4611686018427387904 by omega), w64_sub (show 0 < b by omega) (by omega)]
  clear w1 w2 lx ly hx hy xp
  have hl1 : (swp l a pv).length = A.n := swp_len.trans hl
  generalize swp l a pv = l1 at hs hl1 hKa ⊢
  refine awp_rounds (fun d e1 s => ∃ (i j : Nat) (l2 : List α), s = A.S O t l2 ∧ d = j + 1 - i ∧ a + 1 ≤ i ∧ i ≤ j + 1 ∧ j < b ∧ Sw a b l l2 ∧ K O l2 a = K O l pv ∧ (∀ k, a + 1 ≤ k → k < i → ¬ K O l2 a < K O l2 k) ∧ (∀ k, j < k → k < b → K O l2 a < K O l2 k) ∧
    e1.get 0 = A.v ∧ e1.get 1 = .int .i64 a ∧ e1.get 4 = e1.get 4 ∧ e1.get 9 = .int .i64 i ∧ e1.get 10 = .int .i64 j) (b - 1 + 1 - (a + 1)) ?_ ?_
  · refine ⟨a + 1, b - 1, l1, rfl, rfl, by omega, by omega, by omega, hs, hKa, fun k k1 k2 => by omega, fun k k1 k2 => by omega, ?_, ?_, ?_, ?_, ?_⟩ <;> (try simp only [XX, CC, Nat.reduceAdd, Nat.reduceSub, Nat.reduceLeDiff, Nat.reduceLT, Nat.reduceEqDiff, reduceIte, ↓reduceIte, Nat.reduceBEq])
  clear hs hl1 hKa l1
  rintro J d e s hJ ⟨i, j, l1, rfl, hd, hi, hij, hj, hs, hKa, h1, h2, g0, g1, g4, g11, g12⟩
  have hl1 : l1.length = A.n := hs.len.trans hl
  simp only [XX, CC, Nat.reduceAdd, Nat.reduceSub, Nat.reduceLeDiff, Nat.reduceLT, Nat.reduceEqDiff, reduceIte, ↓reduceIte, Nat.reduceBEq]
  refine s0 l1 hl1 i j (by omega) hij (by omega) (by omega) e _ g0 g1 rfl g11 g12 ?_
  intro i2 e2 b1 b2 b3 b4 y0 y1 y2 y4 y12 y11
  (try rw [g0] at y0); (try rw [g1] at y1); (try rw [g4] at y4); (try rw [g12] at y12)
  simp only [XX, CC, Nat.reduceAdd, Nat.reduceSub, Nat.reduceLeDiff, Nat.reduceLT, Nat.reduceEqDiff, reduceIte, ↓reduceIte, Nat.reduceBEq]
  refine s2 l1 hl1 i2 j (by omega) (by omega) (by omega) (by omega) e2 _ y0 y1 rfl y11 y12 ?_
  intro j2 e3 c1 c2 c3 c4 z0 z1 z2 z4 z11 z12
  (try rw [y0] at z0); (try rw [y1] at z1); (try rw [y4] at z4); (try rw [y11] at z11)
  have n1 : ∀ k, a + 1 ≤ k → k < i2 → ¬ K O l1 a < K O l1 k := fun k k1 k2 => by
    by_cases h : k < i
    · exact h1 k k1 h
    · exact b3 k (by omega) k2
  have n2 : ∀ k, j2 < k → k < b → K O l1 a < K O l1 k := fun k k1 k2 => by
    by_cases h : j < k
    · exact h2 k h k2
    · exact c3 k k1 (by omega)
  by_cases c : i2 > j2
  · simp only [XX, CC, Nat.reduceAdd, Nat.reduceSub, Nat.reduceLeDiff, Nat.reduceLT, Nat.reduceEqDiff, reduceIte, ↓reduceIte, Nat.reduceBEq, z11, z12, dec_t (show (i2 : Int) > j2 by omega)]
    have hmin2 := hs.all (O := O) (by omega) (P := fun z => K O l pv ≤ z) hmin
    refine .inl ⟨l1, i2, rfl, rfl, hs, by omega, by omega, fun k k1 k2 => ?_, hmin2⟩
    by_cases h : k = a
    · rw [h, hKa]
    · have q1 := n1 k (by omega) k2
      have q2 := hmin2 k k1 (by omega)
      omega
  · have d1 : K O l1 a < K O l1 i2 := Decidable.not_not.1 (b4.resolve_left (by omega))
    have d2 : ¬ K O l1 a < K O l1 j2 := c4.resolve_left (by omega)
    have hne : i2 ≠ j2 := fun h => d2 (by rw [← h]; exact d1)
    obtain ⟨x, hx⟩ := at_of (show i2 < l1.length by omega)
    obtain ⟨y, hy⟩ := at_of (show j2 < l1.length by omega)
    have xi := A.ix i2 (by omega)
    have xj := A.ix j2 (by omega)
    have lx := S_ld (O := O) (A := A) hb hx
    have ly := S_ld (O := O) (A := A) hb hy
    obtain ⟨w1, w2⟩ := S_swp (O := O) (A := A) hb hx hy
    have hsw := swp_K (O := O) (l := l1) (i := i2) (j := j2) (by omega) (by omega)
    obtain ⟨m1, m2⟩ := eq_swap (b := b) (by omega) (by omega) (by omega) n1 n2 d1 d2 hsw
    simp only [XX, CC, Nat.reduceAdd, Nat.reduceSub, Nat.reduceLeDiff, Nat.reduceLT, Nat.reduceEqDiff, reduceIte, ↓reduceIte, Nat.reduceBEq, z11, z12, dec_f (show ¬ (i2 : Int) > j2 by omega)]
    refine drw_in [] rfl ?_
    simp only [List.append_nil, DD, CC, Nat.reduceAdd, Nat.reduceSub, Nat.reduceLeDiff, Nat.reduceLT, Nat.reduceEqDiff, reduceIte, ↓reduceIte, Nat.reduceBEq, z0, z11, z12, xi, xj, lx, ly, w1, w2, dr_stX, w64_nat (show i2 < 4611686018427387904 by omega), w64_sub (show 0 < j2 by omega) (by omega)]
    refine hJ (j2 - 1 + 1 - (i2 + 1)) _ _ (by omega) ⟨i2 + 1, j2 - 1, swp l1 i2 j2, rfl, rfl, by omega, by omega, by omega, hs.step (by omega) (by omega) (by omega) (by omega), ?_, m1, m2, ?_, ?_, ?_, ?_, ?_⟩ <;> (try simp only [XX, CC, Nat.reduceAdd, Nat.reduceSub, Nat.reduceLeDiff, Nat.reduceLT, Nat.reduceEqDiff, reduceIte, ↓reduceIte, Nat.reduceBEq, z0, z1, z4])
    rw [hsw, if_neg (by omega), if_neg (by omega), hKa]
end
end Go.Ev.So
