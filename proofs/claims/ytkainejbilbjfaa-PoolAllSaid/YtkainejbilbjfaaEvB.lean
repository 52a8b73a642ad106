import Derived.Test.YtkainejbilbjfaaEvA
import Derived.Laws.StructEq
/-! The resolved operations: what they do to abstract values, and the compiler from the program's operations. -/
namespace Go.Ev
set_option linter.unusedVariables false
set_option linter.unusedSimpArgs false

/-- An operand. -/
inductive RX where
  | t (n : Nat)
  | k (a : AV)

def RX.ev (e : Env) : RX → AV
  | .t n => e.get n
  | .k a => a

def evs (e : Env) : List RX → List AV
  | [] => []
  | x :: xs => x.ev e :: evs e xs

mutual
/-- How values of a type are compared. -/
inductive EqT where
  | i | b | s
  | p | l | m | f      -- a pointer, a slice, a map, a function, with nil
  | st (fs : EqL)
inductive EqL where
  | nil
  | one (off : Nat) (q : EqT) (r : EqL)
  | sub (off n : Nat) (q : EqT) (r : EqL)
end

mutual
def eqA : EqT → AV → AV → Option Bool
  | .i, .int k a, .int k' b => if k = k' then some (a == b) else none
  | .b, .bool a, .bool b => some (a == b)
  | .s, .str a, .str b => some (a.toList == b.toList)
  | .p, .nilp, .nilp => some true
  | .p, .nilp, .ptr _ _ => some false
  | .p, .ptr _ _, .nilp => some false
  | .l, .nils, .nils => some true
  | .l, .nils, .sl _ _ _ _ _ => some false
  | .l, .sl _ _ _ _ _, .nils => some false
  | .m, .nilm, .nilm => some true
  | .m, .nilm, .map _ => some false
  | .m, .map _, .nilm => some false
  | .f, .nilf, .nilf => some true
  | .f, .nilf, .fn _ _ => some false
  | .f, .fn _ _, .nilf => some false
  | .st fs, .agg a, .agg b => eqL fs a b
  | _, _, _ => none
def eqL : EqL → List AV → List AV → Option Bool
  | .nil, _, _ => some true
  | .one off q r, a, b => match a[off]?, b[off]? with
    | some x, some y => match eqA q x y with
      | some true => eqL r a b
      | z => z
    | _, _ => none
  | .sub off n q r, a, b => if off + n ≤ a.length ∧ off + n ≤ b.length then match eqA q (.agg ((a.drop off).take n)) (.agg ((b.drop off).take n)) with
      | some true => eqL r a b
      | z => z
    else none
end

/-- The resolved operations. -/
inductive RO where
  | mv (x : RX)
  | pick (c a b : RX)
  | new (zero : List AV)
  | box (n : Option Nat) (x : RX)
  | bld (zero : List AV) (parts : List (Nat × Nat × RX))
  | bsl (e len : Nat) (zero : List AV) (parts : List (Nat × Nat × RX))
  | ld (n : Option Nat) (x : RX)
  | st (n : Option Nat) (x y : RX)
  | nck (x : RX)
  | bin (op : BinOp) (x y : RX)
  | eq (neg : Bool) (q : EqT) (x y : RX)
  | un (op : UnOp) (x : RX)
  | cvi (k : IntKind) (x : RX)
  | cvs (x : RX)
  | off (k : Nat) (x : RX)
  | fld (n : Option Nat) (k : Nat) (x : RX)
  | ixa (e : Nat) (x i : RX)
  | ixp (e len : Nat) (x i : RX)
  | ixv (n : Option Nat) (e len : Nat) (x i : RX)
  | ixs (x i : RX)
  | ext (i : Nat) (x : RX)
  | slc (e : Nat) (x : RX) (lo hi mx : Option RX)
  | sls (x : RX) (lo hi : Option RX)
  | lenl (x : RX)
  | lens (x : RX)
  | capl (x : RX)
  | appz (e bytes : Nat) (zero : List AV) (x y : RX)
  | app (e bytes : Nat) (x y : RX)
  | mks (e bytes : Nat) (zero : List AV) (len cap : RX)
  | add64 (x y c : RX)
  | sub64 (x y c : RX)
  | mkf (f : Nat) (xs : List RX)
  | mki (t : Nat) (x : RX)
  | call (f : Nat) (xs : List RX)
  | calld (x : RX) (xs : List RX)
  | fail

structure ROp where
  dst : Option Nat
  g : Option (Nat × Bool)
  op : RO

/-- Cells written one by one. -/
def setL {α : Type} (cs : List α) (o : Nat) : List α → List α
  | [] => cs
  | v :: vs => setL (cs.set o v) (o + 1) vs

/-- Stores a part's cells into cells. -/
def fillA (cells : List AV) : List (Nat × Nat × AV) → Option (List AV)
  | [] => some cells
  | (off, size, v) :: rest =>
    if v.cell = true ∧ size = 1 ∧ off < cells.length then fillA (cells.set off v) rest
    else match v with
      | .agg cs => if cs.length = size ∧ off + size ≤ cells.length then fillA (setL cells off cs) rest else none
      | _ => none

def evParts (e : Env) : List (Nat × Nat × RX) → List (Nat × Nat × AV)
  | [] => []
  | (o, s, x) :: r => (o, s, x.ev e) :: evParts e r

def bitsA (op : BinOp) (k : IntKind) (x y : Int) : Int :=
  let a := BitVec.ofInt k.bits x
  let b := BitVec.ofInt k.bits y
  match op with
  | .and => k.wrap (a &&& b).toNat
  | .or => k.wrap (a ||| b).toNat
  | .xor => k.wrap (a ^^^ b).toNat
  | _ => k.wrap (a &&& ~~~b).toNat

def binA : BinOp → AV → AV → Option AV
  | .shl, .int k a, .int _ b => if b < 0 then none else some (.int k (k.wrap (a * 2 ^ (min b.toNat k.bits))))
  | .shr, .int k a, .int _ b => if b < 0 then none else some (.int k (a.fdiv (2 ^ (min b.toNat k.bits))))
  | .add, .int k a, .int k' b => if k = k' then some (.int k (k.wrap (a + b))) else none
  | .sub, .int k a, .int k' b => if k = k' then some (.int k (k.wrap (a - b))) else none
  | .mul, .int k a, .int k' b => if k = k' then some (.int k (k.wrap (a * b))) else none
  | .quo, .int k a, .int k' b => if k = k' ∧ b ≠ 0 then some (.int k (k.wrap (a.tdiv b))) else none
  | .rem, .int k a, .int k' b => if k = k' ∧ b ≠ 0 then some (.int k (a.tmod b)) else none
  | .and, .int k a, .int k' b => if k = k' then some (.int k (bitsA .and k a b)) else none
  | .or, .int k a, .int k' b => if k = k' then some (.int k (bitsA .or k a b)) else none
  | .xor, .int k a, .int k' b => if k = k' then some (.int k (bitsA .xor k a b)) else none
  | .andNot, .int k a, .int k' b => if k = k' then some (.int k (bitsA .andNot k a b)) else none
  | .lss, .int k a, .int k' b => if k = k' then some (.bool (decide (a < b))) else none
  | .leq, .int k a, .int k' b => if k = k' then some (.bool (decide (a ≤ b))) else none
  | .gtr, .int k a, .int k' b => if k = k' then some (.bool (decide (a > b))) else none
  | .geq, .int k a, .int k' b => if k = k' then some (.bool (decide (a ≥ b))) else none
  | .add, .str a, .str b => if a.size + b.size ≤ 4611686018427387904 then some (.str (a ++ b)) else none
  | .lss, .str a, .str b => some (.bool (Op.bytesLess a.toList b.toList))
  | .leq, .str a, .str b => some (.bool (Op.bytesLess a.toList b.toList || a.toList == b.toList))
  | .gtr, .str a, .str b => some (.bool !(Op.bytesLess a.toList b.toList || a.toList == b.toList))
  | .geq, .str a, .str b => some (.bool !(Op.bytesLess a.toList b.toList))
  | _, _, _ => none

def unA : UnOp → AV → Option AV
  | .neg, .int k n => some (.int k (k.wrap (0 - n)))
  | .xor, .int k n => some (.int k (bitsA .xor k (if k.signed then -1 else k.max) n))
  | .not, .bool b => some (.bool !b)
  | _, _ => none

/-- A part of a struct's cells. -/
def partA (n : Option Nat) (k : Nat) (cs : List AV) : Option AV :=
  match n with
  | none => cs[k]?
  | some n => if k + n ≤ cs.length then some (.agg ((cs.drop k).take n)) else none

/-- A bound of a slice expression. -/
def boundA (top : Nat) : AV → Option Nat
  | .int _ i => if 0 ≤ i ∧ i ≤ (top : Int) then some i.toNat else none
  | _ => none

def optX (e : Env) : Option RX → Option AV
  | none => none
  | some x => some (x.ev e)

/-- x[lo:hi:mx] of a slice: its bounds. -/
def slcA (e : Nat) (x : AV) (lo hi mx : Option AV) : Option AV :=
  let len : Option Nat := match x with | .nils => some 0 | .sl _ _ _ n _ => some n | _ => none
  match len with
  | none => none
  | some n =>
    let m : Option Nat := match mx with | none => some n | some v => boundA n v
    match m with
    | none => none
    | some m =>
      let h : Option Nat := match hi with | none => if mx.isNone then some n else none | some v => boundA m v
      match h with
      | none => none
      | some h =>
        let l : Option Nat := match lo with | none => some 0 | some v => boundA h v
        match l with
        | none => none
        | some l =>
          match x with
          | .nils => some .nils
          | .sl b o es n c => if es = e then some (.sl b (o + l * e) e (h - l) (if mx.isSome then some (m - l) else c.map (· - l))) else none
          | _ => none

def slsA (x : AV) (lo hi : Option AV) : Option AV :=
  match x with
  | .str s =>
    let h : Option Nat := match hi with | none => some s.size | some v => boundA s.size v
    match h with
    | none => none
    | some h =>
      let l : Option Nat := match lo with | none => some 0 | some v => boundA h v
      match l with
      | none => none
      | some l => some (.str (s.extract l h))
  | _ => none

/-- What an operation that asks nothing of the store answers. -/
def pureA (o : RO) (e : Env) : Option AV :=
  match o with
  | .mv x => some (x.ev e)
  | .pick c a b => match c.ev e with
    | .bool true => some (a.ev e)
    | .bool false => some (b.ev e)
    | _ => none
  | .bld zero parts => (fillA zero (evParts e parts)).map .agg
  | .nck x => match x.ev e with
    | .ptr b o => some (.ptr b o)
    | .ifc t v => some (.ifc t v)
    | .fn f cs => some (.fn f cs)
    | _ => none
  | .bin op x y => binA op (x.ev e) (y.ev e)
  | .eq neg q x y => (eqA q (x.ev e) (y.ev e)).map fun b => .bool (if neg then !b else b)
  | .un op x => unA op (x.ev e)
  | .cvi k x => match x.ev e with
    | .int _ n => some (.int k (k.wrap n))
    | _ => none
  | .cvs x => match x.ev e with
    | .str s => some (.str s)
    | _ => none
  | .off k x => match x.ev e with
    | .ptr b o => some (.ptr b (o + k))
    | _ => none
  | .fld n k x => match x.ev e with
    | .agg cs => partA n k cs
    | _ => none
  | .ixa es x i => match x.ev e, i.ev e with
    | .sl b o e' n _, .int _ j => if e' = es ∧ 0 ≤ j ∧ j < (n : Int) then some (.ptr b (o + j.toNat * es)) else none
    | _, _ => none
  | .ixp es len x i => match x.ev e, i.ev e with
    | .ptr b o, .int _ j => if 0 ≤ j ∧ j < (len : Int) then some (.ptr b (o + j.toNat * es)) else none
    | _, _ => none
  | .ixv n es len x i => match x.ev e, i.ev e with
    | .agg cs, .int _ j => if 0 ≤ j ∧ j < (len : Int) then partA n (j.toNat * es) cs else none
    | _, _ => none
  | .ixs x i => match x.ev e, i.ev e with
    | .str s, .int _ j => if h : 0 ≤ j ∧ j.toNat < s.size then some (.int .u8 (s[j.toNat]'h.2).toNat) else none
    | _, _ => none
  | .ext i x => match x.ev e with
    | .tup vs => vs[i]?
    | _ => none
  | .slc es x lo hi mx => slcA es (x.ev e) (optX e lo) (optX e hi) (optX e mx)
  | .sls x lo hi => slsA (x.ev e) (optX e lo) (optX e hi)
  | .lenl x => match x.ev e with
    | .nils => some (.int .i64 0)
    | .sl _ _ _ n _ => some (.int .i64 n)
    | _ => none
  | .lens x => match x.ev e with
    | .str s => some (.int .i64 s.size)
    | _ => none
  | .capl x => match x.ev e with
    | .nils => some (.int .i64 0)
    | .sl _ _ _ _ (some c) => some (.int .i64 c)
    | _ => none
  | .add64 x y c => match x.ev e, y.ev e, c.ev e with
    | .int .u64 x, .int .u64 y, .int .u64 c => if 0 ≤ x ∧ 0 ≤ y ∧ 0 ≤ c ∧ c ≤ 1 then some (.tup [.int .u64 ((x + y + c) % 18446744073709551616), .int .u64 ((x + y + c) / 18446744073709551616)]) else none
    | _, _, _ => none
  | .sub64 x y c => match x.ev e, y.ev e, c.ev e with
    | .int .u64 x, .int .u64 y, .int .u64 c => if 0 ≤ x ∧ 0 ≤ y ∧ 0 ≤ c ∧ c ≤ 1 ∧ y < 18446744073709551616 then some (.tup [.int .u64 ((x - y - c) % 18446744073709551616), .int .u64 (if x < y + c then 1 else 0)]) else none
    | _, _, _ => none
  | .mkf f xs => some (.fn f (evs e xs))
  | .mki t x => some (.ifc t (x.ev e))
  | _ => none

def RO.isPure : RO → Bool
  | .mv _ | .pick .. | .bld .. | .nck _ | .bin .. | .eq .. | .un .. | .cvi .. | .cvs .. | .off .. | .fld .. | .ixa .. | .ixp .. | .ixv .. | .ixs .. | .ext .. | .slc .. | .sls .. | .lenl _ | .lens _ | .capl _ | .add64 .. | .sub64 .. | .mkf .. | .mki .. => true
  | _ => false

/-- Cells of a block. -/
def rdB (s : St) (b : Nat) : Option (List AV) :=
  match s[b]? with
  | some (.cells _ cs) => some cs
  | _ => none

def ldA (s : St) (n : Option Nat) : AV → Option AV
  | .ptr b o => match rdB s b with
    | some cs => partA n o cs
    | none => none
  | _ => none

/-- A block's cells written. -/
def wrA (s : St) (b o : Nat) (vs : List AV) : Option St :=
  match s[b]? with
  | some (.cells true cs) => if o + vs.length ≤ cs.length ∧ vs.all AV.cell = true then some (s.set b (.cells true (setL cs o vs))) else none
  | _ => none

def stA (s : St) (n : Option Nat) (p v : AV) : Option St :=
  match p with
  | .ptr b o => match n with
    | none => if v.cell = true then wrA s b o [v] else none
    | some n => match v with
      | .agg cs => if cs.length = n then wrA s b o cs else none
      | _ => none
  | _ => none

def boxA (n : Option Nat) (v : AV) : Option (List AV) :=
  match n with
  | none => if v.cell = true then some [v] else none
  | some n => match v with
    | .agg cs => if cs.length = n then some cs else none
    | _ => none

/-- The cells that a slice shows. -/
def cellsA (s : St) (e : Nat) : AV → Option (List AV)
  | .nils => some []
  | .sl b o es n _ => match rdB s b with
    | some cs => if es = e ∧ o + n * e ≤ cs.length then some ((cs.drop o).take (n * e)) else none
    | none => none
  | _ => none

def lenA : AV → Option Nat
  | .nils => some 0
  | .sl _ _ _ n _ => some n
  | _ => none

/-- append(x, y...): a new logical block; the elder one is used up, unless it is known to have no room. -/
def appA (s : St) (e bytes : Nat) (x y : AV) : Option (AV × St) :=
  match cellsA s e x, cellsA s e y, lenA x, lenA y with
  | some xs, some ys, some n, some k =>
    if ys.all AV.cell = true ∧ xs.all AV.cell = true ∧ (n + k) * (bytes + 1) ≤ 35184372088832 then
      match x with
      | .nils => if k = 0 then some (.nils, s) else some (.sl s.length 0 e k none, s ++ [.cells true ys])
      | .sl b o _ _ c =>
        if k = 0 then some (.sl b o e n c, s)
        else match c with
          | some c => if n + k ≤ c then none else some (.sl s.length 0 e (n + k) none, s ++ [.cells true (xs ++ ys)])
          | none => match s[b]? with
            | some (.cells true _) => some (.sl s.length 0 e (n + k) none, s.set b .dead ++ [.cells true (xs ++ ys)])
            | _ => none
      | _ => none
    else none
  | _, _, _, _ => none

/-- append(nil, make(n)...). -/
def appzA (s : St) (e bytes : Nat) (zero : List AV) (x y : AV) : Option (AV × St) :=
  match x, y with
  | .nils, .int _ n => if 0 ≤ n ∧ n * (bytes + 1) ≤ 35184372088832 then
      (if n = 0 then some (.nils, s) else some (.sl s.length 0 e n.toNat none, s ++ [.cells true (List.replicate n.toNat zero).flatten])) else none
  | _, _ => none

def mksA (s : St) (e bytes : Nat) (zero : List AV) (l c : AV) : Option (AV × St) :=
  match l, c with
  | .int _ l, .int _ c => if 0 ≤ l ∧ l ≤ c ∧ c * (bytes + 1) ≤ 35184372088832 then
      some (.sl s.length 0 e l.toNat none, s ++ [.cells true (List.replicate c.toNat zero).flatten]) else none
  | _, _ => none

/-- What a statement needs of an optional answer. -/
def ob {α : Type} (x : Option α) (k : α → Prop) : Prop := ∃ v, x = some v ∧ k v

@[simp] theorem ob_some {α : Type} (v : α) (k : α → Prop) : ob (some v) k = k v := by simp [ob]
@[simp] theorem ob_none {α : Type} (k : α → Prop) : ob none k = False := by simp [ob]
theorem ob_ite {α : Type} (c : Prop) [Decidable c] (x y : Option α) (k : α → Prop) : ob (if c then x else y) k = if c then ob x k else ob y k := by split <;> rfl

abbrev Oracle := Nat → List AV → St → (AV → St → Prop) → Prop

/-- One operation, run for itself. -/
def opA (X : Oracle) (o : RO) (e : Env) (s : St) (k : AV → St → Prop) : Prop :=
  match o with
  | .new zero => k (.ptr s.length 0) (s ++ [.cells true zero])
  | .box n x => ob (boxA n (x.ev e)) fun cs => k (.ptr s.length 0) (s ++ [.cells true cs])
  | .bsl es len zero parts => ob (fillA ((List.replicate len zero).flatten) (evParts e parts)) fun cs => k (.sl s.length 0 es len (some len)) (s ++ [.cells true cs])
  | .ld n x => ob (ldA s n (x.ev e)) fun v => k v s
  | .st n x y => ob (stA s n (x.ev e) (y.ev e)) fun s' => k .undef s'
  | .app es by_ x y => ob (appA s es by_ (x.ev e) (y.ev e)) fun r => k r.1 r.2
  | .appz es by_ zero x y => ob (appzA s es by_ zero (x.ev e) (y.ev e)) fun r => k r.1 r.2
  | .mks es by_ zero l c => ob (mksA s es by_ zero (l.ev e) (c.ev e)) fun r => k r.1 r.2
  | .call f xs => X f (evs e xs) s k
  | .calld x xs => match x.ev e with
    | .fn f cs => X f (evs e xs ++ cs) s k
    | _ => False
  | o => ob (pureA o e) fun v => k v s

def putO (e : Env) (d : Option Nat) (v : AV) : Env := match d with | some d => e.put d v | none => e

/-- A guard's word: whether what is guarded is done. An operation that was not done leaves the empty tuple. -/
def gv (want : Bool) : AV → Option Bool
  | .bool b => some (b == want)
  | .tup [] => some false
  | _ => none

/-- The operations of a region one behind the other. -/
def opsA (X : Oracle) : List ROp → Env → St → (Env → St → Prop) → Prop
  | [], e, s, k => k e s
  | o :: os, e, s, k => match o.g with
    | none => opA X o.op e s fun v s' => opsA X os (putO e o.dst v) s' k
    | some (t, want) => match gv want (e.get t) with
      | some true => opA X o.op e s fun v s' => opsA X os (putO e o.dst v) s' k
      | some false => opsA X os (putO e o.dst (.tup [])) s k
      | none => False

/-- A string of bytes. -/
def bts (l : List Nat) : ByteArray := ⟨(l.map Nat.toUInt8).toArray⟩

end Go.Ev
