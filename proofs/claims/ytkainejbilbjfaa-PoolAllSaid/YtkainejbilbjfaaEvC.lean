import Derived.Test.YtkainejbilbjfaaEvB
import Derived.Laws.Build
import Derived.Laws.Slices
import Derived.Laws.Append
import Derived.Laws.MakeOwn
import Derived.Laws.Externs
/-! The compiler from the program's operations, and what the operations that ask nothing of the store do. -/
namespace Go.Ev
set_option linter.unusedVariables false
set_option linter.unusedSimpArgs false

def shp (P : Program) (t : TypeId) : Option (Option Nat) :=
  match P.underlying t, P.info? t with
  | some (.struct _), some i => some (some i.size)
  | some (.array _ _), some i => some (some i.size)
  | some _, some i => if i.size = 1 then some none else none
  | _, _ => none

def szOf (P : Program) (t : TypeId) : Option Nat := (P.info? t).map (·.size)

def zeroV (P : Program) (t : TypeId) : Option AV :=
  match P.info? t with
  | some i => match i.zero with
    | some v => ofConst v
    | none => none
  | none => none

def zeroL (P : Program) (t : TypeId) : Option (List AV) := (zeroV P t).map AV.cells

def compX : Operand → Option RX
  | .tmp t => some (.t t)
  | .const v => (ofConst v).map .k
  | .func f => some (.k (.fn f []))
  | .global _ => none

def compXs : List Operand → Option (List RX)
  | [] => some []
  | x :: xs => match compX x, compXs xs with
    | some a, some as => some (a :: as)
    | _, _ => none

def compXo : Option Operand → Option (Option RX)
  | none => some none
  | some x => (compX x).map some

def compEqs (P : Program) (g : TypeId → Option EqT) : List Field → Option EqL
  | [] => some .nil
  | f :: fs =>
    if f.name = "_" then compEqs P g fs else
    match g f.type, shp P f.type, compEqs P g fs with
    | some q, some none, some r => some (.one f.offset q r)
    | some q, some (some k), some r => some (.sub f.offset k q r)
    | _, _, _ => none

def compEq (P : Program) : Nat → TypeId → Option EqT
  | 0, _ => none
  | n + 1, t => match P.underlying t with
    | some (.int _) => some .i
    | some .bool => some .b
    | some .string => some .s
    | some (.pointer _) => some .p
    | some (.slice _) => some .l
    | some (.map _ _) => some .m
    | some (.func _ _ _) => some .f
    | some (.struct fs) => if P.stoodInHeld t = true ∨ P.eqGuardType P.depth t = true then none else (compEqs P (compEq P n) fs.toList).map .st
    | _ => none

/-- The places of a struct's parts. -/
def placeS (P : Program) (fs : Array Field) (i : Nat) : Option (Nat × Nat) := (fs[i]?).bind fun f => (szOf P f.type).map fun s => (f.offset, s)

def compParts (place : Nat → Option (Nat × Nat)) : List (Nat × Operand) → Option (List (Nat × Nat × RX))
  | [] => some []
  | (i, x) :: r => match place i, compX x, compParts place r with
    | some (o, s), some y, some l => some ((o, s, y) :: l)
    | _, _, _ => none

def sub64Entry : Array Value → Sem Value := fun args => do
  let (x, y, b) ← Extern.MathBitsCarry.three "Sub64" args
  pure (Extern.MathBitsCarry.pair ((x + Extern.MathBitsCarry.m64 - y - b) % Extern.MathBitsCarry.m64) (if x < y + b then 1 else 0))

/-- The numbers of the functions without a body. -/
structure Ex where
  add : Option Nat
  sub : Option Nat

def IsExt (P : Program) (f : Nat) (e : Array Value → Sem Value) : Prop :=
  ∃ fn, P.funcs[f]? = some fn ∧ (fn.name == "runtime.NumGoroutine") = false ∧ fn.body.isNone = true ∧ Extern.findNext fn = none ∧ Extern.find fn = some e

structure ExOK (P : Program) (E : Ex) : Prop where
  add : ∀ f, E.add = some f → IsExt P f add64Entry
  sub : ∀ f, E.sub = some f → IsExt P f sub64Entry

def compCall (P : Program) (E : Ex) (c : Call) : Option RO :=
  match compXs c.args.toList with
  | none => none
  | some xs => match c.callee with
    | .value (.func f) =>
      if E.add = some f then match xs with
        | [x, y, z] => some (.add64 x y z)
        | _ => none
      else if E.sub = some f then match xs with
        | [x, y, z] => some (.sub64 x y z)
        | _ => none
      else some (.call f xs)
    | .value (.tmp t) => some (.calld (.t t) xs)
    | .builtin .len => match c.argTypes[0]?, xs with
      | some t, [x] => match P.underlying t with
        | some (.slice _) => some (.lenl x)
        | some .string => some (.lens x)
        | _ => none
      | _, _ => none
    | .builtin .cap => match c.argTypes[0]?, xs with
      | some t, [x] => match P.underlying t with
        | some (.slice _) => some (.capl x)
        | _ => none
      | _, _ => none
    | .builtin .append => match c.argTypes[0]?, c.argTypes[1]?, xs with
      | some t, some u, [x, y] => match P.underlying t, P.underlying u with
        | some (.slice e), some (.slice _) => match P.info? e, zeroL P e with
          | some i, some z => if z.length = i.size then some (.app i.size i.bytes x y) else none
          | _, _ => none
        | some (.slice e), some (.int _) => match P.info? e, zeroL P e with
          | some i, some z => if z.length = i.size ∧ 0 < i.size then some (.appz i.size i.bytes z x y) else none
          | _, _ => none
        | _, _ => none
      | _, _, _ => none
    | _ => none

def compOp (P : Program) (E : Ex) (o : Op) (ty : TypeId) : Option RO :=
  match o with
  | .move x | .assign x => (compX x).map .mv
  | .pick c a b => match compX c, compX a, compX b with
    | some c, some a, some b => some (.pick c a b)
    | _, _, _ => none
  | .alloc t => (zeroL P t).map .new
  | .box t x => match shp P t, compX x with
    | some n, some x => some (.box n x)
    | _, _ => none
  | .build t parts => match P.underlying t, zeroV P t with
    | some (.struct fs), some (.agg z) => if fs.toList.all (fun f => (szOf P f.type).isSome) then (compParts (placeS P fs) parts.toList).map (.bld z) else none
    | some (.array _ e), some (.agg z) => match szOf P e with
      | some s => (compParts (fun i => some (i * s, s)) parts.toList).map (.bld z)
      | none => none
    | _, _ => none
  | .buildSlice t len parts => match P.underlying t with
    | some (.slice e) => match szOf P e, zeroL P e with
      | some s, some z => if len * s ≤ 16777216 ∧ z.length = s ∧ 0 < s then match compParts (fun i => some (i * s, s)) parts.toList with
        | some l => some (.bsl s len z l)
        | none => none
        else none
      | _, _ => none
    | _ => none
  | .load t a => match shp P t, compX a with
    | some n, some a => some (.ld n a)
    | _, _ => none
  | .store t a x => match shp P t, compX a, compX x with
    | some n, some a, some x => some (.st n a x)
    | _, _, _ => none
  | .nilCheck x => (compX x).map .nck
  | .binOp .eql t x y _ => match compEq P 20 t, compX x, compX y with
    | some q, some x, some y => some (.eq false q x y)
    | _, _, _ => none
  | .binOp .neq t x y _ => match compEq P 20 t, compX x, compX y with
    | some q, some x, some y => some (.eq true q x y)
    | _, _, _ => none
  | .binOp op t x y _ => match compX x, compX y with
    | some x, some y => some (.bin op x y)
    | _, _ => none
  | .unOp op t x => (compX x).map (.un op)
  | .convert s d x => match P.underlying s, P.underlying d, compX x with
    | some (.int _), some (.int k), some x => some (.cvi k x)
    | some .string, some .string, some x => some (.cvs x)
    | _, _, _ => none
  | .makeInterface t x => match P.underlying t, compX x with
    | some (.interface _), _ => none
    | some _, some x => some (.mki t x)
    | _, _ => none
  | .makeFunc (.func f) first captured => if first.size = 0 then (compXs captured.toList).map (.mkf f) else none
  | .makeSlice t l c => match P.underlying t, compX l, compX c with
    | some (.slice e), some l, some c => match P.info? e, zeroL P e with
      | some i, some z => if z.length = i.size ∧ 0 < i.size then some (.mks i.size i.bytes z l c) else none
      | _, _ => none
    | _, _, _ => none
  | .slice t x lo hi mx => match compX x, compXo lo, compXo hi, compXo mx with
    | some x, some lo, some hi, some mx => match P.underlying t with
      | some (.slice e) => (szOf P e).map fun s => .slc s x lo hi mx
      | some .string => if mx.isNone then some (.sls x lo hi) else none
      | _ => none
    | _, _, _, _ => none
  | .fieldAddr t x f => match P.underlying t, compX x with
    | some (.struct fs), some x => match fs[f]? with
      | some f => match szOf P f.type with
        | some s => if s = 0 then none else some (.off f.offset x)
        | none => none
      | none => none
    | _, _ => none
  | .field t x f => match P.underlying t, compX x with
    | some (.struct fs), some x => match fs[f]? with
      | some f => (shp P f.type).map fun n => .fld n f.offset x
      | none => none
    | _, _ => none
  | .indexAddr t x i => match P.underlying t, compX x, compX i with
    | some (.slice e), some x, some i => (szOf P e).map fun s => .ixa s x i
    | some (.array n e), some x, some i => (szOf P e).map fun s => .ixp s n x i
    | _, _, _ => none
  | .index t x i => match P.underlying t, compX x, compX i with
    | some (.array n e), some x, some i => match shp P e, szOf P e with
      | some k, some s => some (.ixv k s n x i)
      | _, _ => none
    | some .string, some x, some i => some (.ixs x i)
    | _, _, _ => none
  | .extract x i => (compX x).map (.ext i)
  | .call c => compCall P E c
  | _ => none

theorem compX_vr {m : Inj} {e : Env} {a : Act} (h : ER m e a) {x : Operand} {r : RX} (hx : compX x = some r) : VR m (r.ev e) (a.eval x) := by
  cases x with
  | tmp t => simp [compX] at hx; subst hx; exact h t
  | const v => simp [compX] at hx; obtain ⟨b, hb, rfl⟩ := hx; exact ofConst_vr hb
  | func f => simp [compX] at hx; subst hx; exact ⟨#[], rfl, rfl⟩
  | global g => simp [compX] at hx

theorem compXs_vr {m : Inj} {e : Env} {a : Act} (h : ER m e a) : ∀ {xs : List Operand} {rs : List RX}, compXs xs = some rs → VRs m (evs e rs) (xs.map a.eval)
  | [], rs, hx => by simp [compXs] at hx; subst hx; rfl
  | x :: xs, rs, hx => by
    simp only [compXs] at hx
    split at hx <;> simp at hx
    subst hx
    rename_i h1 h2
    exact ⟨_, _, rfl, compX_vr h h1, compXs_vr h h2⟩

theorem zeroV_vr {P : Program} {t : TypeId} {a : AV} (h : zeroV P t = some a) : ∃ i v, P.info? t = some i ∧ i.zero = some v ∧ ofConst v = some a := by
  unfold zeroV at h
  split at h
  · rename_i i hi
    split at h
    · rename_i v hv; exact ⟨i, v, hi, hv, h⟩
    · simp at h
  · simp at h

theorem ofConst_cells {m : Inj} {v : Value} {a : AV} (h : ofConst v = some a) : VRs m a.cells v.cells.toList := by
  refine VR.cells (ofConst_vr h) ?_
  unfold ofConst at h
  split at h
  · simp at h; obtain ⟨as, _, rfl⟩ := h; exact .inr ⟨as, rfl⟩
  · exact .inl (ofScalar_cell h)

theorem zeroL_vr {P : Program} {t : TypeId} {z : List AV} (h : zeroL P t = some z) : ∃ i v, P.info? t = some i ∧ i.zero = some v ∧ ∀ m, VRs m z v.cells.toList := by
  unfold zeroL at h
  simp at h
  obtain ⟨a, ha, rfl⟩ := h
  obtain ⟨i, v, h1, h2, h3⟩ := zeroV_vr ha
  exact ⟨i, v, h1, h2, fun m => ofConst_cells h3⟩

end Go.Ev
